/- What is proved here: a part of the proof of CircuitAppendMul: Cst, Csp. No conditions beside those that each theorem states. -/
import Derived.Test.YtmnleabeipmhmaaDoorKCAMul7
import Derived.Test.YtmnleabeipmhmaaDoorKCAMul6
import Derived.Shelf.Strings.SplitCore
import Derived.Lib.SplitLaws
import Derived.Laws.OwnMore
import Derived.Test.YtmnleabeipmhmaaDoorKCAMul26
import Derived.Test.YtmnleabeipmhmaaDoorKCAMul16
import Derived.OwnWalk
import Derived.Deep.DeepCutAuto
import Derived.Deep.CutRange
section
set_option linter.unusedVariables false
set_option linter.unusedSimpArgs false
namespace Go.Proofs.YtmnleabeipmhmaaDoor.P
open Go.RowKit Go.Proofs.YtmnleabeipmhmaaDoorW.PrintWords Go.Proofs.YtmnleabeipmhmaaDoorW.PrintLast Go.Proofs.YtmnleabeipmhmaaDoorW.PrintMore
def zb3 (s sep : ByteArray) (sv : Nat) : List ByteArray := Lib.splitB sep sv (Lib.countB s sep) s
theorem genSplit_calls (s sep : ByteArray) (sv : Nat) (w : World) (hs : s.size < 4294967281) (h1 : sep.size = 1) (hsv : sv ≤ 1) :
    Calls Tryd.prog 57 #[.string s, .string sep, .int .i64 sv, .int .i64 (-1)] w fun e w' =>
      e = .returned (.slice (some ⟨w.heap.size, 0, none⟩) (zb3 s sep sv).length (zb3 s sep sv).length) ∧ w' = w.alloc (.cells ((zb3 s sep sv).map Value.string).toArray 9) := by
  have hle := Lib.countB_le sep (by omega) s.size s (Nat.le_refl _)
  have hlen := Lib.splitB_all sep (by omega) sv _ s rfl
  obtain ⟨c, rfl⟩ := Lib.one_byte sep h1
  have hI : ∀ (x : ByteArray) (cs : Array Value), x.size ≤ s.size → Calls Tryd.prog 71 #[.string x, .string ⟨#[c]⟩] (w.alloc (.cells cs 9)) fun e w' => e = .returned (.int .i64 (Lib.indexB x ⟨#[c]⟩)) ∧ w' = w.alloc (.cells cs 9) := by
    intro x cs hx
    refine (Tryd.strings_Index_one x c _).mono fun e w' ⟨he, hw⟩ => ⟨?_, hw⟩
    rw [he]
    rw [show Lib.indexB x ⟨#[c]⟩ = Lib.indexByte x.data.toList c from Lib.index_one _ _]
  have hC : Calls Tryd.prog 70 #[.string s, .string ⟨#[c]⟩] w fun e w' => e = .returned (.int .i64 (Lib.countB s ⟨#[c]⟩)) ∧ w' = w := by
    refine (Tryd.strings_Count_one s c w).mono fun e w' ⟨he, hw⟩ => ⟨?_, hw⟩
    rw [he]
    show _ = Ending.returned (Value.int .i64 ((Lib.count s.data.toList [c] : Nat) : Int))
    rw [Lib.count_one]
    first | rfl | simp
  have h := Any.strings_genSplit_core Tryd.lays221 (by kernel_rfl) s ⟨#[c]⟩ sv (-1) (Lib.countB s ⟨#[c]⟩ + 1) w hs (Nat.le_refl 1) hsv hI hC (by decide) (by decide) (by rw [if_pos (by decide)]; omega)
  rw [Nat.add_sub_cancel, hlen] at h
  have e2 : Lib.cellsOf (Lib.splitB ⟨#[c]⟩ sv (Lib.countB s ⟨#[c]⟩) s) (Lib.countB s ⟨#[c]⟩ + 1) = ((Lib.splitB ⟨#[c]⟩ sv (Lib.countB s ⟨#[c]⟩) s).map Value.string).toArray := by rw [← hlen]; exact Lib.cellsOf_full _
  rw [e2] at h
  rw [← hlen] at h
  exact h
set_option maxHeartbeats 1000000 in
theorem split_lib (a0 a1 : ByteArray) (w : World) (h1 : a0.size < 4294967281) (h2 : a1.size = 1) :
    Calls Tryd.prog 73 #[.string a0, .string a1] w fun e w' => e = .returned (.slice (some ⟨w.heap.size, 0, none⟩) (zb3 a0 a1 0).length (zb3 a0 a1 0).length) ∧ w' = w.alloc (.cells ((zb3 a0 a1 0).map Value.string).toArray 9) := by
  have c := genSplit_calls a0 a1 0 w h1 h2 (by omega)
  generalize zb3 a0 a1 0 = l at c ⊢
  go_enter Tryd.func73, Tryd.ntmps73
  go_wp2_with (go_at_call 57; refine c.mono ?_; rintro e w' ⟨rfl, rfl⟩)
  go_ret
  exact ⟨rfl, rfl⟩
set_option maxHeartbeats 1000000 in
theorem splitAfter_lib (a0 a1 : ByteArray) (w : World) (h1 : a0.size < 4294967281) (h2 : a1.size = 1) :
    Calls Tryd.prog 39 #[.string a0, .string a1] w fun e w' => e = .returned (.slice (some ⟨w.heap.size, 0, none⟩) (zb3 a0 a1 1).length (zb3 a0 a1 1).length) ∧ w' = w.alloc (.cells ((zb3 a0 a1 1).map Value.string).toArray 9) := by
  have c := genSplit_calls a0 a1 1 w h1 h2 (by omega)
  generalize zb3 a0 a1 1 = l at c ⊢
  have hz : (a1.size : Int) = 1 := by omega
  go_enter Tryd.func39, Tryd.ntmps39
  go_wp2_with (go_at_call 57; (try rw [hz]); refine c.mono ?_; rintro e w' ⟨rfl, rfl⟩)
  go_ret
  exact ⟨rfl, rfl⟩
theorem pieces_size (sep : ByteArray) (sv : Nat) : ∀ (k : Nat) (s x : ByteArray), x ∈ Lib.splitB sep sv k s → x.size ≤ s.size
  | 0, s, x, h => by
    simp only [Lib.splitB_zero, List.mem_cons, List.not_mem_nil, or_false] at h
    subst h; exact Nat.le_refl _
  | k + 1, s, x, h => by
    unfold Lib.splitB at h
    split at h
    · simp only [List.mem_cons, List.not_mem_nil, or_false] at h
      subst h; exact Nat.le_refl _
    · rcases List.mem_cons.1 h with h | h
      · subst h; rw [ByteArray.size_extract]; omega
      · have := pieces_size sep sv k _ x h
        rw [ByteArray.size_extract] at this; omega
theorem piece_size {s sep x : ByteArray} {sv : Nat} (h : x ∈ zb3 s sep sv) : x.size ≤ s.size := pieces_size sep sv _ s x h
end Go.Proofs.YtmnleabeipmhmaaDoor.P
end
section
set_option linter.unusedVariables false
set_option linter.unusedSimpArgs false
namespace Go.Proofs.YtmnleabeipmhmaaDoor.P
open Go.RowKit Go.Proofs.YtmnleabeipmhmaaDoorW.PrintWords Go.Proofs.YtmnleabeipmhmaaDoorW.PrintLast Go.Proofs.YtmnleabeipmhmaaDoorW.PrintMore
def zcz : List ByteArray → Option (List Int)
  | [] => some []
  | x :: r => if (parseD x.data.toList).2 = 0 then (zcz r).map (((parseD x.data.toList).1 : Int) :: ·) else none
def splitL : List ByteArray → ByteArray × List Int × Bool
  | [] => (⟨#[]⟩, [], false)
  | p :: r => match zcz r with
    | some l => (p, l, true)
    | none => (⟨#[]⟩, [], false)
def splitF (s : ByteArray) : ByteArray × List Int × Bool := splitL (zb3 s ⟨#[32]⟩ 0)
theorem pieces_count (s sep : ByteArray) (sv : Nat) (h1 : sep.size = 1) : (zb3 s sep sv).length ≤ s.size + 1 := by
  have hle := Lib.countB_le sep (by omega) s.size s (Nat.le_refl _)
  have hlen := Lib.splitB_all sep (by omega) sv _ s rfl
  unfold zb3
  omega
theorem pieces_ne (s sep : ByteArray) (sv : Nat) : zb3 s sep sv ≠ [] := by
  unfold zb3 Lib.splitB
  split
  · simp
  · split <;> simp
set_option maxHeartbeats 4000000 in
set_option maxRecDepth 100000 in
theorem split_calls (s : ByteArray) (w : World) (hLd : Ld w) (hs : s.size < 4294967281) :
    Calls Tryd.prog 59 #[.string s] w fun e w' => ∃ v : Value, e = .returned (.tuple #[.string (splitF s).1, v, .bool (splitF s).2.2]) ∧ Kd.R (Kd.int .u64) 22 w' w.heap.size (fun _ => True) v (splitF s).2.1 ∧ Below w.heap.size w w' := by
  have hSP := split_lib s ⟨#[32]⟩ w hs rfl
  have hsz : ∀ x ∈ zb3 s ⟨#[32]⟩ 0, x.size ≤ 140737488355328 := fun x hx => by have := piece_size hx; omega
  have hne := pieces_ne s ⟨#[32]⟩ 0
  have hml := pieces_count s ⟨#[32]⟩ 0 rfl
  unfold splitF
  generalize zb3 s ⟨#[32]⟩ 0 = ps at *
  obtain ⟨p, r, rfl⟩ : ∃ p r, ps = p :: r := by
    cases ps with
    | nil => exact absurd rfl hne
    | cons p r => exact ⟨p, r, rfl⟩
  have hm1 : r.length + 1 ≤ 4294967281 := by simp only [List.length_cons] at hml; omega
  generalize hE : splitL (p :: r) = E
  have hE2 : (match zcz r with | some l => (p, l, true) | none => (⟨#[]⟩, [], false)) = E := hE
  rw [List.length_cons, List.map_cons] at hSP
  have hm0 : r.length ≤ 9223372036854775807 := by omega
  have HSP := Lib.hid hSP
  have HSZ := Lib.hid hsz
  have HE := Lib.hid hE2
  have HLD := Lib.hid hLd
  have hx1 := heap_alloc_new w (.cells (Value.string p :: r.map Value.string).toArray 9)
  have hb1 := zao (Below.refl w.heap.size w) (.cells (Value.string p :: r.map Value.string).toArray 9)
  clear hSP hsz hE hE2 hne hLd hml
  go_enter Tryd.func59, Tryd.ntmps59
  go_upto_region 2 with (go_at_call 73; refine HSP.out.mono ?_; rintro e w' ⟨rfl, rfl⟩)
  generalize w.alloc (.cells (Value.string p :: r.map Value.string).toArray 9) = w1 at *
  generalize hb : w.heap.size = b at *
  obtain ⟨off, hoff⟩ : ∃ off : Nat, off = if r.length = 0 then 0 else 1 := ⟨_, rfl⟩
  obtain ⟨i9, hi9, _, hsz9, _⟩ := info_parts info9
  have hcut : ∀ W : World, (Instr.slice 69 (.slice (some ⟨b, 0, none⟩) (r.length + 1) (r.length + 1)) (some (.int .i64 1)) none none).run Tryd.prog W = .ok (.slice (some ⟨b, off, none⟩) r.length r.length) W := by
    intro W
    have h := cut_from (P := Tryd.prog) 69 9 .i64 Tryd.underlying69 hi9 1 hsz9 (some ⟨b, 0, none⟩) (r.length + 1) (r.length + 1) 1 (by decide) (by omega) W
    rw [h, show Int.toNat 1 = 1 from rfl]
    by_cases h0 : r.length = 0
    · rw [if_pos (show r.length + 1 = 1 by omega), hoff, if_pos h0]; simp
    · rw [if_neg (show ¬ r.length + 1 = 1 by omega), hoff, if_neg h0]; simp [Addr.add]
  have hcell : ∀ i, (hi : i < r.length) → ∀ W : World, Below w1.heap.size w1 W → W.cell? ⟨b, off + i, none⟩ = some (.string r[i]) := by
    intro i hi W hW
    rw [zak (zbl hx1 hW), hoff, if_neg (by omega)]
    simp [Nat.add_comm 1 i, hi]
  have hfirst : ∀ W : World, Below w1.heap.size w1 W → W.cell? ⟨b, 0, none⟩ = some (.string p) := by
    intro W hW
    rw [zak (zbl hx1 hW)]
    simp
  have HCE := Lib.hid hcell
  have HFI := Lib.hid hfirst
  have HB1 := Lib.hid hb1
  have HLD1 := Lib.hid (HLD.out.below (hb ▸ hb1))
  have HBB := Lib.hid hb
  clear hcell hfirst hx1 hb1 HLD HSP hoff hb
  go_wp2_with fail
  clear hcut
  go_loopw [6, 8, 9, 10, 16] (fun v6 _ _ _ v16 wr => ∃ (i : Nat) (ys : List Int), v16 = .int .i64 i ∧ i ≤ r.length ∧ ys.length = i ∧ Kd.R (Kd.int .u64) 22 wr w1.heap.size (fun _ => True) v6 ys ∧ zcz r = (zcz (r.drop i)).map (ys ++ ·) ∧ Below w1.heap.size w1 wr) (fun _ _ _ _ v16 _ => ((r.length : Int) - intOf v16).toNat)
  case atStart => exact ⟨0, [], rfl, Nat.zero_le _, rfl, Kd.R_nil _ _ _ _ _, by rw [List.drop_zero]; cases zcz r <;> rfl, Below.refl _ _⟩
  case round =>
    obtain ⟨i, ys, rfl, hi, hyl, hR, hpa, hB⟩ := hrel
    by_cases hlt : i < r.length
    · have hc := HCE.out i hlt wr hB
      have hxs := HSZ.out r[i] (List.mem_cons_of_mem _ (List.getElem_mem hlt))
      rw [List.drop_eq_getElem_cons hlt] at hpa
      generalize r[i] = x at *
      have hf : zcc.f x = some (((parseD x.data.toList).1 : Int), (parseD x.data.toList).2) := by
        unfold zcc.f
        rw [gate_eq, if_pos (by simpa using hxs)]
      have hpc := fun W h => zcc.calls x _ _ W h hf
      simp only [zcz] at hpa
      generalize ((parseD x.data.toList).1 : Int) = n at *
      generalize (parseD x.data.toList).2 = er at *
      obtain ⟨A6, c6, e6⟩ := Kd.R_slice hR
      subst e6
      have HPC := Lib.hid hpc
      have HPA := Lib.hid hpa
      have HR := Lib.hid hR
      have HB := Lib.hid hB
      have HYL := Lib.hid hyl
      have HLW := Lib.hid (HLD1.out.below hB)
      have HM := Lib.hid hm1
      clear hpc hpa hR hB hf hxs hyl hm1
      cases he : (er != 0)
      · have hP2 : zcz r = (zcz (r.drop (i + 1))).map ((ys ++ [n]) ++ ·) := by
          have h := HPA.out
          rw [if_pos (by simpa using he)] at h
          rw [h]
          cases zcz (r.drop (i + 1)) <;> simp
        have HP2 := Lib.hid hP2
        clear hP2
        go_wp2_with (first
          | (go_at_call 74
             refine (HPC.out wr HLW.out).mono ?_
             rintro e w4 ⟨rfl, hb4⟩
             have HR4 := Lib.hid (Kd.R_below HR.out hb4)
             have HB4 := Lib.hid (HB.out.trans (hb4.mono HB.out.size))
             clear hb4 HR HB HPC HLW hc)
          | ((with_reducible refine zbi (b := .append) (xs := #[.tmp 27, .tmp 29]) rfl ?_)
             at_builtin
             refine Kd.R_append (Kd.int .u64) (w0 := w1) w1.heap.size rfl (.tmp 27) (.tmp 29) 62 22 (.int .u64 0) 8 rfl Tryd.underlying62 info22 rfl (by decide) (by omega) (.slice A6 ys.length c6) ys n [.int .u64 n] (fun _ => True) (fun _ => False) rfl rfl ?aP (fun _ hk => hk.elim) ?aF ?aO ?aB ?aS ?aL ?_
             (case aP => exact rfl)
             (case aF => exact (fun _ _ => trivial))
             (case aO => exact HR4.out)
             (case aB => exact HB4.out)
             (case aS => exact HB4.out.size)
             (case aL => have h1 := HYL.out; have h2 := HM.out; omega)
             intro v1 w9 ho hbn hg hat
             have HO := Lib.hid ho
             have HBN := Lib.hid hbn
             clear ho hbn hg hat))
        exact ⟨⟨i + 1, ys ++ [n], rfl, by omega, by rw [List.length_append, HYL.out]; rfl, HO.out, HP2.out, HBN.out⟩, by simp only [intOf]; omega⟩
      · have hEv : E = (⟨#[]⟩, [], false) := by
          have h := HPA.out
          rw [if_neg (by simpa using he)] at h
          rw [← HE.out, h]; rfl
        go_wp2_with (first
          | (go_at_call 74
             refine (HPC.out wr HLW.out).mono ?_
             rintro e w4 ⟨rfl, hb4⟩
             have HB4 := Lib.hid (HB1.out.trans ((HB.out.trans (hb4.mono HB.out.size)).mono (HBB.out ▸ HB1.out.size)))
             clear hb4 HR HB HPC HLW hc))
        go_ret3
        rw [hEv]
        exact ⟨_, rfl, Kd.R_nil _ _ _ _ _, HBB.out ▸ HB4.out⟩
    · have hil : i = r.length := by omega
      rw [hil, List.drop_length] at hpa
      have hEv : E = (p, ys, true) := by
        rw [← HE.out, hpa]; simp [zcz]
      have hp := HFI.out wr hB
      have HR := Lib.hid (Kd.R_lower hR (show b ≤ w1.heap.size from HBB.out ▸ HB1.out.size))
      have HBC := Lib.hid (HB1.out.trans (hB.mono (HBB.out ▸ HB1.out.size)))
      clear hpa hil hR hB HE
      go_wp2_with fail
      go_ret3
      rw [hEv]
      exact ⟨_, rfl, HBB.out ▸ HR.out, HBB.out ▸ HBC.out⟩
end Go.Proofs.YtmnleabeipmhmaaDoor.P
end
