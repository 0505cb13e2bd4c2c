/- What is proved here: a part of the proof of CircuitParse: Cst, Csp, Crd. No conditions beside those that each theorem states. -/
import Derived.Test.YtmnleabeipmhmaaDoorKCPse6
import Derived.Test.YtmnleabeipmhmaaDoorKCPse5
import Derived.Shelf.Strings.SplitCore
import Derived.Lib.SplitLaws
import Derived.Laws.OwnMore
import Derived.Test.YtmnleabeipmhmaaDoorKCPse14
import Derived.Test.YtmnleabeipmhmaaDoorKCPse8
import Derived.OwnWalk
import Derived.Deep.DeepCutAuto
import Derived.Deep.CutRange
import Derived.Test.YtmnleabeipmhmaaDoorKCPse20
section
set_option linter.unusedVariables false
set_option linter.unusedSimpArgs false
namespace Go.Proofs.YtmnleabeipmhmaaDoor.P
open Go.RowKit Go.Proofs.YtmnleabeipmhmaaDoorW.PrintWords Go.Proofs.YtmnleabeipmhmaaDoorW.PrintLast Go.Proofs.YtmnleabeipmhmaaDoorW.PrintMore
def zck (s sep : ByteArray) (sv : Nat) : List ByteArray := Lib.splitB sep sv (Lib.countB s sep) s
theorem genSplit_calls (s sep : ByteArray) (sv : Nat) (w : World) (hs : s.size < 4294967281) (h1 : sep.size = 1) (hsv : sv ≤ 1) :
    Calls Tryd.prog 57 #[.string s, .string sep, .int .i64 sv, .int .i64 (-1)] w fun e w' =>
      e = .returned (.slice (some ⟨w.heap.size, 0, none⟩) (zck s sep sv).length (zck s sep sv).length) ∧ w' = w.alloc (.cells ((zck s sep sv).map Value.string).toArray 9) := by
  have hle := Lib.countB_le sep (by omega) s.size s (Nat.le_refl _)
  have hlen := Lib.splitB_all sep (by omega) sv _ s rfl
  obtain ⟨c, rfl⟩ := Lib.one_byte sep h1
  have hI : ∀ (x : ByteArray) (cs : Array Value), x.size ≤ s.size → Calls Tryd.prog 71 #[.string x, .string ⟨#[c]⟩] (w.alloc (.cells cs 9)) fun e w' => e = .returned (.int .i64 (Lib.indexB x ⟨#[c]⟩)) ∧ w' = w.alloc (.cells cs 9) := by
    intro x cs hx
    refine (Tryd.strings_Index_one x c _).mono fun e w' ⟨he, hw⟩ => ⟨?_, hw⟩
    rw [he]
    rw [show Lib.indexB x ⟨#[c]⟩ = Lib.indexByte x.data.toList c from Lib.index_one _ _]
  have hC : Calls Tryd.prog 70 #[.string s, .string ⟨#[c]⟩] w fun e w' => e = .returned (.int .i64 (Lib.countB s ⟨#[c]⟩)) ∧ w' = w := by
    refine (Tryd.strings_Count_one s c w).mono fun e w' ⟨he, hw⟩ => ⟨?_, hw⟩
    rw [he]
    show _ = Ending.returned (Value.int .i64 ((Lib.count s.data.toList [c] : Nat) : Int))
    rw [Lib.count_one]
    first | rfl | simp
  have h := Any.strings_genSplit_core Tryd.lays221 (by kernel_rfl) s ⟨#[c]⟩ sv (-1) (Lib.countB s ⟨#[c]⟩ + 1) w hs (Nat.le_refl 1) hsv hI hC (by decide) (by decide) (by rw [if_pos (by decide)]; omega)
  rw [Nat.add_sub_cancel, hlen] at h
  have e2 : Lib.cellsOf (Lib.splitB ⟨#[c]⟩ sv (Lib.countB s ⟨#[c]⟩) s) (Lib.countB s ⟨#[c]⟩ + 1) = ((Lib.splitB ⟨#[c]⟩ sv (Lib.countB s ⟨#[c]⟩) s).map Value.string).toArray := by rw [← hlen]; exact Lib.cellsOf_full _
  rw [e2] at h
  rw [← hlen] at h
  exact h
set_option maxHeartbeats 1000000 in
theorem split_lib (a0 a1 : ByteArray) (w : World) (h1 : a0.size < 4294967281) (h2 : a1.size = 1) :
    Calls Tryd.prog 73 #[.string a0, .string a1] w fun e w' => e = .returned (.slice (some ⟨w.heap.size, 0, none⟩) (zck a0 a1 0).length (zck a0 a1 0).length) ∧ w' = w.alloc (.cells ((zck a0 a1 0).map Value.string).toArray 9) := by
  have c := genSplit_calls a0 a1 0 w h1 h2 (by omega)
  generalize zck a0 a1 0 = l at c ⊢
  go_enter Tryd.func73, Tryd.ntmps73
  go_wp2_with (go_at_call 57; refine c.mono ?_; rintro e w' ⟨rfl, rfl⟩)
  go_ret
  exact ⟨rfl, rfl⟩
set_option maxHeartbeats 1000000 in
theorem splitAfter_lib (a0 a1 : ByteArray) (w : World) (h1 : a0.size < 4294967281) (h2 : a1.size = 1) :
    Calls Tryd.prog 39 #[.string a0, .string a1] w fun e w' => e = .returned (.slice (some ⟨w.heap.size, 0, none⟩) (zck a0 a1 1).length (zck a0 a1 1).length) ∧ w' = w.alloc (.cells ((zck a0 a1 1).map Value.string).toArray 9) := by
  have c := genSplit_calls a0 a1 1 w h1 h2 (by omega)
  generalize zck a0 a1 1 = l at c ⊢
  have hz : (a1.size : Int) = 1 := by omega
  go_enter Tryd.func39, Tryd.ntmps39
  go_wp2_with (go_at_call 57; (try rw [hz]); refine c.mono ?_; rintro e w' ⟨rfl, rfl⟩)
  go_ret
  exact ⟨rfl, rfl⟩
theorem pieces_size (sep : ByteArray) (sv : Nat) : ∀ (k : Nat) (s x : ByteArray), x ∈ Lib.splitB sep sv k s → x.size ≤ s.size
  | 0, s, x, h => by
    simp only [Lib.splitB_zero, List.mem_cons, List.not_mem_nil, or_false] at h
    subst h; exact Nat.le_refl _
  | k + 1, s, x, h => by
    unfold Lib.splitB at h
    split at h
    · simp only [List.mem_cons, List.not_mem_nil, or_false] at h
      subst h; exact Nat.le_refl _
    · rcases List.mem_cons.1 h with h | h
      · subst h; rw [ByteArray.size_extract]; omega
      · have := pieces_size sep sv k _ x h
        rw [ByteArray.size_extract] at this; omega
theorem piece_size {s sep x : ByteArray} {sv : Nat} (h : x ∈ zck s sep sv) : x.size ≤ s.size := pieces_size sep sv _ s x h
end Go.Proofs.YtmnleabeipmhmaaDoor.P
end
section
set_option linter.unusedVariables false
set_option linter.unusedSimpArgs false
namespace Go.Proofs.YtmnleabeipmhmaaDoor.P
open Go.RowKit Go.Proofs.YtmnleabeipmhmaaDoorW.PrintWords Go.Proofs.YtmnleabeipmhmaaDoorW.PrintLast Go.Proofs.YtmnleabeipmhmaaDoorW.PrintMore
def zdj : List ByteArray → Option (List Int)
  | [] => some []
  | x :: r => if (zc5 x.data.toList).2 = 0 then (zdj r).map (((zc5 x.data.toList).1 : Int) :: ·) else none
def splitL : List ByteArray → ByteArray × List Int × Bool
  | [] => (⟨#[]⟩, [], false)
  | p :: r => match zdj r with
    | some l => (p, l, true)
    | none => (⟨#[]⟩, [], false)
def splitF (s : ByteArray) : ByteArray × List Int × Bool := splitL (zck s ⟨#[32]⟩ 0)
theorem pieces_count (s sep : ByteArray) (sv : Nat) (h1 : sep.size = 1) : (zck s sep sv).length ≤ s.size + 1 := by
  have hle := Lib.countB_le sep (by omega) s.size s (Nat.le_refl _)
  have hlen := Lib.splitB_all sep (by omega) sv _ s rfl
  unfold zck
  omega
theorem pieces_ne (s sep : ByteArray) (sv : Nat) : zck s sep sv ≠ [] := by
  unfold zck Lib.splitB
  split
  · simp
  · split <;> simp
set_option maxHeartbeats 4000000 in
set_option maxRecDepth 100000 in
theorem split_calls (s : ByteArray) (w : World) (hLd : Ld w) (hs : s.size < 4294967281) :
    Calls Tryd.prog 59 #[.string s] w fun e w' => ∃ v : Value, e = .returned (.tuple #[.string (splitF s).1, v, .bool (splitF s).2.2]) ∧ Kd.R (Kd.int .u64) 22 w' w.heap.size (fun _ => True) v (splitF s).2.1 ∧ Below w.heap.size w w' := by
  have hSP := split_lib s ⟨#[32]⟩ w hs rfl
  have hsz : ∀ x ∈ zck s ⟨#[32]⟩ 0, x.size ≤ 140737488355328 := fun x hx => by have := piece_size hx; omega
  have hne := pieces_ne s ⟨#[32]⟩ 0
  have hml := pieces_count s ⟨#[32]⟩ 0 rfl
  unfold splitF
  generalize zck s ⟨#[32]⟩ 0 = ps at *
  obtain ⟨p, r, rfl⟩ : ∃ p r, ps = p :: r := by
    cases ps with
    | nil => exact absurd rfl hne
    | cons p r => exact ⟨p, r, rfl⟩
  have hm1 : r.length + 1 ≤ 4294967281 := by simp only [List.length_cons] at hml; omega
  generalize hE : splitL (p :: r) = E
  have hE2 : (match zdj r with | some l => (p, l, true) | none => (⟨#[]⟩, [], false)) = E := hE
  rw [List.length_cons, List.map_cons] at hSP
  have hm0 : r.length ≤ 9223372036854775807 := by omega
  have HSP := Lib.hid hSP
  have HSZ := Lib.hid hsz
  have HE := Lib.hid hE2
  have HLD := Lib.hid hLd
  have hx1 := heap_alloc_new w (.cells (Value.string p :: r.map Value.string).toArray 9)
  have hb1 := zan (Below.refl w.heap.size w) (.cells (Value.string p :: r.map Value.string).toArray 9)
  clear hSP hsz hE hE2 hne hLd hml
  go_enter Tryd.func59, Tryd.ntmps59
  go_upto_region 2 with (go_at_call 73; refine HSP.out.mono ?_; rintro e w' ⟨rfl, rfl⟩)
  generalize w.alloc (.cells (Value.string p :: r.map Value.string).toArray 9) = w1 at *
  generalize hb : w.heap.size = b at *
  obtain ⟨off, hoff⟩ : ∃ off : Nat, off = if r.length = 0 then 0 else 1 := ⟨_, rfl⟩
  obtain ⟨i9, hi9, _, hsz9, _⟩ := info_parts info9
  have hcut : ∀ W : World, (Instr.slice 69 (.slice (some ⟨b, 0, none⟩) (r.length + 1) (r.length + 1)) (some (.int .i64 1)) none none).run Tryd.prog W = .ok (.slice (some ⟨b, off, none⟩) r.length r.length) W := by
    intro W
    have h := cut_from (P := Tryd.prog) 69 9 .i64 Tryd.underlying69 hi9 1 hsz9 (some ⟨b, 0, none⟩) (r.length + 1) (r.length + 1) 1 (by decide) (by omega) W
    rw [h, show Int.toNat 1 = 1 from rfl]
    by_cases h0 : r.length = 0
    · rw [if_pos (show r.length + 1 = 1 by omega), hoff, if_pos h0]; simp
    · rw [if_neg (show ¬ r.length + 1 = 1 by omega), hoff, if_neg h0]; simp [Addr.add]
  have hcell : ∀ i, (hi : i < r.length) → ∀ W : World, Below w1.heap.size w1 W → W.cell? ⟨b, off + i, none⟩ = some (.string r[i]) := by
    intro i hi W hW
    rw [zak (zbq hx1 hW), hoff, if_neg (by omega)]
    simp [Nat.add_comm 1 i, hi]
  have hfirst : ∀ W : World, Below w1.heap.size w1 W → W.cell? ⟨b, 0, none⟩ = some (.string p) := by
    intro W hW
    rw [zak (zbq hx1 hW)]
    simp
  have HCE := Lib.hid hcell
  have HFI := Lib.hid hfirst
  have HB1 := Lib.hid hb1
  have HLD1 := Lib.hid (HLD.out.below (hb ▸ hb1))
  have HBB := Lib.hid hb
  clear hcell hfirst hx1 hb1 HLD HSP hoff hb
  go_wp2_with fail
  clear hcut
  go_loopw [6, 8, 9, 10, 16] (fun v6 _ _ _ v16 wr => ∃ (i : Nat) (ys : List Int), v16 = .int .i64 i ∧ i ≤ r.length ∧ ys.length = i ∧ Kd.R (Kd.int .u64) 22 wr w1.heap.size (fun _ => True) v6 ys ∧ zdj r = (zdj (r.drop i)).map (ys ++ ·) ∧ Below w1.heap.size w1 wr) (fun _ _ _ _ v16 _ => ((r.length : Int) - intOf v16).toNat)
  case atStart => exact ⟨0, [], rfl, Nat.zero_le _, rfl, Kd.R_nil _ _ _ _ _, by rw [List.drop_zero]; cases zdj r <;> rfl, Below.refl _ _⟩
  case round =>
    obtain ⟨i, ys, rfl, hi, hyl, hR, hpa, hB⟩ := hrel
    by_cases hlt : i < r.length
    · have hc := HCE.out i hlt wr hB
      have hxs := HSZ.out r[i] (List.mem_cons_of_mem _ (List.getElem_mem hlt))
      rw [List.drop_eq_getElem_cons hlt] at hpa
      generalize r[i] = x at *
      have hf : zcq.f x = some (((zc5 x.data.toList).1 : Int), (zc5 x.data.toList).2) := by
        unfold zcq.f
        rw [gate_eq, if_pos (by simpa using hxs)]
      have hpc := fun W h => zcq.calls x _ _ W h hf
      simp only [zdj] at hpa
      generalize ((zc5 x.data.toList).1 : Int) = n at *
      generalize (zc5 x.data.toList).2 = er at *
      obtain ⟨A6, c6, e6⟩ := Kd.R_slice hR
      subst e6
      have HPC := Lib.hid hpc
      have HPA := Lib.hid hpa
      have HR := Lib.hid hR
      have HB := Lib.hid hB
      have HYL := Lib.hid hyl
      have HLW := Lib.hid (HLD1.out.below hB)
      have HM := Lib.hid hm1
      clear hpc hpa hR hB hf hxs hyl hm1
      cases he : (er != 0)
      · have hP2 : zdj r = (zdj (r.drop (i + 1))).map ((ys ++ [n]) ++ ·) := by
          have h := HPA.out
          rw [if_pos (by simpa using he)] at h
          rw [h]
          cases zdj (r.drop (i + 1)) <;> simp
        have HP2 := Lib.hid hP2
        clear hP2
        go_wp2_with (first
          | (go_at_call 74
             refine (HPC.out wr HLW.out).mono ?_
             rintro e w4 ⟨rfl, hb4⟩
             have HR4 := Lib.hid (Kd.R_below HR.out hb4)
             have HB4 := Lib.hid (HB.out.trans (hb4.mono HB.out.size))
             clear hb4 HR HB HPC HLW hc)
          | ((with_reducible refine zcg (b := .append) (xs := #[.tmp 27, .tmp 29]) rfl ?_)
             at_builtin
             refine Kd.R_append (Kd.int .u64) (w0 := w1) w1.heap.size rfl (.tmp 27) (.tmp 29) 62 22 (.int .u64 0) 8 rfl Tryd.underlying62 info22 rfl (by decide) (by omega) (.slice A6 ys.length c6) ys n [.int .u64 n] (fun _ => True) (fun _ => False) rfl rfl ?aP (fun _ hk => hk.elim) ?aF ?aO ?aB ?aS ?aL ?_
             (case aP => exact rfl)
             (case aF => exact (fun _ _ => trivial))
             (case aO => exact HR4.out)
             (case aB => exact HB4.out)
             (case aS => exact HB4.out.size)
             (case aL => have h1 := HYL.out; have h2 := HM.out; omega)
             intro v1 w9 ho hbn hg hat
             have HO := Lib.hid ho
             have HBN := Lib.hid hbn
             clear ho hbn hg hat))
        exact ⟨⟨i + 1, ys ++ [n], rfl, by omega, by rw [List.length_append, HYL.out]; rfl, HO.out, HP2.out, HBN.out⟩, by simp only [intOf]; omega⟩
      · have hEv : E = (⟨#[]⟩, [], false) := by
          have h := HPA.out
          rw [if_neg (by simpa using he)] at h
          rw [← HE.out, h]; rfl
        go_wp2_with (first
          | (go_at_call 74
             refine (HPC.out wr HLW.out).mono ?_
             rintro e w4 ⟨rfl, hb4⟩
             have HB4 := Lib.hid (HB1.out.trans ((HB.out.trans (hb4.mono HB.out.size)).mono (HBB.out ▸ HB1.out.size)))
             clear hb4 HR HB HPC HLW hc))
        go_ret3
        rw [hEv]
        exact ⟨_, rfl, Kd.R_nil _ _ _ _ _, HBB.out ▸ HB4.out⟩
    · have hil : i = r.length := by omega
      rw [hil, List.drop_length] at hpa
      have hEv : E = (p, ys, true) := by
        rw [← HE.out, hpa]; simp [zdj]
      have hp := HFI.out wr hB
      have HR := Lib.hid (Kd.R_lower hR (show b ≤ w1.heap.size from HBB.out ▸ HB1.out.size))
      have HBC := Lib.hid (HB1.out.trans (hB.mono (HBB.out ▸ HB1.out.size)))
      clear hpa hil hR hB HE
      go_wp2_with fail
      go_ret3
      rw [hEv]
      exact ⟨_, rfl, HBB.out ▸ HR.out, HBB.out ▸ HBC.out⟩
end Go.Proofs.YtmnleabeipmhmaaDoor.P
end
section
set_option linter.unusedVariables false
set_option linter.unusedSimpArgs false
namespace Go.Proofs.YtmnleabeipmhmaaDoor.P
open Go.RowKit Go.Proofs.YtmnleabeipmhmaaDoorW.PrintWords Go.Proofs.YtmnleabeipmhmaaDoorW.PrintLast Go.Proofs.YtmnleabeipmhmaaDoorW.PrintMore
structure St where
  P : Int
  gs : List S43
  os : List Int
  begun : Bool
  is : Bool
def RS (w0 w : World) (b : Nat) (s : St) : Prop := ∃ ug uo : Value, w.heap[b]? = some (.cells #[.int .u64 s.P, ug, uo, .bool s.begun, .bool s.is] 68 (0, 0)) ∧
  Kd.R k43 43 w w0.heap.size (fun _ => True) ug s.gs ∧ Kd.R (Kd.int .i64) 3 w w0.heap.size (fun _ => True) uo s.os ∧ Below w0.heap.size w0 w ∧ w0.heap.size ≤ b
theorem RS.below {w0 w : World} {b : Nat} {s : St} (h : RS w0 w b s) : Below w0.heap.size w0 w := by obtain ⟨_, _, _, _, _, h, _⟩ := h; exact h
theorem RS.kept {w0 w w' : World} {b : Nat} {s : St} (h : RS w0 w b s) (hb : Below w.heap.size w w') : RS w0 w' b s := by
  obtain ⟨ug, uo, h1, h2, h3, h4, h5⟩ := h
  exact ⟨ug, uo, zbq h1 hb, Kd.R_below h2 hb, Kd.R_below h3 hb, h4.trans (hb.mono h4.size), h5⟩
theorem RS.drew {w0 w : World} {b : Nat} {s : St} (h : RS w0 w b s) : RS w0 w.drew b s := h.kept ((Below.refl _ w).drew)
theorem RS.setP {w0 w w' : World} {b : Nat} {s : St} (h : RS w0 w b s) (P : Int) (hw : w' = w.setCell ⟨b, 0, none⟩ (.int .u64 P)) : RS w0 w' b { s with P := P } := by
  subst hw
  obtain ⟨ug, uo, h1, h2, h3, h4, h5⟩ := h
  exact ⟨ug, uo, zaj h1 0 _ (by rfl), Kd.R_set h2 h1 (by decide) 0 _, Kd.R_set h3 h1 (by decide) 0 _, h4.setCell (p := ⟨b, 0, none⟩) h5 _, h5⟩
theorem RS.setBegun {w0 w w' : World} {b : Nat} {s : St} (h : RS w0 w b s) (v : Bool) (hw : w' = w.setCell ⟨b, 3, none⟩ (.bool v)) : RS w0 w' b { s with begun := v } := by
  subst hw
  obtain ⟨ug, uo, h1, h2, h3, h4, h5⟩ := h
  exact ⟨ug, uo, zaj h1 3 _ (by rfl), Kd.R_set h2 h1 (by decide) 3 _, Kd.R_set h3 h1 (by decide) 3 _, h4.setCell (p := ⟨b, 3, none⟩) h5 _, h5⟩
theorem RS.setIs {w0 w w' : World} {b : Nat} {s : St} (h : RS w0 w b s) (v : Bool) (hw : w' = w.setCell ⟨b, 4, none⟩ (.bool v)) : RS w0 w' b { s with is := v } := by
  subst hw
  obtain ⟨ug, uo, h1, h2, h3, h4, h5⟩ := h
  exact ⟨ug, uo, zaj h1 4 _ (by rfl), Kd.R_set h2 h1 (by decide) 4 _, Kd.R_set h3 h1 (by decide) 4 _, h4.setCell (p := ⟨b, 4, none⟩) h5 _, h5⟩
theorem RS.out {w0 w w1 w' : World} {b : Nat} {s : St} {ug uo v1 : Value} {xs : List Int} (h1 : w.heap[b]? = some (.cells #[.int .u64 s.P, ug, uo, .bool s.begun, .bool s.is] 68 (0, 0)))
    (h2 : Kd.R k43 43 w w0.heap.size (fun _ => True) ug s.gs) (h3 : Kd.R (Kd.int .i64) 3 w w0.heap.size (fun _ => True) uo s.os) (h5 : w0.heap.size ≤ b)
    (ho : Kd.R (Kd.int .i64) 3 w1 w0.heap.size (fun _ => True) v1 xs) (hb : Below w0.heap.size w0 w1) (hg : w.grownBy w1 uo.ownBlock) (hw : w' = w1.setCell ⟨b, 2, none⟩ v1) : RS w0 w' b { s with os := xs } := by
  subst hw
  have hx : w1.heap[b]? = some (.cells #[.int .u64 s.P, ug, uo, .bool s.begun, .bool s.is] 68 (0, 0)) := zch h1 hg (Kd.R_ne h3 h1 (by decide))
  have hgs := Kd.R_over' (v := uo) h2 (Kd.R_typed h3) (by decide) hg
  exact ⟨ug, v1, zaj hx 2 _ (by rfl), Kd.R_set hgs hx (by decide) 2 _, Kd.R_set ho hx (by decide) 2 _, hb.setCell (p := ⟨b, 2, none⟩) h5 _, h5⟩
theorem RS.gate {w0 w w1 w' : World} {b : Nat} {s : St} {ug uo v1 : Value} {xs : List S43} (h1 : w.heap[b]? = some (.cells #[.int .u64 s.P, ug, uo, .bool s.begun, .bool s.is] 68 (0, 0)))
    (h2 : Kd.R k43 43 w w0.heap.size (fun _ => True) ug s.gs) (h3 : Kd.R (Kd.int .i64) 3 w w0.heap.size (fun _ => True) uo s.os) (h5 : w0.heap.size ≤ b)
    (ho : Kd.R k43 43 w1 w0.heap.size (fun _ => True) v1 xs) (hb : Below w0.heap.size w0 w1) (hg : w.grownBy w1 ug.ownBlock) (hw : w' = w1.setCell ⟨b, 1, none⟩ v1) : RS w0 w' b { s with gs := xs } := by
  subst hw
  have hx : w1.heap[b]? = some (.cells #[.int .u64 s.P, ug, uo, .bool s.begun, .bool s.is] 68 (0, 0)) := zch h1 hg (Kd.R_ne h2 h1 (by decide))
  have hos := Kd.R_over' (v := ug) h3 (Kd.R_typed h2) (by decide) hg
  exact ⟨v1, uo, zaj hx 1 _ (by rfl), Kd.R_set ho hx (by decide) 1 _, Kd.R_set hos hx (by decide) 1 _, hb.setCell (p := ⟨b, 1, none⟩) h5 _, h5⟩
def Keep (w w' : World) : Prop := ∀ (k : Nat) (cs : Array Value) (u : TypeId), u ≠ 68 → u ≠ 43 → u ≠ 3 → w.heap[k]? = some (.cells cs u (0, 0)) → w'.heap[k]? = some (.cells cs u (0, 0))
theorem Keep.refl (w : World) : Keep w w := fun _ _ _ _ _ _ h => h
theorem Keep.trans {w w1 w2 : World} (h : Keep w w1) (h' : Keep w1 w2) : Keep w w2 := fun k cs u a b c e => h' k cs u a b c (h k cs u a b c e)
theorem Keep.of_below {w w' : World} (h : Below w.heap.size w w') : Keep w w' := fun k cs u _ _ _ e => zbq e h
theorem RS.keep {w0 w w' : World} {b i : Nat} {s : St} (h : RS w0 w b s) (v : Value) (hw : w' = w.setCell ⟨b, i, none⟩ v) : Keep w w' := by
  subst hw
  obtain ⟨ug, uo, h1, _⟩ := h
  exact fun k cs u a _ _ e => zau e (p := ⟨b, i, none⟩) (fun (he : k = b) => a (by subst he; rw [h1] at e; injection e with e; injection e with _ e _; exact e.symm)) v
theorem Keep.grown {w w1 w' : World} {b i : Nat} {v1 : Value} {row : Option Nat} {cs0 : Array Value} (hb : w.heap[b]? = some (.cells cs0 68 (0, 0))) (hg : w.grownBy w1 row)
    (hr : ∀ (k : Nat) (cs : Array Value) (u : TypeId), u ≠ 43 → u ≠ 3 → w.heap[k]? = some (.cells cs u (0, 0)) → some k ≠ row) (hw : w' = w1.setCell ⟨b, i, none⟩ v1) : Keep w w' := by
  subst hw
  intro k cs u a c d e
  have hk : k ≠ b := fun he => a (by subst he; rw [hb] at e; injection e with e; injection e with _ e _; exact e.symm)
  exact zau (zch e hg (hr k cs u c d e)) (p := ⟨b, i, none⟩) hk v1
theorem Keep.nums {w w' : World} (h : Keep w w') {base : Nat} {v : Value} {xs : List Int} (hr : Kd.R (Kd.int .u64) 22 w base (fun _ => True) v xs) : Kd.R (Kd.int .u64) 22 w' base (fun _ => True) v xs := by
  refine Kd.R_mono (Kd.R_move (Kd.R_bound hr) (fun k hk => ?_)) (fun _ _ => trivial)
  obtain ⟨_, _, _, q, hq, cells, hc⟩ := hk
  have hq2 : q = 22 := by
    have : q ∈ ([22] : List TypeId) := hq
    simpa using this
  subst hq2
  rw [hc]
  exact h k cells _ (by decide) (by decide) (by decide) hc
def outsF (n : Nat) : List Int → List Int → Option (List Int)
  | [], os => some os
  | x :: r, os => if zbi x < 0 ∨ (n : Int) ≤ zbi x then none else outsF n r (os ++ [zbi x])
def lineF (s : St) (t : ByteArray) : Option St :=
  if (splitF t).2.2 = true ∧ s.is = false then
    if s.begun = true then
      if (splitF t).1.toList = [111, 117, 116] then
        if (splitF t).2.1.length ≤ 1000 then (outsF s.gs.length (splitF t).2.1 s.os).map (fun os => { s with os := os, is := true }) else none
      else if (madeF s.P (splitF t).1 (splitF t).2.1 s.gs.length).2 = true ∧ s.gs.length < 20000 then some { s with gs := s.gs ++ [(madeF s.P (splitF t).1 (splitF t).2.1 s.gs.length).1] } else none
    else if (splitF t).1.toList = [112, 114, 105, 109, 101] then
      match (splitF t).2.1 with
      | [x] => if (expF x != 0) = true then some { s with P := x, begun := true } else none
      | _ => none
    else none
  else none
end Go.Proofs.YtmnleabeipmhmaaDoor.P
end
