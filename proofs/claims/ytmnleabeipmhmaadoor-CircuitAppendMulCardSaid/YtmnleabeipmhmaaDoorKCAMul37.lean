/- What is proved here: a part of the proof of CircuitAppendMul: Cpa. No conditions beside those that each theorem states. -/
import Derived.Test.YtmnleabeipmhmaaDoorKCAMul35
import Derived.Test.YtmnleabeipmhmaaDoorKCAMul36
section
set_option linter.unusedVariables false
set_option linter.unusedSimpArgs false
namespace Go.Proofs.YtmnleabeipmhmaaDoor.P
open Go.RowKit Go.Proofs.YtmnleabeipmhmaaDoorW.PrintWords Go.Proofs.YtmnleabeipmhmaaDoorW.PrintLast Go.Proofs.YtmnleabeipmhmaaDoorW.PrintMore
def St0 : St := ⟨0, [], [], false, false⟩
def goF : List ByteArray → Nat → St → Except Nat St
  | [], _, s => .ok s
  | x :: r, i, s => if x.toList = [] then .ok s else if (cutN x).2 = true then
      match lineF s (cutN x).1 with
      | some s' => goF r (i + 1) s'
      | none => .error (i + 1)
    else .error (i + 1)
def endF (n : Nat) : Except Nat St → Int × List S43 × List Int × Int × Int
  | .error k => (0, [], [], (k : Int), 3)
  | .ok s => if s.is = true then (s.P, s.gs, s.os, 0, 0) else (0, [], [], (n : Int), 3)
def parseF (t : ByteArray) : Int × List S43 × List Int × Int × Int := endF (zb3 t ⟨#[10]⟩ 1).length (goF (zb3 t ⟨#[10]⟩ 1) 0 St0)
def zbt.f (t : ByteArray) : Option (Int × List S43 × List Int × Int × Int) := if gate (decide (t.size < 4294967281)) 1 = true then some (parseF t) else none
def Calm (s : St) : Prop := s.is = false → s.os = []
theorem lineF_calm {s s' : St} {t : ByteArray} (h : lineF s t = some s') (hs : Calm s) : Calm s' := by
  unfold lineF at h
  split at h
  · next h0 =>
    split at h
    · split at h
      · split at h
        · rw [Option.map_eq_some_iff] at h
          obtain ⟨o, _, rfl⟩ := h
          intro he; cases he
        · cases h
      · split at h
        · cases h; exact hs
        · cases h
    · split at h
      · split at h
        · split at h
          · cases h; exact hs
          · cases h
        · cases h
      · cases h
  · cases h
def Left (w w' : World) (r : Int × List S43 × List Int × Int × Int) (e : Ending) : Prop := ∃ v1 v2 : Value, e = .returned (.tuple #[.agg #[.int .u64 r.1, v1, v2], .int .i64 r.2.2.2.1, .int .i64 r.2.2.2.2]) ∧
  Kd.R k43 43 w' w.heap.size (fun _ => True) v1 r.2.1 ∧ Kd.R (Kd.int .i64) 3 w' w.heap.size (fun _ => True) v2 r.2.2.1 ∧ Below w.heap.size w w'
theorem setRow_far (w : World) (g : Nat) (cs : Array Value) : ∀ k, k ≠ g → (w.setRow g cs).heap[k]? = w.heap[k]? := by
  intro k hk
  simp [World.setRow, Array.getElem?_modify, Ne.symm hk]
theorem R_kept_far {α : Type} {d : Kd α} {e t g base : Nat} {w w' : World} {v : Value} {xs : List α} {cs : Array Value} (h : d.R e w base (fun _ => True) v xs) (hb : w.heap[g]? = some (.cells cs t (0, 0))) (ht : ∀ q, q ∈ e :: d.E → q ≠ t) (hf : ∀ k, k ≠ g → w'.heap[k]? = w.heap[k]?) : d.R e w' base (fun _ => True) v xs :=
  Kd.R_mono (Kd.R_move (Kd.R_types h hb ht) (fun k hk => hf k hk.2)) (fun _ _ => trivial)
set_option maxHeartbeats 16000000 in
set_option maxRecDepth 100000 in
theorem parse_calls (t : ByteArray) (w : World) (hLd : Ld w) (ht : t.size < 4294967281) : Calls Tryd.prog 21 #[.string t] w fun e w' => Left w w' (parseF t) e := by
  have HSA : Hid (∀ W, Calls Tryd.prog 39 #[.string t, .string ⟨#[10]⟩] W fun e w' => e = .returned (.slice (some ⟨W.heap.size, 0, none⟩) (zb3 t ⟨#[10]⟩ 1).length (zb3 t ⟨#[10]⟩ 1).length) ∧ w' = W.alloc (.cells ((zb3 t ⟨#[10]⟩ 1).map Value.string).toArray 9)) := Lib.hid (fun W => splitAfter_lib t ⟨#[10]⟩ W ht rfl)
  have hsz : ∀ x ∈ zb3 t ⟨#[10]⟩ 1, x.size < 4294967281 := fun x hx => by have := piece_size hx; omega
  have hml := pieces_count t ⟨#[10]⟩ 1 rfl
  unfold parseF
  generalize zb3 t ⟨#[10]⟩ 1 = ls at *
  generalize hE : endF ls.length (goF ls 0 St0) = E
  have HE := Lib.hid hE
  have HSZ := Lib.hid hsz
  have HLD := Lib.hid hLd
  have hm0 : ls.length ≤ 9223372036854775807 := by omega
  clear hE hsz hLd hml ht
  have hx0 : ((w.alloc (.cells #[.int .u64 0, .slice none 0 0, .slice none 0 0] 26)).alloc (.cells #[.int .u64 0, .slice none 0 0, .slice none 0 0, .bool false, .bool false] 68)).heap[w.heap.size]? = some (.cells #[.int .u64 0, .slice none 0 0, .slice none 0 0] 26 (0, 0)) := by
    rw [zcp _ _ _ (by rw [zcq]; omega)]; exact heap_alloc_new _ _
  have hx1 : ((w.alloc (.cells #[.int .u64 0, .slice none 0 0, .slice none 0 0] 26)).alloc (.cells #[.int .u64 0, .slice none 0 0, .slice none 0 0, .bool false, .bool false] 68)).heap[w.heap.size + 1]? = some (.cells #[.int .u64 0, .slice none 0 0, .slice none 0 0, .bool false, .bool false] 68 (0, 0)) := heap_alloc2_new _ _ _
  have hB : Below w.heap.size w ((w.alloc (.cells #[.int .u64 0, .slice none 0 0, .slice none 0 0] 26)).alloc (.cells #[.int .u64 0, .slice none 0 0, .slice none 0 0, .bool false, .bool false] 68)) := zao (zao (Below.refl _ _) _) _
  have HX0 := Lib.hid hx0
  have HX1 := Lib.hid hx1
  have HB := Lib.hid hB
  clear hx0 hx1 hB
  go_enter Tryd.func21, Tryd.ntmps21
  go_upto_region 2 with (fail)
  generalize ((w.alloc (.cells #[.int .u64 0, .slice none 0 0, .slice none 0 0] 26)).alloc (.cells #[.int .u64 0, .slice none 0 0, .slice none 0 0, .bool false, .bool false] 68)) = w2 at *
  go_upto_region 3 with (
    go_at_call 39
    refine (HSA.out w2).mono ?_
    rintro e w3 ⟨rfl, hw⟩
    have hb3 : Below w2.heap.size w2 w3 := by rw [hw]; exact zao (Below.refl _ _) _
    have hl3 : w3.heap[w2.heap.size]? = some (.cells (ls.map Value.string).toArray 9 (0, 0)) := by rw [hw]; exact heap_alloc_new _ _
    have HL3 := Lib.hid hl3
    have HR3 := Lib.hid (zbl HX0.out hb3)
    have HS3 : Hid (RS w w3 (w.heap.size + 1) St0) := Lib.hid ⟨_, _, zbl HX1.out hb3, Kd.R_nil _ _ _ _ _, Kd.R_nil _ _ _ _ _, HB.out.trans (hb3.mono HB.out.size), Nat.le_succ _⟩
    clear hw hb3 hl3 HX0 HX1 HB HSA)
  generalize w2.heap.size = L at *
  go_wp2_with fail
  go_loopw [7, 8, 9, 10, 15] (fun _ _ _ _ v15 wr => ∃ (i : Nat) (s : St), v15 = .int .i64 i ∧ i ≤ ls.length ∧ RS w wr (w.heap.size + 1) s ∧ Keep w3 wr ∧ goF ls 0 St0 = goF (ls.drop i) i s ∧ Calm s) (fun _ _ _ _ v15 _ => ((ls.length : Int) - intOf v15).toNat)
  case atStart => exact ⟨0, St0, rfl, Nat.zero_le _, HS3.out, Keep.refl _, by rw [List.drop_zero], fun _ => rfl⟩
  case round =>
    clear HS3
    obtain ⟨i, s, rfl, hi, hS, hK, hgo, hc⟩ := hrel
    have HS := Lib.hid hS
    have HK := Lib.hid hK
    have HR := Lib.hid (hK _ _ _ (by decide) (by decide) (by decide) HR3.out)
    have HC := Lib.hid hc
    clear hS hK hc
    by_cases hlt : i < ls.length
    · have hl := hlt
      have hcell : wr.cell? ⟨L, i, none⟩ = some (.string ls[i]) := by
        rw [zak (HK.out _ _ _ (by decide) (by decide) (by decide) HL3.out) i]
        simp [hl]
      have hxs := HSZ.out ls[i] (List.getElem_mem hl)
      rw [List.drop_eq_getElem_cons hl] at hgo
      generalize ls[i] = x at *
      by_cases hx : x.toList = ([] : List UInt8)
      · have hx0 : (x.toList == ([] : List UInt8)) = true := beq_iff_eq.mpr hx
        have hx1 : (x.toList != ([] : List UInt8)) = false := bne_eq_false_iff_eq.mpr hx
        have HEk : Hid (endF ls.length (.ok s) = E) := Lib.hid (by rw [← HE.out, hgo, goF, if_pos hx])
        clear hx hgo hl
        obtain ⟨P, gs, os, bg, is⟩ := s
        obtain ⟨ug, uo, h1, h2, h3, h4, h5⟩ := HS.out
        obtain ⟨Ag, cg, eg⟩ := Kd.R_slice h2
        obtain ⟨Ao, co, eo⟩ := Kd.R_slice h3
        subst eg
        subst eo
        have c0 : wr.cell? ⟨w.heap.size + 1, 0, none⟩ = some (.int .u64 P) := zak h1 0
        have c1 : wr.cell? ⟨w.heap.size + 1, 1, none⟩ = some (.slice Ag gs.length cg) := zak h1 1
        have c2 : wr.cell? ⟨w.heap.size + 1, 2, none⟩ = some (.slice Ao os.length co) := zak h1 2
        have c4 : wr.cell? ⟨w.heap.size + 1, 4, none⟩ = some (.bool is) := zak h1 4
        have H2 := Lib.hid h2
        have H3 := Lib.hid h3
        have HBx := Lib.hid h4
        have hu26 := Tryd.underlying26
        clear h1 h2 h3 h4 h5
        cases his : is
        · subst his
          have HN : Hid (E = (0, [], [], (ls.length : Int), 3)) := Lib.hid (by rw [← HEk.out]; rfl)
          go_wp2_with (
            (refine zbj (t := 26) (p := 2) (v := .tmp 41) rfl ?_)
            refine wpList_store_row rfl 26 (.tmp 2) (.tmp 41) rfl w.heap.size #[.int .u64 0, .slice none 0 0, .slice none 0 0] ?e1 ?e2 26 #[.int .u64 0, .slice none 0 0, .slice none 0 0] HR.out ?e4 ?e5 ?e6 ?_
            (case e1 => rfl)
            (case e2 => rfl)
            (case e4 => kernel_rfl)
            (case e5 => rfl)
            (case e6 => simp [Value.oneCell'])
            have hx2 := setRow_heap wr w.heap.size _ #[.int .u64 0, .slice none 0 0, .slice none 0 0] _ _ HR.out
            have hB2 := below_setRow HBx.out (Nat.le_refl w.heap.size) #[.int .u64 0, .slice none 0 0, .slice none 0 0]
            have hfar := setRow_far wr w.heap.size #[.int .u64 0, .slice none 0 0, .slice none 0 0]
            generalize wr.setRow w.heap.size #[.int .u64 0, .slice none 0 0, .slice none 0 0] = wz at *
            have HX2 := Lib.hid hx2
            have HB2 := Lib.hid hB2
            have HF2 := Lib.hid hfar
            clear hx2 hB2 hfar)
          (try simp only [Exit.inBlock, Exit.then])
          refine bodyPost_ret (results_ctt rfl _ _ w.heap.size _ _ _ _ rfl HX2.out Tryd.underlying26 rfl (by kernel_rfl)) rfl ?_
          rw [HN.out]
          exact ⟨_, _, rfl, Kd.R_nil _ _ _ _ _, Kd.R_nil _ _ _ _ _, HB2.out⟩
        · subst his
          have HN : Hid (E = (P, gs, os, 0, 0)) := Lib.hid (by rw [← HEk.out]; rfl)
          go_wp2_with (
            (refine zbj (t := 26) (p := 2) (v := .tmp 45) rfl ?_)
            refine wpList_store_row rfl 26 (.tmp 2) (.tmp 45) rfl w.heap.size #[.int .u64 P, .slice Ag gs.length cg, .slice Ao os.length co] ?e1 ?e2 26 #[.int .u64 0, .slice none 0 0, .slice none 0 0] HR.out ?e4 ?e5 ?e6 ?_
            (case e1 => rfl)
            (case e2 => rfl)
            (case e4 => kernel_rfl)
            (case e5 => rfl)
            (case e6 => simp [Value.oneCell'])
            have hx2 := setRow_heap wr w.heap.size _ #[.int .u64 P, .slice Ag gs.length cg, .slice Ao os.length co] _ _ HR.out
            have hB2 := below_setRow HBx.out (Nat.le_refl w.heap.size) #[.int .u64 P, .slice Ag gs.length cg, .slice Ao os.length co]
            have hfar := setRow_far wr w.heap.size #[.int .u64 P, .slice Ag gs.length cg, .slice Ao os.length co]
            generalize wr.setRow w.heap.size #[.int .u64 P, .slice Ag gs.length cg, .slice Ao os.length co] = wz at *
            have HX2 := Lib.hid hx2
            have HB2 := Lib.hid hB2
            have HF2 := Lib.hid hfar
            clear hx2 hB2 hfar)
          (try simp only [Exit.inBlock, Exit.then])
          refine bodyPost_ret (results_ctt rfl _ _ w.heap.size _ _ _ _ rfl HX2.out Tryd.underlying26 rfl (by kernel_rfl)) rfl ?_
          rw [HN.out]
          exact ⟨_, _, rfl, R_kept_far H2.out HR.out (by decide) HF2.out, R_kept_far H3.out HR.out (by decide) HF2.out, HB2.out⟩
      · have hx0 : (x.toList == ([] : List UInt8)) = false := beq_eq_false_iff_ne.mpr hx
        have hx1 : (x.toList != ([] : List UInt8)) = true := bne_iff_ne.mpr hx
        rw [goF, if_neg hx] at hgo
        have HGO := Lib.hid hgo
        have HCUT := Lib.hid (cut_calls x wr (by omega))
        have hcz : (cutN x).1.size < 4294967281 := by
          unfold cutN
          split
          · show (x.extract 0 (x.size - 1)).size < _
            rw [ByteArray.size_extract]; omega
          · exact hxs
        obtain ⟨body, whole, hcut⟩ : ∃ body whole, cutN x = (body, whole) := ⟨_, _, rfl⟩
        rw [hcut] at HCUT HGO hcz
        simp only at HCUT HGO hcz
        have HCL := Lib.hid (rline_calls s body (w.heap.size + 1) w wr HS.out HLD.out hcz (fun h => by rw [HC.out h]; exact Nat.zero_le _))
        clear hx hgo hl hcut hcz hxs
        cases hwh : whole
        · subst hwh
          have HN : Hid (E = (0, [], [], ((i + 1 : Nat) : Int), 3)) := Lib.hid (by rw [← HE.out, HGO.out]; rfl)
          have HBx := Lib.hid HS.out.below
          clear HCL
          go_wp2_with (first
            | (go_at_call 40; refine HCUT.out.mono ?_; rintro r wx ⟨rfl, hw⟩; rw [hw]; clear hw wx)
            | (
                (refine zbj (t := 26) (p := 2) (v := .tmp 34) rfl ?_)
                refine wpList_store_row rfl 26 (.tmp 2) (.tmp 34) rfl w.heap.size #[.int .u64 0, .slice none 0 0, .slice none 0 0] ?e1 ?e2 26 #[.int .u64 0, .slice none 0 0, .slice none 0 0] HR.out ?e4 ?e5 ?e6 ?_
                (case e1 => rfl)
                (case e2 => rfl)
                (case e4 => kernel_rfl)
                (case e5 => rfl)
                (case e6 => simp [Value.oneCell'])
                have hx2 := setRow_heap wr w.heap.size _ #[.int .u64 0, .slice none 0 0, .slice none 0 0] _ _ HR.out
                have hB2 := below_setRow HBx.out (Nat.le_refl w.heap.size) #[.int .u64 0, .slice none 0 0, .slice none 0 0]
                have hfar := setRow_far wr w.heap.size #[.int .u64 0, .slice none 0 0, .slice none 0 0]
                generalize wr.setRow w.heap.size #[.int .u64 0, .slice none 0 0, .slice none 0 0] = wz at *
                have HX2 := Lib.hid hx2
                have HB2 := Lib.hid hB2
                have HF2 := Lib.hid hfar
                clear hx2 hB2 hfar))
          (try simp only [Exit.inBlock, Exit.then])
          refine bodyPost_ret (results_ctt rfl _ _ w.heap.size _ _ _ _ rfl HX2.out Tryd.underlying26 rfl (by kernel_rfl)) rfl ?_
          rw [HN.out]
          exact ⟨_, _, rfl, Kd.R_nil _ _ _ _ _, Kd.R_nil _ _ _ _ _, HB2.out⟩
        · subst hwh
          cases hlf : lineF s body with
          | none =>
            have HN : Hid (E = (0, [], [], ((i + 1 : Nat) : Int), 3)) := Lib.hid (by rw [← HE.out, HGO.out, hlf]; rfl)
            rw [hlf] at HCL
            clear hlf
            go_wp2_with (first
              | (go_at_call 40; refine HCUT.out.mono ?_; rintro r wx ⟨rfl, hw⟩; rw [hw]; clear hw wx)
              | (go_at_call 41
                 refine HCL.out.mono ?_
                 rintro e w5 ⟨rfl, hb5, hk5, _⟩
                 have HBx := Lib.hid hb5
                 have HR5 := Lib.hid (hk5 _ _ _ (by decide) (by decide) (by decide) HR.out)
                 clear hb5 hk5)
              | (
                 (refine zbj (t := 26) (p := 2) (v := .tmp 34) rfl ?_)
                 refine wpList_store_row rfl 26 (.tmp 2) (.tmp 34) rfl w.heap.size #[.int .u64 0, .slice none 0 0, .slice none 0 0] ?e1 ?e2 26 #[.int .u64 0, .slice none 0 0, .slice none 0 0] HR5.out ?e4 ?e5 ?e6 ?_
                 (case e1 => rfl)
                 (case e2 => rfl)
                 (case e4 => kernel_rfl)
                 (case e5 => rfl)
                 (case e6 => simp [Value.oneCell'])
                 have hx2 := setRow_heap w5 w.heap.size _ #[.int .u64 0, .slice none 0 0, .slice none 0 0] _ _ HR5.out
                 have hB2 := below_setRow HBx.out (Nat.le_refl w.heap.size) #[.int .u64 0, .slice none 0 0, .slice none 0 0]
                 have hfar := setRow_far w5 w.heap.size #[.int .u64 0, .slice none 0 0, .slice none 0 0]
                 generalize w5.setRow w.heap.size #[.int .u64 0, .slice none 0 0, .slice none 0 0] = wz at *
                 have HX2 := Lib.hid hx2
                 have HB2 := Lib.hid hB2
                 have HF2 := Lib.hid hfar
                 clear hx2 hB2 hfar))
            (try simp only [Exit.inBlock, Exit.then])
            refine bodyPost_ret (results_ctt rfl _ _ w.heap.size _ _ _ _ rfl HX2.out Tryd.underlying26 rfl (by kernel_rfl)) rfl ?_
            rw [HN.out]
            exact ⟨_, _, rfl, Kd.R_nil _ _ _ _ _, Kd.R_nil _ _ _ _ _, HB2.out⟩
          | some s' =>
            rw [hlf] at HCL
            have HN : Hid (goF ls 0 St0 = goF (ls.drop (i + 1)) (i + 1) s') := Lib.hid (by rw [HGO.out, hlf]; rfl)
            have HCM := Lib.hid (lineF_calm hlf HC.out)
            clear hlf
            go_wp2_with (first
              | (go_at_call 40; refine HCUT.out.mono ?_; rintro r wx ⟨rfl, hw⟩; rw [hw]; clear hw wx)
              | (go_at_call 41
                 refine HCL.out.mono ?_
                 rintro e w5 ⟨rfl, hb5, hk5, hs5⟩
                 have HS5 := Lib.hid (hs5 s' rfl)
                 have HK5 := Lib.hid hk5
                 clear hb5 hs5 hk5))
            exact ⟨⟨i + 1, s', rfl, by omega, HS5.out, HK.out.trans HK5.out, HN.out, HCM.out⟩, by simp only [intOf]; omega⟩
    · have hil : i = ls.length := by omega
      have HEk : Hid (endF ls.length (.ok s) = E) := Lib.hid (by rw [← HE.out, hgo, hil, List.drop_length]; rfl)
      clear hgo hil
      obtain ⟨P, gs, os, bg, is⟩ := s
      obtain ⟨ug, uo, h1, h2, h3, h4, h5⟩ := HS.out
      obtain ⟨Ag, cg, eg⟩ := Kd.R_slice h2
      obtain ⟨Ao, co, eo⟩ := Kd.R_slice h3
      subst eg
      subst eo
      have c0 : wr.cell? ⟨w.heap.size + 1, 0, none⟩ = some (.int .u64 P) := zak h1 0
      have c1 : wr.cell? ⟨w.heap.size + 1, 1, none⟩ = some (.slice Ag gs.length cg) := zak h1 1
      have c2 : wr.cell? ⟨w.heap.size + 1, 2, none⟩ = some (.slice Ao os.length co) := zak h1 2
      have c4 : wr.cell? ⟨w.heap.size + 1, 4, none⟩ = some (.bool is) := zak h1 4
      have H2 := Lib.hid h2
      have H3 := Lib.hid h3
      have HBx := Lib.hid h4
      have hu26 := Tryd.underlying26
      clear h1 h2 h3 h4 h5
      cases his : is
      · subst his
        have HN : Hid (E = (0, [], [], (ls.length : Int), 3)) := Lib.hid (by rw [← HEk.out]; rfl)
        go_wp2_with (
          (refine zbj (t := 26) (p := 2) (v := .tmp 41) rfl ?_)
          refine wpList_store_row rfl 26 (.tmp 2) (.tmp 41) rfl w.heap.size #[.int .u64 0, .slice none 0 0, .slice none 0 0] ?e1 ?e2 26 #[.int .u64 0, .slice none 0 0, .slice none 0 0] HR.out ?e4 ?e5 ?e6 ?_
          (case e1 => rfl)
          (case e2 => rfl)
          (case e4 => kernel_rfl)
          (case e5 => rfl)
          (case e6 => simp [Value.oneCell'])
          have hx2 := setRow_heap wr w.heap.size _ #[.int .u64 0, .slice none 0 0, .slice none 0 0] _ _ HR.out
          have hB2 := below_setRow HBx.out (Nat.le_refl w.heap.size) #[.int .u64 0, .slice none 0 0, .slice none 0 0]
          have hfar := setRow_far wr w.heap.size #[.int .u64 0, .slice none 0 0, .slice none 0 0]
          generalize wr.setRow w.heap.size #[.int .u64 0, .slice none 0 0, .slice none 0 0] = wz at *
          have HX2 := Lib.hid hx2
          have HB2 := Lib.hid hB2
          have HF2 := Lib.hid hfar
          clear hx2 hB2 hfar)
        (try simp only [Exit.inBlock, Exit.then])
        refine bodyPost_ret (results_ctt rfl _ _ w.heap.size _ _ _ _ rfl HX2.out Tryd.underlying26 rfl (by kernel_rfl)) rfl ?_
        rw [HN.out]
        exact ⟨_, _, rfl, Kd.R_nil _ _ _ _ _, Kd.R_nil _ _ _ _ _, HB2.out⟩
      · subst his
        have HN : Hid (E = (P, gs, os, 0, 0)) := Lib.hid (by rw [← HEk.out]; rfl)
        go_wp2_with (
          (refine zbj (t := 26) (p := 2) (v := .tmp 45) rfl ?_)
          refine wpList_store_row rfl 26 (.tmp 2) (.tmp 45) rfl w.heap.size #[.int .u64 P, .slice Ag gs.length cg, .slice Ao os.length co] ?e1 ?e2 26 #[.int .u64 0, .slice none 0 0, .slice none 0 0] HR.out ?e4 ?e5 ?e6 ?_
          (case e1 => rfl)
          (case e2 => rfl)
          (case e4 => kernel_rfl)
          (case e5 => rfl)
          (case e6 => simp [Value.oneCell'])
          have hx2 := setRow_heap wr w.heap.size _ #[.int .u64 P, .slice Ag gs.length cg, .slice Ao os.length co] _ _ HR.out
          have hB2 := below_setRow HBx.out (Nat.le_refl w.heap.size) #[.int .u64 P, .slice Ag gs.length cg, .slice Ao os.length co]
          have hfar := setRow_far wr w.heap.size #[.int .u64 P, .slice Ag gs.length cg, .slice Ao os.length co]
          generalize wr.setRow w.heap.size #[.int .u64 P, .slice Ag gs.length cg, .slice Ao os.length co] = wz at *
          have HX2 := Lib.hid hx2
          have HB2 := Lib.hid hB2
          have HF2 := Lib.hid hfar
          clear hx2 hB2 hfar)
        (try simp only [Exit.inBlock, Exit.then])
        refine bodyPost_ret (results_ctt rfl _ _ w.heap.size _ _ _ _ rfl HX2.out Tryd.underlying26 rfl (by kernel_rfl)) rfl ?_
        rw [HN.out]
        exact ⟨_, _, rfl, R_kept_far H2.out HR.out (by decide) HF2.out, R_kept_far H3.out HR.out (by decide) HF2.out, HB2.out⟩
theorem zbt.calls (t : ByteArray) (r1 : Int) (r2 : List S43) (r3 : List Int) (r4 r5 : Int) (w : World) (hLd : Ld w) (h : zbt.f t = some (r1, r2, r3, r4, r5)) :
    Calls Tryd.prog 21 #[.string t] w fun e w' => ∃ v1_ v2_ : Value, e = .returned (.tuple #[.agg #[.int .u64 r1, v1_, v2_], .int .i64 r4, .int .i64 r5]) ∧ Kd.R k43 43 w' w.heap.size (fun _ => True) v1_ r2 ∧ Kd.R (Kd.int .i64) 3 w' w.heap.size (fun _ => True) v2_ r3 ∧ Below w.heap.size w w' := by
  unfold zbt.f at h
  rw [gate_eq] at h
  split at h
  · next hs =>
    have h2 := parse_calls t w hLd (by simpa using hs)
    rw [Option.some.inj h] at h2
    exact h2
  · cases h
end Go.Proofs.YtmnleabeipmhmaaDoor.P
end
