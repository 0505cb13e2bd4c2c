/- What is proved here: a part of the proof of CircuitAppendMul: Cvf, Cva. No conditions beside those that each theorem states. -/
import Derived.Test.YtmnleabeipmhmaaDoorKCAMul22
import Derived.Laws.EntriesVeiled
import Derived.Test.YtmnleabeipmhmaaDoorKCAMul23
import Derived.Test.YtmnleabeipmhmaaDoorKCAMul19
import Derived.Deep.DeepCutAuto
import Derived.Deep.CutRange
section
set_option linter.unusedVariables false
set_option linter.unusedSimpArgs false
namespace Go.Proofs.YtmnleabeipmhmaaDoor.P
open Go.RowKit Go.Proofs.YtmnleabeipmhmaaDoorW.PrintWords Go.Proofs.YtmnleabeipmhmaaDoorW.PrintLast Go.Proofs.YtmnleabeipmhmaaDoorW.PrintMore
def outF (n : Nat) (x : Int) : Bool := decide (x < 0) || decide ((n : Int) ≤ x)
set_option maxHeartbeats 4000000 in
set_option maxRecDepth 100000 in
theorem out_calls (x : Int) (C n c : Nat) (A : Option Addr) (w : World) (hC : w.cell? ⟨C, 1, none⟩ = some (.slice A n c)) : Calls Tryd.prog 50 #[.int .i64 x, .pointer (some ⟨C, 0, none⟩)] w fun r w' => r = .returned (.bool (outF n x)) ∧ w' = w := by
  go_enter Tryd.func50, Tryd.ntmps50
  cases h1 : decide (x < 0)
  · cases h2 : decide ((n : Int) ≤ x)
    · go_wp2_with fail
      go_ret
      exact ⟨by simp [outF, h1, h2], by first | rfl | trivial⟩
    · go_wp2_with fail
      go_ret
      exact ⟨by simp [outF, h1, h2], by first | rfl | trivial⟩
  · go_wp2_with fail
    go_ret
    exact ⟨by simp [outF, h1], by first | rfl | trivial⟩
def idxOut (n : Nat) : List Int → Int → Int
  | [], _ => -1
  | x :: l, i => if outF n x = true then i else idxOut n l (i + 1)
set_option maxHeartbeats 4000000 in
set_option maxRecDepth 100000 in
theorem indexOut_calls (A1 : Option Addr) (c1 : Nat) (l : List Int) (C n c : Nat) (A : Option Addr) (w : World) (hl : Kd.C (Kd.int .i64) w A1 l.length l) (hC : w.cell? ⟨C, 1, none⟩ = some (.slice A n c)) :
    Calls Tryd.prog 65 #[.slice A1 l.length c1, .func (.func 50) #[] #[.pointer (some ⟨C, 0, none⟩)]] w fun r w' => r = .returned (.int .i64 (idxOut n l 0)) ∧ w' = w := by
  have hmax : l.length ≤ 9223372036854775807 := hl.2.1
  have HL := Lib.hid hl
  have HC := Lib.hid hC
  have hE0 : idxOut n (l.drop 0) ((0 : Nat) : Int) = idxOut n l 0 := rfl
  generalize idxOut n l 0 = E at hE0 ⊢
  have HE := Lib.hid hE0
  clear hE0 hl hC
  go_enter Tryd.func65, Tryd.ntmps65
  go_wp2_with fail
  go_loopw [5, 8] (fun v5 v8 wr => ∃ i : Nat, v8 = .int .i64 i ∧ i ≤ l.length ∧ idxOut n (l.drop i) (i : Int) = E ∧ wr = w) (fun _ v8 _ => ((l.length : Int) - intOf v8).toNat)
  case atStart => exact ⟨0, rfl, by omega, HE.out, rfl⟩
  case round =>
    clear HE
    obtain ⟨i, rfl, hi, hE, rfl⟩ := hrel
    by_cases hlt : i < l.length
    · rw [List.drop_eq_getElem_cons hlt, idxOut] at hE
      obtain ⟨ad, rfl, hcell⟩ := Kd.at_int HL.out (i : Int) (by omega) (by omega)
      rw [show rd l (i : Int) = l[i] by simp [rd, hlt], Int.toNat_natCast] at hcell
      generalize l[i] = x at hcell hE
      have HE := Lib.hid hE
      clear hE
      cases hb : outF n x
      · go_wp2_with (go_at_call 50; refine (out_calls x C n c A _ HC.out).mono ?_; rintro r w' ⟨rfl, rfl⟩)
        have hE := HE.out
        rw [if_neg (by rw [hb]; decide)] at hE
        exact ⟨⟨i + 1, rfl, by omega, hE, (by first | rfl | trivial)⟩, by simp only [intOf]; omega⟩
      · go_wp2_with (go_at_call 50; refine (out_calls x C n c A _ HC.out).mono ?_; rintro r w' ⟨rfl, rfl⟩)
        go_ret
        have hE := HE.out
        rw [if_pos hb] at hE
        exact ⟨by rw [← hE]; rfl, rfl⟩
    · have : i = l.length := by omega
      subst this
      have hE2 : E = -1 := by rw [← hE, List.drop_length]; rfl
      clear hE
      go_wp2_with fail
      go_ret
      exact ⟨by rw [hE2]; rfl, by first | rfl | trivial⟩
theorem idxOut_neg (n : Nat) (l : List Int) : ∀ i : Int, 0 ≤ i → (decide (0 ≤ idxOut n l i) = l.any (outF n)) := by
  induction l with
  | nil => intro i _; rfl
  | cons x l ih =>
    intro i hi
    rw [idxOut]
    cases hb : outF n x
    · rw [if_neg (by decide), ih (i + 1) (by omega)]; simp [hb]
    · rw [if_pos rfl]; simp [hb, hi]
set_option maxHeartbeats 4000000 in
set_option maxRecDepth 100000 in
theorem anyOut_calls (A1 : Option Addr) (c1 : Nat) (l : List Int) (C n c : Nat) (A : Option Addr) (w : World) (hl : Kd.C (Kd.int .i64) w A1 l.length l) (hC : w.cell? ⟨C, 1, none⟩ = some (.slice A n c)) :
    Calls Tryd.prog 49 #[.slice A1 l.length c1, .func (.func 50) #[] #[.pointer (some ⟨C, 0, none⟩)]] w fun r w' => r = .returned (.bool (l.any (outF n))) ∧ w' = w := by
  have hE := idxOut_neg n l 0 (by omega)
  have HC := Lib.hid (indexOut_calls A1 c1 l C n c A w hl hC)
  clear hl hC
  generalize idxOut n l 0 = E at HC hE
  generalize l.any (outF n) = R at hE ⊢
  go_enter Tryd.func49, Tryd.ntmps49
  go_wp2_with (go_at_call 65; refine HC.out.mono ?_; rintro e w1 ⟨rfl, rfl⟩)
  go_ret
  exact ⟨by rw [← hE]; rfl, by first | rfl | trivial⟩
end Go.Proofs.YtmnleabeipmhmaaDoor.P
end
section
set_option linter.unusedVariables false
set_option linter.unusedSimpArgs false
namespace Go.Proofs.YtmnleabeipmhmaaDoor.P
open Go.RowKit Go.Proofs.YtmnleabeipmhmaaDoorW.PrintWords Go.Proofs.YtmnleabeipmhmaaDoorW.PrintLast Go.Proofs.YtmnleabeipmhmaaDoorW.PrintMore
def goodG (P : Int) : List S43 → Int → Bool
  | [], _ => true
  | g :: l, i => zcj P i g.f0 g.f1 g.f2 g.f3 g.f4 && goodG P l (i + 1)
def validF (P : Int) (l0 : List S43) (l1 : List Int) : Bool :=
  (expF P != 0) && decide (l0.length ≤ 20000) && decide (l1.length ≤ 1000) && goodG P l0 0 && !(l1.any (outF l0.length))
set_option maxHeartbeats 4000000 in
set_option maxRecDepth 100000 in
theorem valid_calls (P : Int) (A0 : Option Addr) (c0 : Nat) (l0 : List S43) (A1 : Option Addr) (c1 : Nat) (l1 : List Int) (w : World) (hLd : Ld w)
    (hr0 : Kd.C k43 w A0 l0.length l0) (hc0 : l0.length ≤ c0) (hr1 : Kd.C (Kd.int .i64) w A1 l1.length l1) (hc1 : l1.length ≤ c1) :
    Calls Tryd.prog 25 #[.agg #[.int .u64 P, .slice A0 l0.length c0, .slice A1 l1.length c1]] w fun r w' => r = .returned (.bool (validF P l0 l1)) ∧ Below w.heap.size w w' := by
  have hm0 : l0.length ≤ 9223372036854775807 := hr0.2.1
  have hm1 : l1.length ≤ 9223372036854775807 := hr1.2.1
  have hB0 : Below w.heap.size w (w.alloc (.cells #[.int .u64 P, .slice A0 l0.length c0, .slice A1 l1.length c1] 26)) := zao (Below.refl _ _) _
  have hx0 := heap_alloc_new w (.cells #[.int .u64 P, .slice A0 l0.length c0, .slice A1 l1.length c1] 26)
  have HLD := Lib.hid (hLd.below hB0)
  have HR0 := Lib.hid (Kd.C_alloc hr0 (.cells #[.int .u64 P, .slice A0 l0.length c0, .slice A1 l1.length c1] 26))
  have HR1 := Lib.hid (Kd.C_alloc hr1 (.cells #[.int .u64 P, .slice A0 l0.length c0, .slice A1 l1.length c1] 26))
  clear hr0 hr1 hLd
  generalize hE : validF P l0 l1 = E
  have HE := Lib.hid hE
  clear hE
  go_enter Tryd.func25, Tryd.ntmps25
  go_upto_region 1 with (fail)
  generalize w.alloc (.cells #[.int .u64 P, .slice A0 l0.length c0, .slice A1 l1.length c1] 26) = w0 at *
  have p0 : w0.cell? ⟨w.heap.size, 0, none⟩ = some (.int .u64 P) := zak hx0 0
  have p1 : w0.cell? ⟨w.heap.size, 1, none⟩ = some (.slice A0 l0.length c0) := zak hx0 1
  have p2 : w0.cell? ⟨w.heap.size, 2, none⟩ = some (.slice A1 l1.length c1) := zak hx0 2
  have HX0 := Lib.hid hx0
  have HB0 := Lib.hid hB0
  clear hx0 hB0
  cases hS : (expF P != 0)
  · have hv : E = false := by rw [← HE.out]; simp [validF, hS]
    have HS := Lib.hid (zcv P w0 HLD.out)
    clear HE HR0 HR1 HX0 HLD
    go_wp2_with (go_at_call 47; refine HS.out.mono ?_; rintro r w1 ⟨rfl, rfl⟩)
    go_ret
    exact ⟨by first | rfl | (rw [hv]; rfl), HB0.out⟩
  · by_cases h1 : 20000 < l0.length
    · have hv : E = false := by rw [← HE.out]; simp [validF, show ¬ l0.length ≤ 20000 by omega]
      have HS := Lib.hid (zcv P w0 HLD.out)
      have h1a : decide (20000 < l0.length) = true := decide_eq_true h1
      clear HE HR0 HR1 HX0 HLD
      go_wp2_with (go_at_call 47; refine HS.out.mono ?_; rintro r w1 ⟨rfl, rfl⟩)
      go_ret
      exact ⟨by first | rfl | (rw [hv]; rfl), HB0.out⟩
    · have h1a : decide (20000 < l0.length) = false := decide_eq_false h1
      by_cases h2 : 1000 < l1.length
      · have hv : E = false := by rw [← HE.out]; simp [validF, show ¬ l1.length ≤ 1000 by omega]
        have HS := Lib.hid (zcv P w0 HLD.out)
        have h2a : decide (1000 < l1.length) = true := decide_eq_true h2
        clear HE HR0 HR1 HX0 HLD
        go_wp2_with (go_at_call 47; refine HS.out.mono ?_; rintro r w1 ⟨rfl, rfl⟩)
        go_ret
        exact ⟨by first | rfl | (rw [hv]; rfl), HB0.out⟩
      · have h2a : decide (1000 < l1.length) = false := decide_eq_false h2
        have HS := Lib.hid (zcv P w0 HLD.out)
        have hE2 : (goodG P l0 0 && !(l1.any (outF l0.length))) = E := by
          rw [← HE.out]; simp [validF, hS, show l0.length ≤ 20000 by omega, show l1.length ≤ 1000 by omega]
        have HE2 := Lib.hid hE2
        clear hE2 HE
        go_wp2_with (go_at_call 47; refine HS.out.mono ?_; rintro r w1 ⟨rfl, rfl⟩)
        clear HS
        go_loopw [3, 4, 24] (fun v3 v4 v24 wr => ∃ i : Nat, v24 = .int .i64 i ∧ i ≤ l0.length ∧ goodG P (l0.drop i) (i : Int) = goodG P l0 0 ∧ Below w1.heap.size w1 wr) (fun _ _ v24 _ => ((l0.length : Int) - intOf v24).toNat)
        case atStart => exact ⟨0, rfl, by omega, rfl, Below.refl _ _⟩
        case round =>
          obtain ⟨i, rfl, hi, hG, hBw⟩ := hrel
          clear p0 p1 p2
          have hx := zbl HX0.out hBw
          have q0 : wr.cell? ⟨w.heap.size, 0, none⟩ = some (.int .u64 P) := zak hx 0
          have q1 : wr.cell? ⟨w.heap.size, 1, none⟩ = some (.slice A0 l0.length c0) := zak hx 1
          have q2 : wr.cell? ⟨w.heap.size, 2, none⟩ = some (.slice A1 l1.length c1) := zak hx 2
          have hBC : Below w.heap.size w wr := HB0.out.trans (hBw.mono HB0.out.size)
          have HRw := Lib.hid (Kd.C_below HR0.out hBw)
          have HRo := Lib.hid (Kd.C_below HR1.out hBw)
          have HLDw := Lib.hid (HLD.out.below hBw)
          have HXw := Lib.hid hx
          have HBw := Lib.hid hBw
          have HBC := Lib.hid hBC
          clear hx hBw hBC HLD HR0 HR1
          by_cases hlt : i < l0.length
          · obtain ⟨ad, rfl, e0, e1, e2, e3, e4⟩ := at_T43 HRw.out (i : Int) (by omega) (by omega)
            have hg : zae l0 (i : Int) = l0[i] := by simp [zae, hlt]
            rw [hg, Int.toNat_natCast] at e0 e1 e2 e3 e4
            rw [List.drop_eq_getElem_cons hlt, goodG] at hG
            generalize l0[i] = g at hG e0 e1 e2 e3 e4
            have HG := Lib.hid hG
            clear hG hg
            go_upto_region 6 with (
              refine wpList_store_row rfl 43 (.tmp 4) (.tmp 28) rfl wr.heap.size #[.int .i64 g.f0, .int .i64 g.f1, .int .i64 g.f2, .int .i64 g.f3, .int .u64 g.f4] ?e1 ?e2 43 #[.int .i64 0, .int .i64 0, .int .i64 0, .int .i64 0, .int .u64 0] (heap_alloc_new wr _) ?e4 ?e5 ?e6 ?_
              (case e1 => rfl)
              (case e2 => rfl)
              (case e4 => kernel_rfl)
              (case e5 => rfl)
              (case e6 => simp [Value.oneCell'])
              rw [World.setRow_alloc_new]
              have hn := heap_alloc_new wr (.cells #[.int .i64 g.f0, .int .i64 g.f1, .int .i64 g.f2, .int .i64 g.f3, .int .u64 g.f4] 43)
              have hb2 := zao (Below.refl wr.heap.size wr) (.cells #[.int .i64 g.f0, .int .i64 g.f1, .int .i64 g.f2, .int .i64 g.f3, .int .u64 g.f4] 43)
              have HLD2 := Lib.hid (HLDw.out.below hb2)
              have HBw2 := Lib.hid (HBw.out.trans (hb2.mono HBw.out.size))
              have HBC2 := Lib.hid (HBC.out.trans (hb2.mono HBC.out.size))
              have hx2 := zbl HXw.out hb2
              generalize wr.alloc (.cells #[.int .i64 g.f0, .int .i64 g.f1, .int .i64 g.f2, .int .i64 g.f3, .int .u64 g.f4] 43) = w2 at *
              have r0 : w2.cell? ⟨w.heap.size, 0, none⟩ = some (.int .u64 P) := zak hx2 0
              have HN := Lib.hid hn
              clear hn hb2 hx2 HLDw HBw HBC HXw)
            clear q0 q1 q2 e0 e1 e2 e3 e4 HRw HRo
            have HC := Lib.hid (right_calls P g.f0 g.f1 g.f2 g.f3 g.f4 (i : Int) w2 HLD2.out)
            cases hr : zcj P (i : Int) g.f0 g.f1 g.f2 g.f3 g.f4
            · have hv : E = false := by rw [← HE2.out, ← HG.out, hr]; rfl
              clear HE2 HG
              go_wp2_with (first
                | (refine wpList_load_row rfl 43 (.tmp 4) rfl wr.heap.size rfl 43 #[.int .i64 g.f0, .int .i64 g.f1, .int .i64 g.f2, .int .i64 g.f3, .int .u64 g.f4] (0, 0) _ HN.out Tryd.underlying43 rfl (by kernel_rfl) ?_)
                | (go_at_call 48; refine HC.out.mono ?_; rintro r w3 ⟨rfl, hb3⟩; rw [hr]))
              go_ret
              exact ⟨by first | rfl | (rw [hv]; rfl), HBC2.out.trans (hb3.mono HBC2.out.size)⟩
            · have HG2 : Hid (goodG P (l0.drop (i + 1)) ((i : Int) + 1) = goodG P l0 0) := Lib.hid (by have := HG.out; rw [hr, Bool.true_and] at this; exact this)
              clear HE2 HG
              go_wp2_with (first
                | (refine wpList_load_row rfl 43 (.tmp 4) rfl wr.heap.size rfl 43 #[.int .i64 g.f0, .int .i64 g.f1, .int .i64 g.f2, .int .i64 g.f3, .int .u64 g.f4] (0, 0) _ HN.out Tryd.underlying43 rfl (by kernel_rfl) ?_)
                | (go_at_call 48; refine HC.out.mono ?_; rintro r w3 ⟨rfl, hb3⟩; rw [hr]))
              exact ⟨⟨i + 1, rfl, by omega, HG2.out, HBw2.out.trans (hb3.mono HBw2.out.size)⟩, by simp only [intOf]; omega⟩
          · have hil : i = l0.length := by omega
            have hG2 : goodG P l0 0 = true := by rw [← hG, hil, List.drop_length]; rfl
            have hv : (!(l1.any (outF l0.length))) = E := by rw [← HE2.out, hG2]; rfl
            have HC := Lib.hid (anyOut_calls A1 c1 l1 w.heap.size l0.length c0 A0 wr HRo.out q1)
            have hlt2 : decide (i < l0.length) = false := decide_eq_false hlt
            clear HE2 hG hG2 HRw HRo HLDw HXw HBw
            go_wp2_with (go_at_call 49; refine HC.out.mono ?_; rintro r w3 ⟨rfl, rfl⟩)
            go_ret
            exact ⟨by first | rfl | (rw [← hv]; rfl), HBC.out⟩
def za6.f (P : Int) (l0 : List S43) (l1 : List Int) : Option Bool := if gate true 1 = true then some (validF P l0 l1) else none
theorem za6.calls (P : Int) (A0 : Option Addr) (c0 : Nat) (l0 : List S43) (A1 : Option Addr) (c1 : Nat) (l1 : List Int) (r : Bool) (w : World) (hLd : Ld w)
    (hr0 : Kd.C k43 w A0 l0.length l0) (hc0 : l0.length ≤ c0) (hr1 : Kd.C (Kd.int .i64) w A1 l1.length l1) (hc1 : l1.length ≤ c1) (h : za6.f P l0 l1 = some r) :
    Calls Tryd.prog 25 #[.agg #[.int .u64 P, .slice A0 l0.length c0, .slice A1 l1.length c1]] w fun e w' => e = .returned (.bool r) ∧ Below w.heap.size w w' := by
  unfold za6.f at h
  rw [gate_eq, if_pos rfl] at h
  cases h
  exact valid_calls P A0 c0 l0 A1 c1 l1 w hLd hr0 hc0 hr1 hc1
end Go.Proofs.YtmnleabeipmhmaaDoor.P
end
