/- What is proved here: a part of the proof of CircuitFormat: Cio, Px38, Px39, Px40, Cre. No conditions beside those that each theorem states. -/
import Derived.Test.YtmnleabeipmhmaaDoorKCFat1
import Derived.Test.YtmnleabeipmhmaaDoorKCFat5
import Derived.Test.YtmnleabeipmhmaaDoorKCFat28
import Derived.Test.YtmnleabeipmhmaaDoorKCFat43
import Derived.Test.YtmnleabeipmhmaaDoorKCFat38
section
set_option linter.unusedVariables false
namespace Go.Proofs.YtmnleabeipmhmaaDoor.P
open Go.RowKit Go.Proofs.YtmnleabeipmhmaaDoorW.PrintWords Go.Proofs.YtmnleabeipmhmaaDoor.Opn
variable {H : Type} {enc : TypeId × Value → H} {w : World}
structure SC where
  P : Int
  gs : List S43
  os : List Int
def kC : Kd SC := Kd.iso (Kd.pair (Kd.int .u64) (Kd.pair (Kd.slice 43 k43) (Kd.slice 3 (Kd.int .i64)))) (fun x : SC => (x.P, x.gs, x.os))
theorem kC_open {w : World} {x : SC} {cs : List Value} (h : kC.K w x cs) : ∃ A0 c0 A1 c1, cs = [.int .u64 x.P, .slice A0 x.gs.length c0, .slice A1 x.os.length c1] ∧ x.gs.length ≤ c0 ∧ Kd.C k43 w A0 x.gs.length x.gs ∧ x.os.length ≤ c1 ∧ Kd.C (Kd.int .i64) w A1 x.os.length x.os := by
  obtain ⟨_, _, rfl, rfl, ⟨_, _, rfl, ⟨A0, c0, rfl, hc0, hC0⟩, ⟨A1, c1, rfl, hc1, hC1⟩⟩⟩ := h
  exact ⟨A0, c0, A1, c1, rfl, hc0, hC0, hc1, hC1⟩
theorem opens_gate : Opens enc Tryd.prog w 0 true 43 k43 (fun x => 0 ≤ x.f4) := by
  intro fuel cs x h hz
  obtain ⟨a, hK, _, _, _, _, h4⟩ := opens_struct (fun x : S43 => (x.f0, x.f1, x.f2, x.f3, x.f4)) (fun p => ⟨p.1, p.2.1, p.2.2.1, p.2.2.2.1, p.2.2.2.2⟩) Tryd.underlying43 (by kernel_rfl) (fun _ => rfl)
    (opensF_cons rfl (by kernel_rfl) (opens_int Tryd.underlying3) (opensF_cons rfl (by kernel_rfl) (opens_int Tryd.underlying3) (opensF_cons rfl (by kernel_rfl) (opens_int Tryd.underlying3) (opensF_cons rfl (by kernel_rfl) (opens_int Tryd.underlying3)
      (opensF_one rfl (by kernel_rfl) (opens_int Tryd.underlying22)))))) fuel cs x h hz
  refine ⟨a, hK, ?_⟩
  have h5 : (Lit.int .u64 a.f4).wf = true := h4
  simp [Lit.wf, IntKind.min, IntKind.max, IntKind.bits, IntKind.signed] at h5
  omega
theorem opens_circuit : Opens enc Tryd.prog w 0 true 26 kC (fun x => ∀ g ∈ x.gs, 0 ≤ g.f4) := by
  intro fuel cs x h hz
  obtain ⟨a, hK, _, h2, _⟩ := opens_struct (fun x : SC => (x.P, x.gs, x.os)) (fun p => ⟨p.1, p.2.1, p.2.2⟩) Tryd.underlying26 (by kernel_rfl) (fun _ => rfl)
    (opensF_cons rfl (by kernel_rfl) (opens_int Tryd.underlying22) (opensF_cons rfl (by kernel_rfl) (opens_slice (B := 40) Tryd.underlying23 (by kernel_rfl) (by kernel_rfl) opens_gate)
      (opensF_one rfl (by kernel_rfl) (opens_slice (B := 8) Tryd.underlying24 (by kernel_rfl) (by kernel_rfl) (opens_int Tryd.underlying3))))) fuel cs x h hz
  exact ⟨a, hK, h2.1⟩
end Go.Proofs.YtmnleabeipmhmaaDoor.P
end
section
namespace Go.Proofs.YtmnleabeipmhmaaDoor.P
open Go.RowKit Go.Proofs.YtmnleabeipmhmaaDoorW.PrintWords Go.Proofs.YtmnleabeipmhmaaDoorW.PrintLast Go.Proofs.YtmnleabeipmhmaaDoorW.PrintMore
attribute [local go_sem] zb0 zbz zb7 zb6 zbv zbu zb2 zb3   -- for this text's walks alone
set_option linter.unusedVariables false
set_option linter.unusedSimpArgs false
attribute [local go_sem high] eqA43
end Go.Proofs.YtmnleabeipmhmaaDoor.P
end
section
namespace Go.Proofs.YtmnleabeipmhmaaDoor.P
open Go.RowKit Go.Proofs.YtmnleabeipmhmaaDoorW.PrintWords Go.Proofs.YtmnleabeipmhmaaDoorW.PrintLast Go.Proofs.YtmnleabeipmhmaaDoorW.PrintMore
attribute [local go_sem] zb0 zbz zb7 zb6 zbv zbu zb2 zb3   -- for this text's walks alone
set_option linter.unusedVariables false
set_option linter.unusedSimpArgs false
end Go.Proofs.YtmnleabeipmhmaaDoor.P
end
section
namespace Go.Proofs.YtmnleabeipmhmaaDoor.P
open Go.RowKit Go.Proofs.YtmnleabeipmhmaaDoorW.PrintWords Go.Proofs.YtmnleabeipmhmaaDoorW.PrintLast Go.Proofs.YtmnleabeipmhmaaDoorW.PrintMore
attribute [local go_sem] zb0 zbz zb7 zb6 zbv zbu zb2 zb3   -- for this text's walks alone
set_option linter.unusedVariables false
set_option linter.unusedSimpArgs false
end Go.Proofs.YtmnleabeipmhmaaDoor.P
end
section
set_option linter.unusedVariables false
set_option linter.unusedSimpArgs false
namespace Go.Proofs.YtmnleabeipmhmaaDoor.P
open Go.RowKit Go.Proofs.YtmnleabeipmhmaaDoorW.PrintWords Go.Proofs.YtmnleabeipmhmaaDoorW.PrintLast Go.Proofs.YtmnleabeipmhmaaDoorW.PrintMore
theorem gt_ne (g h : GT) : ((!((g.f0) == (h.f0)) || (!((g.f1) == (h.f1)) || (!((g.f2) == (h.f2)) || (!((g.f3) == (h.f3)) || (!((g.f4) == (h.f4))))))) = true) ↔ g ≠ h := by
  obtain ⟨a0, a1, a2, a3, a4⟩ := g
  obtain ⟨b0, b1, b2, b3, b4⟩ := h
  by_cases h0 : a0 = b0 <;> by_cases h1 : a1 = b1 <;> by_cases h2 : a2 = b2 <;> by_cases h3 : a3 = b3 <;> by_cases h4 : a4 = b4 <;> simp [*]
theorem rE_outs (P P' : Int) (gs gs' : List GT) (a b : List Int) (h : a.length = b.length) (hl : a.length ≤ 1000000) (d : Nat) : ∀ (i : Nat) (r : Bool), a.length - i = d → i ≤ a.length → (r = true ↔ a.drop i = b.drop i) → Ev (fun k => zaq.l1 k (i : Int) P gs a P' gs' b) r := by
  induction d with
  | zero =>
    intro i r hd hi hr
    obtain rfl : i = a.length := by omega
    obtain rfl : r = true := hr.2 (by rw [List.drop_length, h, List.drop_length])
    exact Ev.step (f := fun _ => some true) (fun k => by simp only [zaq.l1]; rw [if_neg (by omega)]) (Ev.now _)
  | succ d ih =>
    intro i r hd hi hr
    have ha : i < a.length := by omega
    have hb : i < b.length := by omega
    rw [List.drop_eq_getElem_cons ha, List.drop_eq_getElem_cons hb] at hr
    by_cases hg : a[i] = b[i]
    · have h1 := ih (i + 1) r (by omega) (by omega) (by rw [hr]; simp only [List.cons.injEq, hg, true_and])
      exact Ev.step (fun k => by simp only [zaq.l1]; rw [if_pos (by omega), if_pos (by omega), if_pos (by omega), rd_nat _ _ ha, rd_nat _ _ hb, if_pos hg, wrap_nat ha (by omega)]) h1
    · obtain rfl : r = false := by cases r with | false => rfl | true => exact absurd (List.cons.inj (hr.1 rfl)).1 hg
      exact Ev.step (f := fun _ => some false) (fun k => by simp only [zaq.l1]; rw [if_pos (by omega), if_pos (by omega), if_pos (by omega), rd_nat _ _ ha, rd_nat _ _ hb, if_neg hg]) (Ev.now _)
theorem rE_gates (P P' : Int) (a b : List GT) (os os' : List Int) (h : a.length = b.length) (hl : a.length ≤ 1000000) (ho : os.length = os'.length) (hm : os.length ≤ 1000000) (d : Nat) : ∀ (i : Nat) (r : Bool), a.length - i = d → i ≤ a.length → (r = true ↔ (a.drop i = b.drop i ∧ os = os')) → Ev (fun k => zaq.l0 k (i : Int) P a os P' b os') r := by
  induction d with
  | zero =>
    intro i r hd hi hr
    obtain rfl : i = a.length := by omega
    rw [List.drop_length, h, List.drop_length] at hr
    exact Ev.step (fun k => by simp only [zaq.l0]; rw [if_neg (by omega)]; rfl) (rE_outs P P' a b os os' ho hm _ 0 r rfl (Nat.zero_le _) (by rw [hr]; simp))
  | succ d ih =>
    intro i r hd hi hr
    have ha : i < a.length := by omega
    have hb : i < b.length := by omega
    rw [List.drop_eq_getElem_cons ha, List.drop_eq_getElem_cons hb] at hr
    by_cases hg : a[i] = b[i]
    · have h1 := ih (i + 1) r (by omega) (by omega) (by rw [hr]; simp only [List.cons.injEq, hg, true_and])
      exact Ev.step (fun k => by simp only [zaq.l0]; rw [if_pos (by omega), if_pos (by omega), if_pos (by omega), rdG _ _ ha, rdG _ _ hb, if_neg (fun e => ((gt_ne _ _).1 e) hg), wrap_nat ha (by omega)]) h1
    · obtain rfl : r = false := by cases r with | false => rfl | true => exact absurd (List.cons.inj (hr.1 rfl).1).1 hg
      exact Ev.step (f := fun _ => some false) (fun k => by simp only [zaq.l0]; rw [if_pos (by omega), if_pos (by omega), if_pos (by omega), rdG _ _ ha, rdG _ _ hb, if_pos ((gt_ne _ _).2 hg)]) (Ev.now _)
theorem refEqual (P P' : Int) (gs gs' : List GT) (os os' : List Int) (hl : gs.length ≤ 1000000) (ho : os.length ≤ 1000000) (r : Bool) (hr : r = true ↔ (P = P' ∧ gs = gs' ∧ os = os')) : Ev (fun k => zaq.f k P gs os P' gs' os') r := by
  unfold zaq.f
  have jt : r = false → Ev (fun k => zaq.j0 k true P gs os P' gs' os') r := by
    rintro rfl
    exact Ev.step (f := fun _ => some false) (fun k => by simp only [zaq.j0]; rw [if_pos trivial]) (Ev.now _)
  have fl : ¬ (P = P' ∧ gs = gs' ∧ os = os') → r = false := fun h => by cases r with | false => rfl | true => exact absurd (hr.1 rfl) h
  by_cases hP : P = P'
  · refine Ev.congr (fun k => if_pos hP) ?_
    by_cases hg : gs.length = gs'.length
    · refine Ev.congr (fun k => if_pos (by omega)) ?_
      by_cases hq : os.length = os'.length
      · refine Ev.step (fun k => ?_) (rE_gates P P' gs gs' os os' hg hl hq ho _ 0 r rfl (Nat.zero_le _) (by rw [hr]; simp [hP]))
        simp only [zaq.j0]
        rw [if_neg (by simp; omega)]
        rfl
      · have e : ((os.length : Int) != (os'.length : Int)) = true := by simp; omega
        rw [e]
        exact jt (fl (fun h => hq (congrArg List.length h.2.2)))
    · exact Ev.congr (fun k => if_neg (by omega)) (jt (fl (fun h => hg (congrArg List.length h.2.1))))
  · exact Ev.congr (fun k => if_neg hP) (jt (fl (fun h => hP h.1)))
end Go.Proofs.YtmnleabeipmhmaaDoor.P
end
