/- What is proved here: a part of the proof of CircuitPrefixFree: Cio, Px27, Px38, Px39, Px40, Cre, Px24, Px25, Px26, Crf, CcCircuitPrefixFree. No conditions beside those that each theorem states. -/
import Derived.Test.YtmnleabeipmhmaaDoorKCPFee1
import Derived.Test.YtmnleabeipmhmaaDoorKCPFee6
import Derived.Test.YtmnleabeipmhmaaDoorKCPFee11
import Derived.Test.YtmnleabeipmhmaaDoorKCPFee44
import Derived.Test.YtmnleabeipmhmaaDoorKCPFee40
import Derived.Test.YtmnleabeipmhmaaDoorKCPFee18
import Derived.Test.YtmnleabeipmhmaaDoorKCPFee45
import Derived.Test.YtmnleabeipmhmaaDoorKCPFee46
section
set_option linter.unusedVariables false
namespace Go.Proofs.YtmnleabeipmhmaaDoor.P
open Go.RowKit Go.Proofs.YtmnleabeipmhmaaDoorW.PrintWords Go.Proofs.YtmnleabeipmhmaaDoor.Opn
variable {H : Type} {enc : TypeId × Value → H} {w : World}
structure SC where
  P : Int
  gs : List S43
  os : List Int
def kC : Kd SC := Kd.iso (Kd.pair (Kd.int .u64) (Kd.pair (Kd.slice 43 k43) (Kd.slice 3 (Kd.int .i64)))) (fun x : SC => (x.P, x.gs, x.os))
theorem kC_open {w : World} {x : SC} {cs : List Value} (h : kC.K w x cs) : ∃ A0 c0 A1 c1, cs = [.int .u64 x.P, .slice A0 x.gs.length c0, .slice A1 x.os.length c1] ∧ x.gs.length ≤ c0 ∧ Kd.C k43 w A0 x.gs.length x.gs ∧ x.os.length ≤ c1 ∧ Kd.C (Kd.int .i64) w A1 x.os.length x.os := by
  obtain ⟨_, _, rfl, rfl, ⟨_, _, rfl, ⟨A0, c0, rfl, hc0, hC0⟩, ⟨A1, c1, rfl, hc1, hC1⟩⟩⟩ := h
  exact ⟨A0, c0, A1, c1, rfl, hc0, hC0, hc1, hC1⟩
theorem opens_gate : Opens enc Tryd.prog w 0 true 43 k43 (fun x => 0 ≤ x.f4) := by
  intro fuel cs x h hz
  obtain ⟨a, hK, _, _, _, _, h4⟩ := opens_struct (fun x : S43 => (x.f0, x.f1, x.f2, x.f3, x.f4)) (fun p => ⟨p.1, p.2.1, p.2.2.1, p.2.2.2.1, p.2.2.2.2⟩) Tryd.underlying43 (by kernel_rfl) (fun _ => rfl)
    (opensF_cons rfl (by kernel_rfl) (opens_int Tryd.underlying3) (opensF_cons rfl (by kernel_rfl) (opens_int Tryd.underlying3) (opensF_cons rfl (by kernel_rfl) (opens_int Tryd.underlying3) (opensF_cons rfl (by kernel_rfl) (opens_int Tryd.underlying3)
      (opensF_one rfl (by kernel_rfl) (opens_int Tryd.underlying22)))))) fuel cs x h hz
  refine ⟨a, hK, ?_⟩
  have h5 : (Lit.int .u64 a.f4).wf = true := h4
  simp [Lit.wf, IntKind.min, IntKind.max, IntKind.bits, IntKind.signed] at h5
  omega
theorem opens_circuit : Opens enc Tryd.prog w 0 true 26 kC (fun x => ∀ g ∈ x.gs, 0 ≤ g.f4) := by
  intro fuel cs x h hz
  obtain ⟨a, hK, _, h2, _⟩ := opens_struct (fun x : SC => (x.P, x.gs, x.os)) (fun p => ⟨p.1, p.2.1, p.2.2⟩) Tryd.underlying26 (by kernel_rfl) (fun _ => rfl)
    (opensF_cons rfl (by kernel_rfl) (opens_int Tryd.underlying22) (opensF_cons rfl (by kernel_rfl) (opens_slice (B := 40) Tryd.underlying23 (by kernel_rfl) (by kernel_rfl) opens_gate)
      (opensF_one rfl (by kernel_rfl) (opens_slice (B := 8) Tryd.underlying24 (by kernel_rfl) (by kernel_rfl) (opens_int Tryd.underlying3))))) fuel cs x h hz
  exact ⟨a, hK, h2.1⟩
theorem u16_rng {c : Int} (hc : (Lit.int .u16 c).wf = true) : 0 ≤ c ∧ c < 65536 := by
  simp [Lit.wf, IntKind.min, IntKind.max, IntKind.bits, IntKind.signed] at hc; omega
end Go.Proofs.YtmnleabeipmhmaaDoor.P
end
section
namespace Go.Proofs.YtmnleabeipmhmaaDoor.P
open Go.RowKit Go.Proofs.YtmnleabeipmhmaaDoorW.PrintWords Go.Proofs.YtmnleabeipmhmaaDoorW.PrintLast Go.Proofs.YtmnleabeipmhmaaDoorW.PrintMore
attribute [local go_sem] zbt zbu zb2 zb3 zbl zbm zbx zby   -- for this text's walks alone
set_option linter.unusedVariables false
set_option linter.unusedSimpArgs false
attribute [local go_sem high] eqA43
end Go.Proofs.YtmnleabeipmhmaaDoor.P
end
section
namespace Go.Proofs.YtmnleabeipmhmaaDoor.P
open Go.RowKit Go.Proofs.YtmnleabeipmhmaaDoorW.PrintWords Go.Proofs.YtmnleabeipmhmaaDoorW.PrintLast Go.Proofs.YtmnleabeipmhmaaDoorW.PrintMore
attribute [local go_sem] zbt zbu zb2 zb3 zbl zbm zbx zby   -- for this text's walks alone
set_option linter.unusedVariables false
set_option linter.unusedSimpArgs false
attribute [local go_sem high] eqA43
end Go.Proofs.YtmnleabeipmhmaaDoor.P
end
section
namespace Go.Proofs.YtmnleabeipmhmaaDoor.P
open Go.RowKit Go.Proofs.YtmnleabeipmhmaaDoorW.PrintWords Go.Proofs.YtmnleabeipmhmaaDoorW.PrintLast Go.Proofs.YtmnleabeipmhmaaDoorW.PrintMore
attribute [local go_sem] zbt zbu zb2 zb3 zbl zbm zbx zby   -- for this text's walks alone
set_option linter.unusedVariables false
set_option linter.unusedSimpArgs false
end Go.Proofs.YtmnleabeipmhmaaDoor.P
end
section
namespace Go.Proofs.YtmnleabeipmhmaaDoor.P
open Go.RowKit Go.Proofs.YtmnleabeipmhmaaDoorW.PrintWords Go.Proofs.YtmnleabeipmhmaaDoorW.PrintLast Go.Proofs.YtmnleabeipmhmaaDoorW.PrintMore
attribute [local go_sem] zbt zbu zb2 zb3 zbl zbm zbx zby   -- for this text's walks alone
set_option linter.unusedVariables false
set_option linter.unusedSimpArgs false
end Go.Proofs.YtmnleabeipmhmaaDoor.P
end
section
namespace Go.Proofs.YtmnleabeipmhmaaDoor.P
end Go.Proofs.YtmnleabeipmhmaaDoor.P
end
section
namespace Go.Proofs.YtmnleabeipmhmaaDoor.P
open Go.RowKit Go.Proofs.YtmnleabeipmhmaaDoorW.PrintWords Go.Proofs.YtmnleabeipmhmaaDoorW.PrintLast Go.Proofs.YtmnleabeipmhmaaDoorW.PrintMore
attribute [local go_sem] zbt zbu zb2 zb3 zbl zbm zbx zby   -- for this text's walks alone
set_option linter.unusedVariables false
set_option linter.unusedSimpArgs false
end Go.Proofs.YtmnleabeipmhmaaDoor.P
end
section
namespace Go.Proofs.YtmnleabeipmhmaaDoor.P
open Go.RowKit Go.Proofs.YtmnleabeipmhmaaDoorW.PrintWords Go.Proofs.YtmnleabeipmhmaaDoorW.PrintLast Go.Proofs.YtmnleabeipmhmaaDoorW.PrintMore
attribute [local go_sem] zbt zbu zb2 zb3 zbl zbm zbx zby   -- for this text's walks alone
set_option linter.unusedVariables false
set_option linter.unusedSimpArgs false
end Go.Proofs.YtmnleabeipmhmaaDoor.P
end
section
namespace Go.Proofs.YtmnleabeipmhmaaDoor.P
open Go.RowKit Go.Proofs.YtmnleabeipmhmaaDoorW.PrintWords Go.Proofs.YtmnleabeipmhmaaDoorW.PrintLast Go.Proofs.YtmnleabeipmhmaaDoorW.PrintMore
attribute [local go_sem] zbt zbu zb2 zb3 zbl zbm zbx zby   -- for this text's walks alone
set_option linter.unusedVariables false
set_option linter.unusedSimpArgs false
end Go.Proofs.YtmnleabeipmhmaaDoor.P
end
section
namespace Go.Proofs.YtmnleabeipmhmaaDoor.P
end Go.Proofs.YtmnleabeipmhmaaDoor.P
end
section
set_option linter.unusedVariables false
set_option linter.unusedSimpArgs false
namespace Go.Proofs.YtmnleabeipmhmaaDoor.P
open Go.RowKit Go.Proofs.YtmnleabeipmhmaaDoorW.PrintWords Go.Proofs.YtmnleabeipmhmaaDoorW.PrintLast Go.Proofs.YtmnleabeipmhmaaDoorW.PrintMore
theorem format_leP {P : Int} {gs : List GT} {os : List Int} (h : GoodC P gs os) : (zbr P gs os).length ≤ 4000000 := by
  have hP := exp_range P h.p
  have hK : ∀ g ∈ gs, 0 ≤ g.f4 ∧ g.f4 < 18446744073709551616 := by
    intro g hg
    obtain ⟨i, hi, rfl⟩ := List.getElem_of_mem hg
    rcases h.g i hi with ⟨x, h1, h2, e⟩ | ⟨x, h1, h2, e⟩ | ⟨K, h1, h2, e⟩ | ⟨a, b, h1, h2, e⟩ | ⟨a, b, h1, h2, e⟩ | ⟨K, a, h1, h2, e⟩ | ⟨a, b, h1, h2, e⟩ <;> rw [e] <;> simp only <;> omega
  have h1 := headT_le P ⟨by omega, by omega⟩
  have h2 := gatesT_le gs hK
  have h3 := lineT_le [111, 117, 116] (os.map IntKind.u64.wrap) (fun x hx => by simp only [List.mem_map] at hx; obtain ⟨y, _, rfl⟩ := hx; exact wrap_u64 y)
  simp only [List.length_map, List.length_cons, List.length_nil] at h3
  have hn := h.n
  have hm := h.m
  simp only [zbr, outsT, List.length_append, List.length_cons, List.length_nil]
  omega
theorem format_pos (P : Int) (gs : List GT) (os : List Int) : 0 < (zbr P gs os).length := by
  simp only [zbr, outsT, List.length_append, List.length_cons, List.length_nil]; omega
theorem parse_take {P : Int} {gs : List GT} {os : List Int} (h : GoodC P gs os) (n : Nat) (hn : n < (zbr P gs os).length) : (parseP ((zbr P gs os).take n)).2.2.2.2 = 3 := by
  rcases parse_err ((zbr P gs os).take n) with he | he
  · exfalso
    obtain ⟨⟨P', gs', os', k, e⟩, hq⟩ : ∃ x, parseP ((zbr P gs os).take n) = x := ⟨_, rfl⟩
    rw [hq] at he
    simp only at he
    subst he
    obtain ⟨_, hg', hl⟩ := parse_ok hq
    have h1 := parse_more hg' ((zbr P gs os).drop n) (by intro e; have := congrArg List.length e; simp at this; omega)
    rw [← hl, List.take_append_drop, parse_format h] at h1
    simp at h1
  · exact he
theorem prefix_ev (P : Int) (gs : List GT) (os : List Int) (q : Int) (more : ByteArray) (hu : ∀ g ∈ gs, 0 ≤ g.f4) (hq : 0 ≤ q ∧ q < 65536) : Ev (fun k => privitylaw32_CircuitPrefixFree.f k P gs os q more) true := by
  obtain ⟨m, rfl⟩ : ∃ l, more = mkB l := ⟨more.data.toList, (mkB_of more).symm⟩
  unfold privitylaw32_CircuitPrefixFree.f
  rw [show (100 : Int) = ((100 : Nat) : Int) from rfl, few_c]
  simp only [Option.bind_some]
  have aw : Ev (fun k => privitylaw32_CircuitPrefixFree.j0 k q (mkB m) true P gs os) true := Ev.step (f := fun _ => some true) (fun k => by simp only [privitylaw32_CircuitPrefixFree.j0, awake_f]; rfl) (Ev.now _)
  by_cases hf : gs.length ≤ 100 ∧ os.length ≤ 100
  · refine Ev.congr (fun k => if_pos (decide_eq_true hf)) ?_
    refine Ev.bind (refValid P gs os hu (by omega) (by omega)) ?_
    cases hv : validF P gs os with
    | false => exact aw
    | true =>
      refine Ev.congr (fun k => if_pos rfl) ?_
      by_cases hm : ((mkB m).size : Int) > ((100 : Nat) : Int)
      · rw [decide_eq_true hm]; exact aw
      rw [decide_eq_false hm]
      rw [mkB_size] at hm
      have hg := (valid_good P gs os hu).1 hv
      have hL := format_pos P gs os
      have hle := format_leP hg
      have hsz : (⟨(zbr P gs os).toArray⟩ : ByteArray).size = (zbr P gs os).length := sz _
      refine Ev.step (f := fun k => privitylaw32_CircuitPrefixFree.j1 k q (mkB m) ⟨(zbr P gs os).toArray⟩ false) (fun k => ?_) ?_
      · simp only [privitylaw32_CircuitPrefixFree.j0, format_c hg, Option.bind_some]
        rw [if_neg (by decide), if_pos (by first | trivial | rfl), hsz, show (((zbr P gs os).length : Int) == 0) = false from beq_eq_false_iff_ne.2 (by omega)]
      have hw : wrap64 q = q := by unfold wrap64; omega
      obtain ⟨c, hc, hcl⟩ : ∃ c : Nat, Int.tmod q ((zbr P gs os).length : Int) = (c : Int) ∧ c < (zbr P gs os).length := by
        have h1 : 0 ≤ Int.tmod q ((zbr P gs os).length : Int) := Int.tmod_nonneg _ hq.1
        have h2 : Int.tmod q ((zbr P gs os).length : Int) < ((zbr P gs os).length : Int) := Int.tmod_lt_of_pos _ (by omega)
        exact ⟨(Int.tmod q ((zbr P gs os).length : Int)).toNat, by omega, by omega⟩
      have hx : (⟨(zbr P gs os).toArray⟩ : ByteArray).extract 0 c = ⟨((zbr P gs os).take c).toArray⟩ := by rw [ext_eq]; simp
      have hp1 : za0.f (⟨((zbr P gs os).take c).toArray⟩ : ByteArray) = some (parseP ((zbr P gs os).take c)) := parse_c _ (by rw [List.length_take]; omega)
      have ha : (⟨(zbr P gs os).toArray⟩ : ByteArray) ++ mkB m = ⟨(zbr P gs os ++ m).toArray⟩ := app_eq _ _
      have hp2 : za0.f (⟨(zbr P gs os ++ m).toArray⟩ : ByteArray) = some (parseP (zbr P gs os ++ m)) := parse_c _ (by rw [List.length_append]; omega)
      have ht := parse_take hg c hcl
      have hb : (mkB m).toList = m := mkB_toList m
      have hfin : ((parseP (zbr P gs os ++ m)).2.2.2.2 == 0) = (m == []) := by
        by_cases he : m = []
        · subst he; rw [List.append_nil, parse_format hg]; rfl
        · rw [parse_more hg m he, beq_eq_false_iff_ne.2 he]; rfl
      refine Ev.step (f := fun _ => some true) (fun k => ?_) (Ev.now _)
      simp only [privitylaw32_CircuitPrefixFree.j1]
      rw [if_neg (by decide), hsz, if_neg (by omega), hw, hc, if_pos (by omega), if_pos (by omega), show ((c : Int)).toNat = c from Int.toNat_natCast c, hx, hp1]
      simp only [Option.bind_some]
      rw [if_pos (by rw [mkB_size]; omega), ha, hp2]
      simp only [Option.bind_some, awake_f]
      rw [if_pos (by first | trivial | rfl), ht, if_pos (by first | trivial | rfl), hb, hfin, beq_self_eq_true]
  · exact Ev.congr (fun k => if_neg (by simpa using hf)) aw
end Go.Proofs.YtmnleabeipmhmaaDoor.P
end
