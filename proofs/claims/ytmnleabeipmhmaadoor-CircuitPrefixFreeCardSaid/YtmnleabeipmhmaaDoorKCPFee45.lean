/- What is proved here: a part of the proof of CircuitPrefixFree: Px19, Px20, Px14, Px21, Cr2, Cawk. No conditions beside those that each theorem states. -/
import Derived.Test.YtmnleabeipmhmaaDoorKCPFee6
import Derived.Test.YtmnleabeipmhmaaDoorKCPFee44
import Derived.Test.YtmnleabeipmhmaaDoorKCPFee21
import Derived.Test.YtmnleabeipmhmaaDoorKCPFee20
import Derived.Test.YtmnleabeipmhmaaDoorKCPFee39
section
namespace Go.Proofs.YtmnleabeipmhmaaDoor.P
open Go.RowKit Go.Proofs.YtmnleabeipmhmaaDoorW.PrintWords Go.Proofs.YtmnleabeipmhmaaDoorW.PrintLast Go.Proofs.YtmnleabeipmhmaaDoorW.PrintMore
attribute [local go_sem] zbt zbu zb2 zb3 zbl zbm zbx zby   -- for this text's walks alone
set_option linter.unusedVariables false
set_option linter.unusedSimpArgs false
end Go.Proofs.YtmnleabeipmhmaaDoor.P
end
section
namespace Go.Proofs.YtmnleabeipmhmaaDoor.P
open Go.RowKit Go.Proofs.YtmnleabeipmhmaaDoorW.PrintWords Go.Proofs.YtmnleabeipmhmaaDoorW.PrintLast Go.Proofs.YtmnleabeipmhmaaDoorW.PrintMore
attribute [local go_sem] zbt zbu zb2 zb3 zbl zbm zbx zby   -- for this text's walks alone
set_option linter.unusedVariables false
set_option linter.unusedSimpArgs false
end Go.Proofs.YtmnleabeipmhmaaDoor.P
end
section
namespace Go.Proofs.YtmnleabeipmhmaaDoor.P
open Go.RowKit Go.Proofs.YtmnleabeipmhmaaDoorW.PrintWords Go.Proofs.YtmnleabeipmhmaaDoorW.PrintLast Go.Proofs.YtmnleabeipmhmaaDoorW.PrintMore
attribute [local go_sem] zbt zbu zb2 zb3 zbl zbm zbx zby   -- for this text's walks alone
set_option linter.unusedVariables false
set_option linter.unusedSimpArgs false
end Go.Proofs.YtmnleabeipmhmaaDoor.P
end
section
namespace Go.Proofs.YtmnleabeipmhmaaDoor.P
open Go.RowKit Go.Proofs.YtmnleabeipmhmaaDoorW.PrintWords Go.Proofs.YtmnleabeipmhmaaDoorW.PrintLast Go.Proofs.YtmnleabeipmhmaaDoorW.PrintMore
attribute [local go_sem] zbt zbu zb2 zb3 zbl zbm zbx zby   -- for this text's walks alone
set_option linter.unusedVariables false
set_option linter.unusedSimpArgs false
end Go.Proofs.YtmnleabeipmhmaaDoor.P
end
section
set_option linter.unusedVariables false
set_option linter.unusedSimpArgs false
namespace Go.Proofs.YtmnleabeipmhmaaDoor.P
open Go.RowKit Go.Proofs.YtmnleabeipmhmaaDoorW.PrintWords Go.Proofs.YtmnleabeipmhmaaDoorW.PrintLast Go.Proofs.YtmnleabeipmhmaaDoorW.PrintMore
theorem gk_earlier {P : Int} {i : Nat} {g : GT} (h : GK P i g) : earlier g i = true := by
  rcases h with ⟨x, h1, h2, rfl⟩ | ⟨x, h1, h2, rfl⟩ | ⟨K, h1, h2, rfl⟩ | ⟨a, b, h1, h2, rfl⟩ | ⟨a, b, h1, h2, rfl⟩ | ⟨K, a, h1, h2, rfl⟩ | ⟨a, b, h1, h2, rfl⟩
  · simp [earlier, of_in, fIn]
  · simp [earlier, of_bit, fBit]
  · simp [earlier, of_const, zcy]
  · simp [earlier, of_add, fAdd, h1.1, h1.2, h2.1, h2.2]
  · simp [earlier, of_sub, fSub, h1.1, h1.2, h2.1, h2.2]
  · simp [earlier, of_scale, zc4, h2.1, h2.2]
  · simp [earlier, of_mul, fMul, h1.1, h1.2, h2.1, h2.2]
theorem backward_of : ∀ (gs : List GT) (i : Nat), (∀ (j : Nat) (h : j < gs.length), earlier gs[j] (i + j) = true) → backward i gs = true
  | [], _, _ => rfl
  | g :: r, i, h => by
    simp only [backward, Bool.and_eq_true]
    refine ⟨by have := h 0 (by simp); simpa using this, backward_of r (i + 1) (fun j hj => ?_)⟩
    have := h (j + 1) (by simpa using hj)
    rw [show i + 1 + j = i + (j + 1) by omega]
    simpa using this
theorem depth_c {P : Int} {gs : List GT} {os : List Int} (h : GoodC P gs os) : zbp.f P gs os = some (maxAll (deps gs)) := by
  unfold zbp.f
  rw [if_pos ⟨by have := h.n; omega, backward_of gs 0 (fun j hj => by rw [Nat.zero_add]; exact gk_earlier (h.g j hj))⟩]
theorem mul_c (P : Int) (gs : List GT) (os : List Int) : zbj.f P gs os = some ((gs.filter (fun g => g.f0 == 6)).length : Int) := by
  unfold zbj.f; rw [gate_eq, if_pos rfl]
theorem in_c (P : Int) (gs : List GT) (os : List Int) (q : Int) : zau.f P gs os q = some ((gs.filter (fun g => (g.f0 == 1) && (g.f1 == q))).length : Int) := by
  unfold zau.f; rw [gate_eq, if_pos rfl]
theorem valid_c (P : Int) (gs : List GT) (os : List Int) : zbb.f P gs os = some (validF P gs os) := by
  unfold zbb.f; rw [gate_eq, if_pos rfl]
end Go.Proofs.YtmnleabeipmhmaaDoor.P
end
section
set_option linter.unusedVariables false
set_option linter.unusedSimpArgs false
namespace Go.Proofs.YtmnleabeipmhmaaDoor.P
open Go.RowKit Go.Proofs.YtmnleabeipmhmaaDoorW.PrintWords Go.Proofs.YtmnleabeipmhmaaDoorW.PrintLast Go.Proofs.YtmnleabeipmhmaaDoorW.PrintMore
def aw1 : List UInt8 := [112, 114, 105, 109, 101, 32, 51, 49, 10, 105, 110, 32, 50, 10, 99, 111, 110, 115, 116, 32, 51, 10, 109, 117, 108, 32, 48, 32, 49, 10, 111, 117, 116, 32, 50, 10]
def aw2 : List UInt8 := [112, 114, 105, 109, 101, 32, 51, 49, 10, 109, 117, 108, 32, 48, 32, 48, 10]
def awG : List GT := [⟨1, 2, 0, 0, 0⟩, ⟨2, 0, 0, 0, 3⟩, ⟨6, 0, 0, 1, 0⟩]
set_option maxRecDepth 100000 in
theorem aw_parse : parseP aw1 = (31, awG, [2], 0, 0) := by kernel_rfl
set_option maxRecDepth 100000 in
theorem aw_bad : parseP aw2 = (0, [], [], 2, 3) := by kernel_rfl
theorem format_c {P : Int} {gs : List GT} {os : List Int} (h : GoodC P gs os) : zbv.f P gs os = some (⟨(zbr P gs os).toArray⟩, 0) := by
  have hP := exp_range P h.p
  have hK : ∀ g ∈ gs, 0 ≤ g.f4 ∧ g.f4 < 18446744073709551616 := by
    intro g hg
    obtain ⟨i, hi, rfl⟩ := List.getElem_of_mem hg
    rcases h.g i hi with ⟨x, h1, h2, e⟩ | ⟨x, h1, h2, e⟩ | ⟨K, h1, h2, e⟩ | ⟨a, b, h1, h2, e⟩ | ⟨a, b, h1, h2, e⟩ | ⟨K, a, h1, h2, e⟩ | ⟨a, b, h1, h2, e⟩ <;> rw [e] <;> simp only <;> omega
  unfold zbv.f
  rw [if_pos ((valid_good P gs os (fun g hg => (hK g hg).1)).2 h), if_pos]
  simp only [inU, Bool.and_eq_true, decide_eq_true_eq, List.all_eq_true]
  exact ⟨by omega, hK⟩
theorem awake_f : zba.f = some true := by
  obtain ⟨_, hg, hl⟩ := parse_ok aw_parse
  have e1 : za0.f (⟨aw1.toArray⟩ : ByteArray) = some (31, awG, [2], 0, 0) := by rw [parse_c _ (by decide), aw_parse]
  have e3 : za0.f (⟨aw2.toArray⟩ : ByteArray) = some (0, [], [], 2, 3) := by rw [parse_c _ (by decide), aw_bad]
  have e2 := format_c hg
  rw [← hl] at e2
  have e4 : zbb.f 31 awG [2] = some true := by rw [valid_c, (valid_good 31 awG [2] (by decide)).2 hg]
  have e5 : zbj.f 31 awG [2] = some 1 := by rw [mul_c]; rfl
  have e6 : zbp.f 31 awG [2] = some 1 := by rw [depth_c hg]; rfl
  have e7 : zau.f 31 awG [2] 2 = some 1 := by rw [in_c]; rfl
  have e8 : zau.f 31 awG [2] 1 = some 0 := by rw [in_c]; rfl
  have e9 : zbb.f 0 [] [] = some false := by rw [valid_c]; rfl
  have t1 : (⟨aw1.toArray⟩ : ByteArray).toList = aw1 := ba_toList aw1
  unfold zba.f
  change ((za0.f (⟨aw1.toArray⟩ : ByteArray)).bind _) = _
  rw [e1]
  simp only [Option.bind_some]
  rw [e2]
  simp only [Option.bind_some]
  change ((za0.f (⟨aw2.toArray⟩ : ByteArray)).bind _) = _
  rw [e3]
  simp only [Option.bind_some, t1, e4, e5, e6, e7, e8, e9]
  rfl
theorem zba.calls (r : Bool) (w : World) (hLd : Ld w) (h : zba.f = some r) :
    Calls Tryd.prog 12 #[] w fun e w' => e = .returned (.bool r) ∧ Below w.heap.size w w' :=
  zba.callsT r w hLd (Option.some.inj (h.symm.trans awake_f)) h
end Go.Proofs.YtmnleabeipmhmaaDoor.P
end
