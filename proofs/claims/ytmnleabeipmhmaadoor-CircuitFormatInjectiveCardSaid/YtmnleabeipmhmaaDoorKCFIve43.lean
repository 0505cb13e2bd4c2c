/- What is proved here: a part of the proof of CircuitFormatInjective: Cgb, Cgc, Cgd, Cge, Cgf, Cga, Px3, Px4, Px6, Cr1, Px19, Px20, Px14, Px21, Cr2. No conditions beside those that each theorem states. -/
import Derived.Test.YtmnleabeipmhmaaDoorKCFIve5
import Derived.Test.YtmnleabeipmhmaaDoorKCFIve34
import Derived.Test.YtmnleabeipmhmaaDoorKCFIve10
import Derived.Test.YtmnleabeipmhmaaDoorKCFIve9
import Derived.Test.YtmnleabeipmhmaaDoorKCFIve42
import Derived.Test.YtmnleabeipmhmaaDoorKCFIve13
import Derived.Test.YtmnleabeipmhmaaDoorKCFIve12
section
namespace Go.Proofs.YtmnleabeipmhmaaDoor.P
open Go.RowKit Go.Proofs.YtmnleabeipmhmaaDoorW.PrintWords Go.Proofs.YtmnleabeipmhmaaDoorW.PrintLast Go.Proofs.YtmnleabeipmhmaaDoorW.PrintMore
attribute [local go_sem] zbg zbf zbp zbm za9 zba zbh zbi   -- for this text's walks alone
set_option linter.unusedVariables false
set_option linter.unusedSimpArgs false
attribute [local go_sem high] eqA43
end Go.Proofs.YtmnleabeipmhmaaDoor.P
end
section
namespace Go.Proofs.YtmnleabeipmhmaaDoor.P
open Go.RowKit Go.Proofs.YtmnleabeipmhmaaDoorW.PrintWords Go.Proofs.YtmnleabeipmhmaaDoorW.PrintLast Go.Proofs.YtmnleabeipmhmaaDoorW.PrintMore
attribute [local go_sem] zbg zbf zbp zbm za9 zba zbh zbi   -- for this text's walks alone
set_option linter.unusedVariables false
set_option linter.unusedSimpArgs false
attribute [local go_sem high] eqA43
end Go.Proofs.YtmnleabeipmhmaaDoor.P
end
section
namespace Go.Proofs.YtmnleabeipmhmaaDoor.P
open Go.RowKit Go.Proofs.YtmnleabeipmhmaaDoorW.PrintWords Go.Proofs.YtmnleabeipmhmaaDoorW.PrintLast Go.Proofs.YtmnleabeipmhmaaDoorW.PrintMore
attribute [local go_sem] zbg zbf zbp zbm za9 zba zbh zbi   -- for this text's walks alone
set_option linter.unusedVariables false
set_option linter.unusedSimpArgs false
attribute [local go_sem high] eqA43
end Go.Proofs.YtmnleabeipmhmaaDoor.P
end
section
namespace Go.Proofs.YtmnleabeipmhmaaDoor.P
open Go.RowKit Go.Proofs.YtmnleabeipmhmaaDoorW.PrintWords Go.Proofs.YtmnleabeipmhmaaDoorW.PrintLast Go.Proofs.YtmnleabeipmhmaaDoorW.PrintMore
attribute [local go_sem] zbg zbf zbp zbm za9 zba zbh zbi   -- for this text's walks alone
set_option linter.unusedVariables false
set_option linter.unusedSimpArgs false
attribute [local go_sem high] eqA43
end Go.Proofs.YtmnleabeipmhmaaDoor.P
end
section
set_option linter.unusedVariables false
set_option linter.unusedSimpArgs false
namespace Go.Proofs.YtmnleabeipmhmaaDoor.P
open Go.RowKit Go.Proofs.YtmnleabeipmhmaaDoorW.PrintWords Go.Proofs.YtmnleabeipmhmaaDoorW.PrintLast Go.Proofs.YtmnleabeipmhmaaDoorW.PrintMore
attribute [local go_sem high] eqA43
end Go.Proofs.YtmnleabeipmhmaaDoor.P
end
section
namespace Go.Proofs.YtmnleabeipmhmaaDoor.P
open Go.RowKit Go.Proofs.YtmnleabeipmhmaaDoorW.PrintWords Go.Proofs.YtmnleabeipmhmaaDoorW.PrintLast Go.Proofs.YtmnleabeipmhmaaDoorW.PrintMore
attribute [local go_sem] zbg zbf zbp zbm za9 zba zbh zbi   -- for this text's walks alone
set_option linter.unusedVariables false
set_option linter.unusedSimpArgs false
attribute [local go_sem high] eqA43
end Go.Proofs.YtmnleabeipmhmaaDoor.P
end
section
namespace Go.Proofs.YtmnleabeipmhmaaDoor.P
open Go.RowKit Go.Proofs.YtmnleabeipmhmaaDoorW.PrintWords Go.Proofs.YtmnleabeipmhmaaDoorW.PrintLast Go.Proofs.YtmnleabeipmhmaaDoorW.PrintMore
attribute [local go_sem] zbg zbf zbp zbm za9 zba zbh zbi   -- for this text's walks alone
set_option linter.unusedVariables false
set_option linter.unusedSimpArgs false
end Go.Proofs.YtmnleabeipmhmaaDoor.P
end
section
namespace Go.Proofs.YtmnleabeipmhmaaDoor.P
open Go.RowKit Go.Proofs.YtmnleabeipmhmaaDoorW.PrintWords Go.Proofs.YtmnleabeipmhmaaDoorW.PrintLast Go.Proofs.YtmnleabeipmhmaaDoorW.PrintMore
attribute [local go_sem] zbg zbf zbp zbm za9 zba zbh zbi   -- for this text's walks alone
set_option linter.unusedVariables false
set_option linter.unusedSimpArgs false
end Go.Proofs.YtmnleabeipmhmaaDoor.P
end
section
namespace Go.Proofs.YtmnleabeipmhmaaDoor.P
open Go.RowKit Go.Proofs.YtmnleabeipmhmaaDoorW.PrintWords Go.Proofs.YtmnleabeipmhmaaDoorW.PrintLast Go.Proofs.YtmnleabeipmhmaaDoorW.PrintMore
attribute [local go_sem] zbg zbf zbp zbm za9 zba zbh zbi   -- for this text's walks alone
set_option linter.unusedVariables false
set_option linter.unusedSimpArgs false
end Go.Proofs.YtmnleabeipmhmaaDoor.P
end
section
set_option linter.unusedVariables false
set_option linter.unusedSimpArgs false
namespace Go.Proofs.YtmnleabeipmhmaaDoor.P
open Go.RowKit Go.Proofs.YtmnleabeipmhmaaDoorW.PrintWords Go.Proofs.YtmnleabeipmhmaaDoorW.PrintLast Go.Proofs.YtmnleabeipmhmaaDoorW.PrintMore
theorem rdG (l : List GT) (i : Nat) (h : i < l.length) : za8 l (i : Int) = l[i] := by simp [za8, h]
theorem few_c (P : Int) (gs : List GT) (os : List Int) (n : Nat) : zax.f P gs os (n : Int) = some (decide (gs.length ≤ n ∧ os.length ≤ n)) := by
  unfold zax.f
  by_cases h1 : gs.length ≤ n
  · rw [if_pos (by omega)]
    congr 1
    rw [decide_eq_decide]
    omega
  · rw [if_neg (by omega)]
    congr 1
    rw [Eq.comm, decide_eq_false_iff_not]
    omega
end Go.Proofs.YtmnleabeipmhmaaDoor.P
end
section
namespace Go.Proofs.YtmnleabeipmhmaaDoor.P
open Go.RowKit Go.Proofs.YtmnleabeipmhmaaDoorW.PrintWords Go.Proofs.YtmnleabeipmhmaaDoorW.PrintLast Go.Proofs.YtmnleabeipmhmaaDoorW.PrintMore
attribute [local go_sem] zbg zbf zbp zbm za9 zba zbh zbi   -- for this text's walks alone
set_option linter.unusedVariables false
set_option linter.unusedSimpArgs false
end Go.Proofs.YtmnleabeipmhmaaDoor.P
end
section
namespace Go.Proofs.YtmnleabeipmhmaaDoor.P
open Go.RowKit Go.Proofs.YtmnleabeipmhmaaDoorW.PrintWords Go.Proofs.YtmnleabeipmhmaaDoorW.PrintLast Go.Proofs.YtmnleabeipmhmaaDoorW.PrintMore
attribute [local go_sem] zbg zbf zbp zbm za9 zba zbh zbi   -- for this text's walks alone
set_option linter.unusedVariables false
set_option linter.unusedSimpArgs false
end Go.Proofs.YtmnleabeipmhmaaDoor.P
end
section
namespace Go.Proofs.YtmnleabeipmhmaaDoor.P
open Go.RowKit Go.Proofs.YtmnleabeipmhmaaDoorW.PrintWords Go.Proofs.YtmnleabeipmhmaaDoorW.PrintLast Go.Proofs.YtmnleabeipmhmaaDoorW.PrintMore
attribute [local go_sem] zbg zbf zbp zbm za9 zba zbh zbi   -- for this text's walks alone
set_option linter.unusedVariables false
set_option linter.unusedSimpArgs false
end Go.Proofs.YtmnleabeipmhmaaDoor.P
end
section
namespace Go.Proofs.YtmnleabeipmhmaaDoor.P
open Go.RowKit Go.Proofs.YtmnleabeipmhmaaDoorW.PrintWords Go.Proofs.YtmnleabeipmhmaaDoorW.PrintLast Go.Proofs.YtmnleabeipmhmaaDoorW.PrintMore
attribute [local go_sem] zbg zbf zbp zbm za9 zba zbh zbi   -- for this text's walks alone
set_option linter.unusedVariables false
set_option linter.unusedSimpArgs false
end Go.Proofs.YtmnleabeipmhmaaDoor.P
end
section
set_option linter.unusedVariables false
set_option linter.unusedSimpArgs false
namespace Go.Proofs.YtmnleabeipmhmaaDoor.P
open Go.RowKit Go.Proofs.YtmnleabeipmhmaaDoorW.PrintWords Go.Proofs.YtmnleabeipmhmaaDoorW.PrintLast Go.Proofs.YtmnleabeipmhmaaDoorW.PrintMore
theorem gk_earlier {P : Int} {i : Nat} {g : GT} (h : GK P i g) : earlier g i = true := by
  rcases h with ⟨x, h1, h2, rfl⟩ | ⟨x, h1, h2, rfl⟩ | ⟨K, h1, h2, rfl⟩ | ⟨a, b, h1, h2, rfl⟩ | ⟨a, b, h1, h2, rfl⟩ | ⟨K, a, h1, h2, rfl⟩ | ⟨a, b, h1, h2, rfl⟩
  · simp [earlier, of_in, fIn]
  · simp [earlier, of_bit, fBit]
  · simp [earlier, of_const, zcg]
  · simp [earlier, of_add, fAdd, h1.1, h1.2, h2.1, h2.2]
  · simp [earlier, of_sub, fSub, h1.1, h1.2, h2.1, h2.2]
  · simp [earlier, of_scale, fScale, h2.1, h2.2]
  · simp [earlier, of_mul, fMul, h1.1, h1.2, h2.1, h2.2]
theorem backward_of : ∀ (gs : List GT) (i : Nat), (∀ (j : Nat) (h : j < gs.length), earlier gs[j] (i + j) = true) → backward i gs = true
  | [], _, _ => rfl
  | g :: r, i, h => by
    simp only [backward, Bool.and_eq_true]
    refine ⟨by have := h 0 (by simp); simpa using this, backward_of r (i + 1) (fun j hj => ?_)⟩
    have := h (j + 1) (by simpa using hj)
    rw [show i + 1 + j = i + (j + 1) by omega]
    simpa using this
theorem depth_c {P : Int} {gs : List GT} {os : List Int} (h : GoodC P gs os) : zbb.f P gs os = some (maxAll (deps gs)) := by
  unfold zbb.f
  rw [if_pos ⟨by have := h.n; omega, backward_of gs 0 (fun j hj => by rw [Nat.zero_add]; exact gk_earlier (h.g j hj))⟩]
theorem mul_c (P : Int) (gs : List GT) (os : List Int) : za5.f P gs os = some ((gs.filter (fun g => g.f0 == 6)).length : Int) := by
  unfold za5.f; rw [gate_eq, if_pos rfl]
theorem in_c (P : Int) (gs : List GT) (os : List Int) (q : Int) : zan.f P gs os q = some ((gs.filter (fun g => (g.f0 == 1) && (g.f1 == q))).length : Int) := by
  unfold zan.f; rw [gate_eq, if_pos rfl]
theorem valid_c (P : Int) (gs : List GT) (os : List Int) : zam.f P gs os = some (validF P gs os) := by
  unfold zam.f; rw [gate_eq, if_pos rfl]
end Go.Proofs.YtmnleabeipmhmaaDoor.P
end
