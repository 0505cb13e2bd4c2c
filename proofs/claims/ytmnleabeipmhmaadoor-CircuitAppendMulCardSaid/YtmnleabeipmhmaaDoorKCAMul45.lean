/- What is proved here: a part of the proof of CircuitAppendMul: Px20, Px21, Cr2, Cawk. No conditions beside those that each theorem states. -/
import Derived.Test.YtmnleabeipmhmaaDoorKCAMul6
import Derived.Test.YtmnleabeipmhmaaDoorKCAMul39
import Derived.Test.YtmnleabeipmhmaaDoorKCAMul44
import Derived.Test.YtmnleabeipmhmaaDoorKCAMul21
import Derived.Test.YtmnleabeipmhmaaDoorKCAMul20
import Derived.Test.YtmnleabeipmhmaaDoorKCAMul38
section
namespace Go.Proofs.YtmnleabeipmhmaaDoor.P
open Go.RowKit Go.Proofs.YtmnleabeipmhmaaDoorW.PrintWords Go.Proofs.YtmnleabeipmhmaaDoorW.PrintLast Go.Proofs.YtmnleabeipmhmaaDoorW.PrintMore
attribute [local go_sem] zb4 zb2 zcg zcf zby zbz zb6 zb5   -- for this text's walks alone
set_option linter.unusedVariables false
set_option linter.unusedSimpArgs false
end Go.Proofs.YtmnleabeipmhmaaDoor.P
end
section
namespace Go.Proofs.YtmnleabeipmhmaaDoor.P
open Go.RowKit Go.Proofs.YtmnleabeipmhmaaDoorW.PrintWords Go.Proofs.YtmnleabeipmhmaaDoorW.PrintLast Go.Proofs.YtmnleabeipmhmaaDoorW.PrintMore
attribute [local go_sem] zb4 zb2 zcg zcf zby zbz zb6 zb5   -- for this text's walks alone
set_option linter.unusedVariables false
set_option linter.unusedSimpArgs false
end Go.Proofs.YtmnleabeipmhmaaDoor.P
end
section
set_option linter.unusedVariables false
set_option linter.unusedSimpArgs false
namespace Go.Proofs.YtmnleabeipmhmaaDoor.P
open Go.RowKit Go.Proofs.YtmnleabeipmhmaaDoorW.PrintWords Go.Proofs.YtmnleabeipmhmaaDoorW.PrintLast Go.Proofs.YtmnleabeipmhmaaDoorW.PrintMore
theorem gk_earlier {P : Int} {i : Nat} {g : GT} (h : GK P i g) : earlier g i = true := by
  rcases h with ⟨x, h1, h2, rfl⟩ | ⟨x, h1, h2, rfl⟩ | ⟨K, h1, h2, rfl⟩ | ⟨a, b, h1, h2, rfl⟩ | ⟨a, b, h1, h2, rfl⟩ | ⟨K, a, h1, h2, rfl⟩ | ⟨a, b, h1, h2, rfl⟩
  · simp [earlier, of_in, fIn]
  · simp [earlier, of_bit, fBit]
  · simp [earlier, of_const, fConst]
  · simp [earlier, of_add, fAdd, h1.1, h1.2, h2.1, h2.2]
  · simp [earlier, of_sub, fSub, h1.1, h1.2, h2.1, h2.2]
  · simp [earlier, of_scale, fScale, h2.1, h2.2]
  · simp [earlier, of_mul, fMul, h1.1, h1.2, h2.1, h2.2]
theorem backward_of : ∀ (gs : List GT) (i : Nat), (∀ (j : Nat) (h : j < gs.length), earlier gs[j] (i + j) = true) → backward i gs = true
  | [], _, _ => rfl
  | g :: r, i, h => by
    simp only [backward, Bool.and_eq_true]
    refine ⟨by have := h 0 (by simp); simpa using this, backward_of r (i + 1) (fun j hj => ?_)⟩
    have := h (j + 1) (by simpa using hj)
    rw [show i + 1 + j = i + (j + 1) by omega]
    simpa using this
theorem refDeps_go (P : Int) (gs : List GT) (os : List Int) (hl : gs.length ≤ 1000000) (hg : ∀ (j : Nat) (h : j < gs.length), GK P j gs[j]) (d : Nat) : ∀ i : Nat, gs.length - i = d → i ≤ gs.length →
    Ev (fun k => zal.l0 k (deps (gs.take i)) (i : Int) P gs os) (deps gs) := by
  induction d with
  | zero =>
    intro i hd hi
    obtain rfl : i = gs.length := by omega
    rw [List.take_length]
    exact Ev.step (f := fun _ => some (deps gs)) (fun k => by simp only [zal.l0]; rw [if_neg (by omega)]) (Ev.now _)
  | succ d ih =>
    intro i hd hi
    have hlt : i < gs.length := by omega
    have h1 := ih (i + 1) (by omega) (by omega)
    rw [List.take_succ_eq_append_getElem hlt, deps_snoc] at h1
    have hlen : (deps (gs.take i)).length = i := by rw [deps_length, List.length_take]; omega
    have hb := deps_bnd (gs.take i)
    rw [List.length_take, Nat.min_eq_left hi] at hb
    generalize deps (gs.take i) = D at *
    have hr := rdG gs i hlt
    have hk := hg i hlt
    generalize gs[i] = g at *
    rcases hk with ⟨x, h2, h3, rfl⟩ | ⟨x, h2, h3, rfl⟩ | ⟨K, h2, h3, rfl⟩ | ⟨a, b, h2, h3, rfl⟩ | ⟨a, b, h2, h3, rfl⟩ | ⟨K, a, h2, h3, rfl⟩ | ⟨a, b, h2, h3, rfl⟩
    · rw [show zb7 D (⟨1, x, 0, 0, 0⟩ : GT) = 0 from by simp [zb7, of_in, stepA, stepB, zc0, fIn]] at h1
      refine Ev.step (f := fun k => zal.j1 k D (i : Int) 0 false P gs os 1 x 0 0 0) (fun k => by simp only [zal.l0]; rw [if_pos (by omega), if_pos (by omega), hr]; rfl) ?_
      exact Ev.step (fun k => by simp only [zal.j1]; rw [if_neg (by decide), if_neg (by decide), if_pos (by omega), wrap_nat hlt (by omega)]) h1
    · rw [show zb7 D (⟨1, x, 0, 0, 1⟩ : GT) = 0 from by simp [zb7, of_bit, stepA, stepB, zc0, fBit]] at h1
      refine Ev.step (f := fun k => zal.j1 k D (i : Int) 0 false P gs os 1 x 0 0 1) (fun k => by simp only [zal.l0]; rw [if_pos (by omega), if_pos (by omega), hr]; rfl) ?_
      exact Ev.step (fun k => by simp only [zal.j1]; rw [if_neg (by decide), if_neg (by decide), if_pos (by omega), wrap_nat hlt (by omega)]) h1
    · rw [show zb7 D (⟨2, 0, 0, 0, K⟩ : GT) = 0 from by simp [zb7, of_const, stepA, stepB, zc0, fConst]] at h1
      refine Ev.step (f := fun k => zal.j1 k D (i : Int) 0 false P gs os 2 0 0 0 K) (fun k => by simp only [zal.l0]; rw [if_pos (by omega), if_pos (by omega), hr]; rfl) ?_
      exact Ev.step (fun k => by simp only [zal.j1]; rw [if_neg (by decide), if_neg (by decide), if_pos (by omega), wrap_nat hlt (by omega)]) h1
    · rw [show zb7 D (⟨3, 0, a, b, 0⟩ : GT) = Go.Proofs.YtmnleabeipmhmaaDoorW.PrintWords.mx (rd D a) (rd D b) from by simp [zb7, of_add, stepA, stepB, zc0, fAdd, mx, Go.Proofs.YtmnleabeipmhmaaDoorW.PrintWords.mx, rd]] at h1
      refine Ev.step (f := fun k => zal.j1 k D (i : Int) 0 true P gs os 3 0 a b 0) (fun k => by simp only [zal.l0]; rw [if_pos (by omega), if_pos (by omega), hr]; rfl) ?_
      exact Ev.step (fun k => by simp only [zal.j1]; rw [if_pos trivial, if_pos (by omega), if_pos (by omega), if_pos (by omega), if_pos (by omega), if_neg (by decide), if_pos (by omega), wrap_nat hlt (by omega)]) h1
    · rw [show zb7 D (⟨4, 0, a, b, 0⟩ : GT) = Go.Proofs.YtmnleabeipmhmaaDoorW.PrintWords.mx (rd D a) (rd D b) from by simp [zb7, of_sub, stepA, stepB, zc0, fSub, mx, Go.Proofs.YtmnleabeipmhmaaDoorW.PrintWords.mx, rd]] at h1
      refine Ev.step (f := fun k => zal.j1 k D (i : Int) 0 true P gs os 4 0 a b 0) (fun k => by simp only [zal.l0]; rw [if_pos (by omega), if_pos (by omega), hr]; rfl) ?_
      exact Ev.step (fun k => by simp only [zal.j1]; rw [if_pos trivial, if_pos (by omega), if_pos (by omega), if_pos (by omega), if_pos (by omega), if_neg (by decide), if_pos (by omega), wrap_nat hlt (by omega)]) h1
    · rw [show zb7 D (⟨5, 0, a, 0, K⟩ : GT) = rd D a from by simp [zb7, of_scale, stepA, stepB, zc0, fScale, rd]] at h1
      exact Ev.step (fun k => by simp only [zal.l0]; rw [if_pos (by omega), if_pos (by omega), hr]; dsimp only; rw [if_pos rfl, if_pos (by omega), if_pos (by omega), if_neg (by decide), if_pos (by omega), wrap_nat hlt (by omega)]) h1
    · have hw : wrap64 (Go.Proofs.YtmnleabeipmhmaaDoorW.PrintWords.mx (rd D a) (rd D b) + 1) = Go.Proofs.YtmnleabeipmhmaaDoorW.PrintWords.mx (rd D a) (rd D b) + 1 := by
        have q1 := bnd_getD hb a.toNat
        have q2 := bnd_getD hb b.toNat
        have q3 : rd D a = D.getD a.toNat 0 := rfl
        have q4 : rd D b = D.getD b.toNat 0 := rfl
        unfold Go.Proofs.YtmnleabeipmhmaaDoorW.PrintWords.mx wrap64
        split <;> omega
      rw [show zb7 D (⟨6, 0, a, b, 0⟩ : GT) = Go.Proofs.YtmnleabeipmhmaaDoorW.PrintWords.mx (rd D a) (rd D b) + 1 from by simp [zb7, of_mul, stepA, stepB, zc0, fMul, mx, Go.Proofs.YtmnleabeipmhmaaDoorW.PrintWords.mx, rd]] at h1
      refine Ev.step (f := fun k => zal.j1 k D (i : Int) 0 true P gs os 6 0 a b 0) (fun k => by simp only [zal.l0]; rw [if_pos (by omega), if_pos (by omega), hr]; rfl) ?_
      exact Ev.step (fun k => by simp only [zal.j1]; rw [if_pos trivial, if_pos (by omega), if_pos (by omega), if_pos (by omega), if_pos (by omega), if_pos (by first | trivial | rfl), if_pos (by omega), hw, wrap_nat hlt (by omega)]) h1
theorem refDeps {P : Int} {gs : List GT} {os : List Int} (h : GoodC P gs os) : Ev (fun k => zal.f k P gs os) (deps gs) := by
  have := refDeps_go P gs os (by have := h.n; omega) h.g _ 0 rfl (Nat.zero_le _)
  exact this
theorem depth_c {P : Int} {gs : List GT} {os : List Int} (h : GoodC P gs os) : zas.f P gs os = some (maxAll (deps gs)) := by
  unfold zas.f
  rw [if_pos ⟨by have := h.n; omega, backward_of gs 0 (fun j hj => by rw [Nat.zero_add]; exact gk_earlier (h.g j hj))⟩]
theorem mul_c (P : Int) (gs : List GT) (os : List Int) : zam.f P gs os = some ((gs.filter (fun g => g.f0 == 6)).length : Int) := by
  unfold zam.f; rw [gate_eq, if_pos rfl]
theorem in_c (P : Int) (gs : List GT) (os : List Int) (q : Int) : zaj.f P gs os q = some ((gs.filter (fun g => (g.f0 == 1) && (g.f1 == q))).length : Int) := by
  unfold zaj.f; rw [gate_eq, if_pos rfl]
theorem valid_c (P : Int) (gs : List GT) (os : List Int) : za6.f P gs os = some (validF P gs os) := by
  unfold za6.f; rw [gate_eq, if_pos rfl]
end Go.Proofs.YtmnleabeipmhmaaDoor.P
end
section
set_option linter.unusedVariables false
set_option linter.unusedSimpArgs false
namespace Go.Proofs.YtmnleabeipmhmaaDoor.P
open Go.RowKit Go.Proofs.YtmnleabeipmhmaaDoorW.PrintWords Go.Proofs.YtmnleabeipmhmaaDoorW.PrintLast Go.Proofs.YtmnleabeipmhmaaDoorW.PrintMore
def aw1 : List UInt8 := [112, 114, 105, 109, 101, 32, 51, 49, 10, 105, 110, 32, 50, 10, 99, 111, 110, 115, 116, 32, 51, 10, 109, 117, 108, 32, 48, 32, 49, 10, 111, 117, 116, 32, 50, 10]
def aw2 : List UInt8 := [112, 114, 105, 109, 101, 32, 51, 49, 10, 109, 117, 108, 32, 48, 32, 48, 10]
def awG : List GT := [⟨1, 2, 0, 0, 0⟩, ⟨2, 0, 0, 0, 3⟩, ⟨6, 0, 0, 1, 0⟩]
set_option maxRecDepth 100000 in
theorem aw_parse : parseP aw1 = (31, awG, [2], 0, 0) := by kernel_rfl
set_option maxRecDepth 100000 in
theorem aw_bad : parseP aw2 = (0, [], [], 2, 3) := by kernel_rfl
theorem format_c {P : Int} {gs : List GT} {os : List Int} (h : GoodC P gs os) : zca.f P gs os = some (⟨(formatT P gs os).toArray⟩, 0) := by
  have hP := exp_range P h.p
  have hK : ∀ g ∈ gs, 0 ≤ g.f4 ∧ g.f4 < 18446744073709551616 := by
    intro g hg
    obtain ⟨i, hi, rfl⟩ := List.getElem_of_mem hg
    rcases h.g i hi with ⟨x, h1, h2, e⟩ | ⟨x, h1, h2, e⟩ | ⟨K, h1, h2, e⟩ | ⟨a, b, h1, h2, e⟩ | ⟨a, b, h1, h2, e⟩ | ⟨K, a, h1, h2, e⟩ | ⟨a, b, h1, h2, e⟩ <;> rw [e] <;> simp only <;> omega
  unfold zca.f
  rw [if_pos ((valid_good P gs os (fun g hg => (hK g hg).1)).2 h), if_pos]
  simp only [inU, Bool.and_eq_true, decide_eq_true_eq, List.all_eq_true]
  exact ⟨by omega, hK⟩
theorem awake_f : zbc.f = some true := by
  obtain ⟨_, hg, hl⟩ := parse_ok aw_parse
  have e1 : zbt.f (⟨aw1.toArray⟩ : ByteArray) = some (31, awG, [2], 0, 0) := by rw [parse_c _ (by decide), aw_parse]
  have e3 : zbt.f (⟨aw2.toArray⟩ : ByteArray) = some (0, [], [], 2, 3) := by rw [parse_c _ (by decide), aw_bad]
  have e2 := format_c hg
  rw [← hl] at e2
  have e4 : za6.f 31 awG [2] = some true := by rw [valid_c, (valid_good 31 awG [2] (by decide)).2 hg]
  have e5 : zam.f 31 awG [2] = some 1 := by rw [mul_c]; rfl
  have e6 : zas.f 31 awG [2] = some 1 := by rw [depth_c hg]; rfl
  have e7 : zaj.f 31 awG [2] 2 = some 1 := by rw [in_c]; rfl
  have e8 : zaj.f 31 awG [2] 1 = some 0 := by rw [in_c]; rfl
  have e9 : za6.f 0 [] [] = some false := by rw [valid_c]; rfl
  have t1 : (⟨aw1.toArray⟩ : ByteArray).toList = aw1 := ba_toList aw1
  unfold zbc.f
  change ((zbt.f (⟨aw1.toArray⟩ : ByteArray)).bind _) = _
  rw [e1]
  simp only [Option.bind_some]
  rw [e2]
  simp only [Option.bind_some]
  change ((zbt.f (⟨aw2.toArray⟩ : ByteArray)).bind _) = _
  rw [e3]
  simp only [Option.bind_some, t1, e4, e5, e6, e7, e8, e9]
  rfl
theorem zbc.calls (r : Bool) (w : World) (hLd : Ld w) (h : zbc.f = some r) :
    Calls Tryd.prog 12 #[] w fun e w' => e = .returned (.bool r) ∧ Below w.heap.size w w' :=
  zbc.callsT r w hLd (Option.some.inj (h.symm.trans awake_f)) h
end Go.Proofs.YtmnleabeipmhmaaDoor.P
end
