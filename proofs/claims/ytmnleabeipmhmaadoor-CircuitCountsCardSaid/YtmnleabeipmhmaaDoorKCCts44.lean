/- What is proved here: a part of the proof of CircuitCounts: Cr2, Cawk. No conditions beside those that each theorem states. -/
import Derived.Test.YtmnleabeipmhmaaDoorKCCts43
import Derived.Test.YtmnleabeipmhmaaDoorKCCts19
import Derived.Test.YtmnleabeipmhmaaDoorKCCts18
import Derived.Test.YtmnleabeipmhmaaDoorKCCts36
import Derived.Test.YtmnleabeipmhmaaDoorKCCts37
import Derived.Test.YtmnleabeipmhmaaDoorKCCts39
import Derived.Test.YtmnleabeipmhmaaDoorKCCts35
section
set_option linter.unusedVariables false
set_option linter.unusedSimpArgs false
namespace Go.Proofs.YtmnleabeipmhmaaDoor.P
open Go.RowKit Go.Proofs.YtmnleabeipmhmaaDoorW.PrintWords Go.Proofs.YtmnleabeipmhmaaDoorW.PrintLast Go.Proofs.YtmnleabeipmhmaaDoorW.PrintMore
theorem refMul_go (P : Int) (gs : List GT) (os : List Int) (hl : gs.length ≤ 1000000) (d : Nat) : ∀ i c : Nat, gs.length - i = d → i ≤ gs.length → c ≤ i →
    Ev (fun k => za0.l0 k (c : Int) (i : Int) P gs os) ((c + ((gs.drop i).filter (fun g => g.f0 == 6)).length : Nat) : Int) := by
  induction d with
  | zero =>
    intro i c hd hi hc
    obtain rfl : i = gs.length := by omega
    rw [List.drop_length]
    exact Ev.step (f := fun _ => some (c : Int)) (fun k => by simp only [za0.l0]; rw [if_neg (by omega)]) (Ev.now _)
  | succ d ih =>
    intro i c hd hi hc
    have hlt : i < gs.length := by omega
    rw [List.drop_eq_getElem_cons hlt]
    by_cases h : gs[i].f0 = 6
    · rw [List.filter_cons_of_pos (by simp [h])]
      have h1 := ih (i + 1) (c + 1) (by omega) (by omega) (by omega)
      rw [show c + 1 + ((gs.drop (i + 1)).filter (fun g => g.f0 == 6)).length = c + (gs[i] :: (gs.drop (i + 1)).filter (fun g => g.f0 == 6)).length by rw [List.length_cons]; omega] at h1
      exact Ev.step (fun k => by simp only [za0.l0]; rw [if_pos (by omega), if_pos (by omega), rdG _ _ hlt, if_pos h, zcg hlt (by omega), zcg (n := 2000000) (by omega) (by omega)]) h1
    · rw [List.filter_cons_of_neg (by simp [h])]
      exact Ev.step (fun k => by simp only [za0.l0]; rw [if_pos (by omega), if_pos (by omega), rdG _ _ hlt, if_neg h, zcg hlt (by omega)]) (ih (i + 1) c (by omega) (by omega) (by omega))
theorem refMul (P : Int) (gs : List GT) (os : List Int) (hl : gs.length ≤ 1000000) : Ev (fun k => za0.f k P gs os) ((gs.filter (fun g => g.f0 == 6)).length : Int) := by
  have h := refMul_go P gs os hl _ 0 0 rfl (Nat.zero_le _) (Nat.le_refl _)
  rw [List.drop_zero, Nat.zero_add] at h
  exact h
theorem refIn_go (P : Int) (gs : List GT) (os : List Int) (q : Int) (hl : gs.length ≤ 1000000) (d : Nat) : ∀ i c : Nat, gs.length - i = d → i ≤ gs.length → c ≤ i →
    Ev (fun k => zay.l0 k q (c : Int) (i : Int) P gs os) ((c + ((gs.drop i).filter (fun g => (g.f0 == 1) && (g.f1 == q))).length : Nat) : Int) := by
  induction d with
  | zero =>
    intro i c hd hi hc
    obtain rfl : i = gs.length := by omega
    rw [List.drop_length]
    exact Ev.step (f := fun _ => some (c : Int)) (fun k => by simp only [zay.l0]; rw [if_neg (by omega)]) (Ev.now _)
  | succ d ih =>
    intro i c hd hi hc
    have hlt : i < gs.length := by omega
    rw [List.drop_eq_getElem_cons hlt]
    have h0 := ih (i + 1) c (by omega) (by omega) (by omega)
    by_cases h : gs[i].f0 = 1
    · by_cases h2 : gs[i].f1 = q
      · rw [List.filter_cons_of_pos (by simp [h, h2])]
        have h1 := ih (i + 1) (c + 1) (by omega) (by omega) (by omega)
        rw [show c + 1 + ((gs.drop (i + 1)).filter (fun g => (g.f0 == 1) && (g.f1 == q))).length = c + (gs[i] :: (gs.drop (i + 1)).filter (fun g => (g.f0 == 1) && (g.f1 == q))).length by rw [List.length_cons]; omega] at h1
        exact Ev.step (fun k => by simp only [zay.l0]; rw [if_pos (by omega), if_pos (by omega), rdG _ _ hlt, if_pos h, if_pos h2, zcg hlt (by omega), zcg (n := 2000000) (by omega) (by omega)]) h1
      · rw [List.filter_cons_of_neg (by simp [h, h2])]
        exact Ev.step (fun k => by simp only [zay.l0]; rw [if_pos (by omega), if_pos (by omega), rdG _ _ hlt, if_pos h, if_neg h2, zcg hlt (by omega)]) h0
    · rw [List.filter_cons_of_neg (by simp [h])]
      exact Ev.step (fun k => by simp only [zay.l0]; rw [if_pos (by omega), if_pos (by omega), rdG _ _ hlt, if_neg h, zcg hlt (by omega)]) h0
theorem refIn (P : Int) (gs : List GT) (os : List Int) (q : Int) (hl : gs.length ≤ 1000000) : Ev (fun k => zay.f k P gs os q) ((gs.filter (fun g => (g.f0 == 1) && (g.f1 == q))).length : Int) := by
  have h := refIn_go P gs os q hl _ 0 0 rfl (Nat.zero_le _) (Nat.le_refl _)
  rw [List.drop_zero, Nat.zero_add] at h
  exact h
theorem gk_earlier {P : Int} {i : Nat} {g : GT} (h : GK P i g) : earlier g i = true := by
  rcases h with ⟨x, h1, h2, rfl⟩ | ⟨x, h1, h2, rfl⟩ | ⟨K, h1, h2, rfl⟩ | ⟨a, b, h1, h2, rfl⟩ | ⟨a, b, h1, h2, rfl⟩ | ⟨K, a, h1, h2, rfl⟩ | ⟨a, b, h1, h2, rfl⟩
  · simp [earlier, of_in, fIn]
  · simp [earlier, of_bit, fBit]
  · simp [earlier, of_const, fConst]
  · simp [earlier, of_add, fAdd, h1.1, h1.2, h2.1, h2.2]
  · simp [earlier, of_sub, fSub, h1.1, h1.2, h2.1, h2.2]
  · simp [earlier, of_scale, fScale, h2.1, h2.2]
  · simp [earlier, of_mul, fMul, h1.1, h1.2, h2.1, h2.2]
theorem backward_of : ∀ (gs : List GT) (i : Nat), (∀ (j : Nat) (h : j < gs.length), earlier gs[j] (i + j) = true) → backward i gs = true
  | [], _, _ => rfl
  | g :: r, i, h => by
    simp only [backward, Bool.and_eq_true]
    refine ⟨by have := h 0 (by simp); simpa using this, backward_of r (i + 1) (fun j hj => ?_)⟩
    have := h (j + 1) (by simpa using hj)
    rw [show i + 1 + j = i + (j + 1) by omega]
    simpa using this
theorem refDeps_go (P : Int) (gs : List GT) (os : List Int) (hl : gs.length ≤ 1000000) (hg : ∀ (j : Nat) (h : j < gs.length), GK P j gs[j]) (d : Nat) : ∀ i : Nat, gs.length - i = d → i ≤ gs.length →
    Ev (fun k => zak.l0 k (deps (gs.take i)) (i : Int) P gs os) (deps gs) := by
  induction d with
  | zero =>
    intro i hd hi
    obtain rfl : i = gs.length := by omega
    rw [List.take_length]
    exact Ev.step (f := fun _ => some (deps gs)) (fun k => by simp only [zak.l0]; rw [if_neg (by omega)]) (Ev.now _)
  | succ d ih =>
    intro i hd hi
    have hlt : i < gs.length := by omega
    have h1 := ih (i + 1) (by omega) (by omega)
    rw [List.take_succ_eq_append_getElem hlt, deps_snoc] at h1
    have hlen : (deps (gs.take i)).length = i := by rw [deps_length, List.length_take]; omega
    have hb := deps_bnd (gs.take i)
    rw [List.length_take, Nat.min_eq_left hi] at hb
    generalize deps (gs.take i) = D at *
    have hr := rdG gs i hlt
    have hk := hg i hlt
    generalize gs[i] = g at *
    rcases hk with ⟨x, h2, h3, rfl⟩ | ⟨x, h2, h3, rfl⟩ | ⟨K, h2, h3, rfl⟩ | ⟨a, b, h2, h3, rfl⟩ | ⟨a, b, h2, h3, rfl⟩ | ⟨K, a, h2, h3, rfl⟩ | ⟨a, b, h2, h3, rfl⟩
    · rw [show zc1 D (⟨1, x, 0, 0, 0⟩ : GT) = 0 from by simp [zc1, of_in, stepA, stepB, stepM, fIn]] at h1
      refine Ev.step (f := fun k => zak.j1 k D (i : Int) 0 false P gs os 1 x 0 0 0) (fun k => by simp only [zak.l0]; rw [if_pos (by omega), if_pos (by omega), hr]; rfl) ?_
      exact Ev.step (fun k => by simp only [zak.j1]; rw [if_neg (by decide), if_neg (by decide), if_pos (by omega), zcg hlt (by omega)]) h1
    · rw [show zc1 D (⟨1, x, 0, 0, 1⟩ : GT) = 0 from by simp [zc1, of_bit, stepA, stepB, stepM, fBit]] at h1
      refine Ev.step (f := fun k => zak.j1 k D (i : Int) 0 false P gs os 1 x 0 0 1) (fun k => by simp only [zak.l0]; rw [if_pos (by omega), if_pos (by omega), hr]; rfl) ?_
      exact Ev.step (fun k => by simp only [zak.j1]; rw [if_neg (by decide), if_neg (by decide), if_pos (by omega), zcg hlt (by omega)]) h1
    · rw [show zc1 D (⟨2, 0, 0, 0, K⟩ : GT) = 0 from by simp [zc1, of_const, stepA, stepB, stepM, fConst]] at h1
      refine Ev.step (f := fun k => zak.j1 k D (i : Int) 0 false P gs os 2 0 0 0 K) (fun k => by simp only [zak.l0]; rw [if_pos (by omega), if_pos (by omega), hr]; rfl) ?_
      exact Ev.step (fun k => by simp only [zak.j1]; rw [if_neg (by decide), if_neg (by decide), if_pos (by omega), zcg hlt (by omega)]) h1
    · rw [show zc1 D (⟨3, 0, a, b, 0⟩ : GT) = Go.Proofs.YtmnleabeipmhmaaDoorW.PrintWords.mx (rd D a) (rd D b) from by simp [zc1, of_add, stepA, stepB, stepM, fAdd, mx, Go.Proofs.YtmnleabeipmhmaaDoorW.PrintWords.mx, rd]] at h1
      refine Ev.step (f := fun k => zak.j1 k D (i : Int) 0 true P gs os 3 0 a b 0) (fun k => by simp only [zak.l0]; rw [if_pos (by omega), if_pos (by omega), hr]; rfl) ?_
      exact Ev.step (fun k => by simp only [zak.j1]; rw [if_pos trivial, if_pos (by omega), if_pos (by omega), if_pos (by omega), if_pos (by omega), if_neg (by decide), if_pos (by omega), zcg hlt (by omega)]) h1
    · rw [show zc1 D (⟨4, 0, a, b, 0⟩ : GT) = Go.Proofs.YtmnleabeipmhmaaDoorW.PrintWords.mx (rd D a) (rd D b) from by simp [zc1, of_sub, stepA, stepB, stepM, fSub, mx, Go.Proofs.YtmnleabeipmhmaaDoorW.PrintWords.mx, rd]] at h1
      refine Ev.step (f := fun k => zak.j1 k D (i : Int) 0 true P gs os 4 0 a b 0) (fun k => by simp only [zak.l0]; rw [if_pos (by omega), if_pos (by omega), hr]; rfl) ?_
      exact Ev.step (fun k => by simp only [zak.j1]; rw [if_pos trivial, if_pos (by omega), if_pos (by omega), if_pos (by omega), if_pos (by omega), if_neg (by decide), if_pos (by omega), zcg hlt (by omega)]) h1
    · rw [show zc1 D (⟨5, 0, a, 0, K⟩ : GT) = rd D a from by simp [zc1, of_scale, stepA, stepB, stepM, fScale, rd]] at h1
      exact Ev.step (fun k => by simp only [zak.l0]; rw [if_pos (by omega), if_pos (by omega), hr]; dsimp only; rw [if_pos rfl, if_pos (by omega), if_pos (by omega), if_neg (by decide), if_pos (by omega), zcg hlt (by omega)]) h1
    · have hw : wrap64 (Go.Proofs.YtmnleabeipmhmaaDoorW.PrintWords.mx (rd D a) (rd D b) + 1) = Go.Proofs.YtmnleabeipmhmaaDoorW.PrintWords.mx (rd D a) (rd D b) + 1 := by
        have q1 := bnd_getD hb a.toNat
        have q2 := bnd_getD hb b.toNat
        have q3 : rd D a = D.getD a.toNat 0 := rfl
        have q4 : rd D b = D.getD b.toNat 0 := rfl
        unfold Go.Proofs.YtmnleabeipmhmaaDoorW.PrintWords.mx wrap64
        split <;> omega
      rw [show zc1 D (⟨6, 0, a, b, 0⟩ : GT) = Go.Proofs.YtmnleabeipmhmaaDoorW.PrintWords.mx (rd D a) (rd D b) + 1 from by simp [zc1, of_mul, stepA, stepB, stepM, fMul, mx, Go.Proofs.YtmnleabeipmhmaaDoorW.PrintWords.mx, rd]] at h1
      refine Ev.step (f := fun k => zak.j1 k D (i : Int) 0 true P gs os 6 0 a b 0) (fun k => by simp only [zak.l0]; rw [if_pos (by omega), if_pos (by omega), hr]; rfl) ?_
      exact Ev.step (fun k => by simp only [zak.j1]; rw [if_pos trivial, if_pos (by omega), if_pos (by omega), if_pos (by omega), if_pos (by omega), if_pos (by first | trivial | rfl), if_pos (by omega), hw, zcg hlt (by omega)]) h1
theorem refDeps {P : Int} {gs : List GT} {os : List Int} (h : GoodC P gs os) : Ev (fun k => zak.f k P gs os) (deps gs) := by
  have := refDeps_go P gs os (by have := h.n; omega) h.g _ 0 rfl (Nat.zero_le _)
  exact this
theorem refMax_go (D : List Int) (hl : D.length ≤ 1000000) (d : Nat) : ∀ (i : Nat) (m : Int), D.length - i = d → i ≤ D.length → Ev (fun k => za7.l0 k m D (i : Int)) ((D.drop i).foldl mx m) := by
  induction d with
  | zero =>
    intro i m hd hi
    obtain rfl : i = D.length := by omega
    rw [List.drop_length]
    exact Ev.step (f := fun _ => some m) (fun k => by simp only [za7.l0]; rw [if_neg (by omega)]) (Ev.now _)
  | succ d ih =>
    intro i m hd hi
    have hlt : i < D.length := by omega
    rw [List.drop_eq_getElem_cons hlt, List.foldl_cons]
    exact Ev.step (fun k => by simp only [za7.l0]; rw [if_pos (by omega), if_pos (by omega), rd_nat _ _ hlt, zcg hlt (by omega)]; rfl) (ih (i + 1) (mx m D[i]) (by omega) (by omega))
theorem refDepth {P : Int} {gs : List GT} {os : List Int} (h : GoodC P gs os) : Ev (fun k => za7.f k P gs os) (maxAll (deps gs)) := by
  unfold za7.f
  refine Ev.bind (refDeps h) ?_
  have := refMax_go (deps gs) (by rw [deps_length]; have := h.n; omega) _ 0 0 rfl (Nat.zero_le _)
  rw [List.drop_zero] at this
  exact this
theorem depth_c {P : Int} {gs : List GT} {os : List Int} (h : GoodC P gs os) : zbm.f P gs os = some (maxAll (deps gs)) := by
  unfold zbm.f
  rw [if_pos ⟨by have := h.n; omega, backward_of gs 0 (fun j hj => by rw [Nat.zero_add]; exact gk_earlier (h.g j hj))⟩]
theorem mul_c (P : Int) (gs : List GT) (os : List Int) : zbf.f P gs os = some ((gs.filter (fun g => g.f0 == 6)).length : Int) := by
  unfold zbf.f; rw [gate_eq, if_pos rfl]
theorem in_c (P : Int) (gs : List GT) (os : List Int) (q : Int) : zax.f P gs os q = some ((gs.filter (fun g => (g.f0 == 1) && (g.f1 == q))).length : Int) := by
  unfold zax.f; rw [gate_eq, if_pos rfl]
theorem valid_c (P : Int) (gs : List GT) (os : List Int) : zbh.f P gs os = some (validF P gs os) := by
  unfold zbh.f; rw [gate_eq, if_pos rfl]
end Go.Proofs.YtmnleabeipmhmaaDoor.P
end
section
set_option linter.unusedVariables false
set_option linter.unusedSimpArgs false
namespace Go.Proofs.YtmnleabeipmhmaaDoor.P
open Go.RowKit Go.Proofs.YtmnleabeipmhmaaDoorW.PrintWords Go.Proofs.YtmnleabeipmhmaaDoorW.PrintLast Go.Proofs.YtmnleabeipmhmaaDoorW.PrintMore
def aw1 : List UInt8 := [112, 114, 105, 109, 101, 32, 51, 49, 10, 105, 110, 32, 50, 10, 99, 111, 110, 115, 116, 32, 51, 10, 109, 117, 108, 32, 48, 32, 49, 10, 111, 117, 116, 32, 50, 10]
def aw2 : List UInt8 := [112, 114, 105, 109, 101, 32, 51, 49, 10, 109, 117, 108, 32, 48, 32, 48, 10]
def awG : List GT := [⟨1, 2, 0, 0, 0⟩, ⟨2, 0, 0, 0, 3⟩, ⟨6, 0, 0, 1, 0⟩]
set_option maxRecDepth 100000 in
theorem aw_parse : parseP aw1 = (31, awG, [2], 0, 0) := by kernel_rfl
set_option maxRecDepth 100000 in
theorem aw_bad : parseP aw2 = (0, [], [], 2, 3) := by kernel_rfl
theorem format_c {P : Int} {gs : List GT} {os : List Int} (h : GoodC P gs os) : zb3.f P gs os = some (⟨(formatT P gs os).toArray⟩, 0) := by
  have hP := exp_range P h.p
  have hK : ∀ g ∈ gs, 0 ≤ g.f4 ∧ g.f4 < 18446744073709551616 := by
    intro g hg
    obtain ⟨i, hi, rfl⟩ := List.getElem_of_mem hg
    rcases h.g i hi with ⟨x, h1, h2, e⟩ | ⟨x, h1, h2, e⟩ | ⟨K, h1, h2, e⟩ | ⟨a, b, h1, h2, e⟩ | ⟨a, b, h1, h2, e⟩ | ⟨K, a, h1, h2, e⟩ | ⟨a, b, h1, h2, e⟩ <;> rw [e] <;> simp only <;> omega
  unfold zb3.f
  rw [if_pos ((valid_good P gs os (fun g hg => (hK g hg).1)).2 h), if_pos]
  simp only [inU, Bool.and_eq_true, decide_eq_true_eq, List.all_eq_true]
  exact ⟨by omega, hK⟩
theorem awake_f : zbi.f = some true := by
  obtain ⟨_, hg, hl⟩ := parse_ok aw_parse
  have e1 : zbr.f (⟨aw1.toArray⟩ : ByteArray) = some (31, awG, [2], 0, 0) := by rw [parse_c _ (by decide), aw_parse]
  have e3 : zbr.f (⟨aw2.toArray⟩ : ByteArray) = some (0, [], [], 2, 3) := by rw [parse_c _ (by decide), aw_bad]
  have e2 := format_c hg
  rw [← hl] at e2
  have e4 : zbh.f 31 awG [2] = some true := by rw [valid_c, (valid_good 31 awG [2] (by decide)).2 hg]
  have e5 : zbf.f 31 awG [2] = some 1 := by rw [mul_c]; rfl
  have e6 : zbm.f 31 awG [2] = some 1 := by rw [depth_c hg]; rfl
  have e7 : zax.f 31 awG [2] 2 = some 1 := by rw [in_c]; rfl
  have e8 : zax.f 31 awG [2] 1 = some 0 := by rw [in_c]; rfl
  have e9 : zbh.f 0 [] [] = some false := by rw [valid_c]; rfl
  have t1 : (⟨aw1.toArray⟩ : ByteArray).toList = aw1 := ba_toList aw1
  unfold zbi.f
  change ((zbr.f (⟨aw1.toArray⟩ : ByteArray)).bind _) = _
  rw [e1]
  simp only [Option.bind_some]
  rw [e2]
  simp only [Option.bind_some]
  change ((zbr.f (⟨aw2.toArray⟩ : ByteArray)).bind _) = _
  rw [e3]
  simp only [Option.bind_some, t1, e4, e5, e6, e7, e8, e9]
  rfl
theorem zbi.calls (r : Bool) (w : World) (hLd : Ld w) (h : zbi.f = some r) :
    Calls Tryd.prog 12 #[] w fun e w' => e = .returned (.bool r) ∧ Below w.heap.size w w' :=
  zbi.callsT r w hLd (Option.some.inj (h.symm.trans awake_f)) h
end Go.Proofs.YtmnleabeipmhmaaDoor.P
end
