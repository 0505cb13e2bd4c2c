/- What is proved here: a part of the proof of CircuitAppendMul: Cio, CcCircuitAppendMul. No conditions beside those that each theorem states. -/
import Derived.Test.YtmnleabeipmhmaaDoorKCAMul1
import Derived.Test.YtmnleabeipmhmaaDoorKCAMul6
import Derived.Test.YtmnleabeipmhmaaDoorKCAMul45
import Derived.Test.YtmnleabeipmhmaaDoorKCAMul46
section
set_option linter.unusedVariables false
namespace Go.Proofs.YtmnleabeipmhmaaDoor.P
open Go.RowKit Go.Proofs.YtmnleabeipmhmaaDoorW.PrintWords Go.Proofs.YtmnleabeipmhmaaDoor.Opn
variable {H : Type} {enc : TypeId × Value → H} {w : World}
structure SC where
  P : Int
  gs : List S43
  os : List Int
def kC : Kd SC := Kd.iso (Kd.pair (Kd.int .u64) (Kd.pair (Kd.slice 43 k43) (Kd.slice 3 (Kd.int .i64)))) (fun x : SC => (x.P, x.gs, x.os))
theorem kC_open {w : World} {x : SC} {cs : List Value} (h : kC.K w x cs) : ∃ A0 c0 A1 c1, cs = [.int .u64 x.P, .slice A0 x.gs.length c0, .slice A1 x.os.length c1] ∧ x.gs.length ≤ c0 ∧ Kd.C k43 w A0 x.gs.length x.gs ∧ x.os.length ≤ c1 ∧ Kd.C (Kd.int .i64) w A1 x.os.length x.os := by
  obtain ⟨_, _, rfl, rfl, ⟨_, _, rfl, ⟨A0, c0, rfl, hc0, hC0⟩, ⟨A1, c1, rfl, hc1, hC1⟩⟩⟩ := h
  exact ⟨A0, c0, A1, c1, rfl, hc0, hC0, hc1, hC1⟩
theorem opens_gate : Opens enc Tryd.prog w 0 true 43 k43 (fun x => 0 ≤ x.f4) := by
  intro fuel cs x h hz
  obtain ⟨a, hK, _, _, _, _, h4⟩ := opens_struct (fun x : S43 => (x.f0, x.f1, x.f2, x.f3, x.f4)) (fun p => ⟨p.1, p.2.1, p.2.2.1, p.2.2.2.1, p.2.2.2.2⟩) Tryd.underlying43 (by kernel_rfl) (fun _ => rfl)
    (opensF_cons rfl (by kernel_rfl) (opens_int Tryd.underlying3) (opensF_cons rfl (by kernel_rfl) (opens_int Tryd.underlying3) (opensF_cons rfl (by kernel_rfl) (opens_int Tryd.underlying3) (opensF_cons rfl (by kernel_rfl) (opens_int Tryd.underlying3)
      (opensF_one rfl (by kernel_rfl) (opens_int Tryd.underlying22)))))) fuel cs x h hz
  refine ⟨a, hK, ?_⟩
  have h5 : (Lit.int .u64 a.f4).wf = true := h4
  simp [Lit.wf, IntKind.min, IntKind.max, IntKind.bits, IntKind.signed] at h5
  omega
theorem opens_circuit : Opens enc Tryd.prog w 0 true 26 kC (fun x => ∀ g ∈ x.gs, 0 ≤ g.f4) := by
  intro fuel cs x h hz
  obtain ⟨a, hK, _, h2, _⟩ := opens_struct (fun x : SC => (x.P, x.gs, x.os)) (fun p => ⟨p.1, p.2.1, p.2.2⟩) Tryd.underlying26 (by kernel_rfl) (fun _ => rfl)
    (opensF_cons rfl (by kernel_rfl) (opens_int Tryd.underlying22) (opensF_cons rfl (by kernel_rfl) (opens_slice (B := 40) Tryd.underlying23 (by kernel_rfl) (by kernel_rfl) opens_gate)
      (opensF_one rfl (by kernel_rfl) (opens_slice (B := 8) Tryd.underlying24 (by kernel_rfl) (by kernel_rfl) (opens_int Tryd.underlying3))))) fuel cs x h hz
  exact ⟨a, hK, h2.1⟩
theorem u16_rng {c : Int} (hc : (Lit.int .u16 c).wf = true) : 0 ≤ c ∧ c < 65536 := by
  simp [Lit.wf, IntKind.min, IntKind.max, IntKind.bits, IntKind.signed] at hc; omega
end Go.Proofs.YtmnleabeipmhmaaDoor.P
end
section
set_option linter.unusedVariables false
set_option linter.unusedSimpArgs false
namespace Go.Proofs.YtmnleabeipmhmaaDoor.P
open Go.RowKit Go.Proofs.YtmnleabeipmhmaaDoorW.PrintWords Go.Proofs.YtmnleabeipmhmaaDoorW.PrintLast Go.Proofs.YtmnleabeipmhmaaDoorW.PrintMore
def muls (gs : List GT) : Nat := (gs.filter (fun g => g.f0 == 6)).length
theorem muls_snoc (gs : List GT) (g : GT) : muls (gs ++ [g]) = muls gs + (if g.f0 = 6 then 1 else 0) := by
  unfold muls
  rw [List.filter_append, List.length_append]
  by_cases h : g.f0 = 6
  · rw [if_pos h, List.filter_cons_of_pos (by simp [h])]; rfl
  · rw [if_neg h, List.filter_cons_of_neg (by simp [h])]; rfl
theorem mx_le {a b m : Int} (h1 : a ≤ m) (h2 : b ≤ m) : Go.Proofs.YtmnleabeipmhmaaDoorW.PrintWords.mx a b ≤ m := by
  unfold Go.Proofs.YtmnleabeipmhmaaDoorW.PrintWords.mx; split <;> omega
theorem rd_le {D : List Int} {M : Nat} (h : ∀ x ∈ D, x ≤ (M : Int)) (a : Int) : rd D a ≤ (M : Int) := by
  show D.getD a.toNat 0 ≤ _
  rw [List.getD_eq_getElem?_getD]
  cases hj : D[a.toNat]? with
  | none => exact Int.natCast_nonneg M
  | some x => exact h x (List.mem_of_getElem? hj)
theorem depthG_le {P : Int} {i : Nat} {g : GT} (hk : GK P i g) {D : List Int} {M : Nat} (h : ∀ x ∈ D, x ≤ (M : Int)) : zb7 D g ≤ ((M + (if g.f0 = 6 then 1 else 0) : Nat) : Int) := by
  rcases hk with ⟨x, h2, h3, rfl⟩ | ⟨x, h2, h3, rfl⟩ | ⟨K, h2, h3, rfl⟩ | ⟨a, b, h2, h3, rfl⟩ | ⟨a, b, h2, h3, rfl⟩ | ⟨K, a, h2, h3, rfl⟩ | ⟨a, b, h2, h3, rfl⟩
  · rw [show zb7 D (⟨1, x, 0, 0, 0⟩ : GT) = 0 from by simp [zb7, of_in, stepA, stepB, zc0, fIn]]; omega
  · rw [show zb7 D (⟨1, x, 0, 0, 1⟩ : GT) = 0 from by simp [zb7, of_bit, stepA, stepB, zc0, fBit]]; omega
  · rw [show zb7 D (⟨2, 0, 0, 0, K⟩ : GT) = 0 from by simp [zb7, of_const, stepA, stepB, zc0, fConst]]; omega
  · rw [show zb7 D (⟨3, 0, a, b, 0⟩ : GT) = Go.Proofs.YtmnleabeipmhmaaDoorW.PrintWords.mx (rd D a) (rd D b) from by simp [zb7, of_add, stepA, stepB, zc0, fAdd, mx, Go.Proofs.YtmnleabeipmhmaaDoorW.PrintWords.mx, rd]]
    have := mx_le (rd_le h a) (rd_le h b)
    rw [if_neg (by simp)]; omega
  · rw [show zb7 D (⟨4, 0, a, b, 0⟩ : GT) = Go.Proofs.YtmnleabeipmhmaaDoorW.PrintWords.mx (rd D a) (rd D b) from by simp [zb7, of_sub, stepA, stepB, zc0, fSub, mx, Go.Proofs.YtmnleabeipmhmaaDoorW.PrintWords.mx, rd]]
    have := mx_le (rd_le h a) (rd_le h b)
    rw [if_neg (by simp)]; omega
  · rw [show zb7 D (⟨5, 0, a, 0, K⟩ : GT) = rd D a from by simp [zb7, of_scale, stepA, stepB, zc0, fScale, rd]]
    have := rd_le h a
    rw [if_neg (by simp)]; omega
  · rw [show zb7 D (⟨6, 0, a, b, 0⟩ : GT) = Go.Proofs.YtmnleabeipmhmaaDoorW.PrintWords.mx (rd D a) (rd D b) + 1 from by simp [zb7, of_mul, stepA, stepB, zc0, fMul, mx, Go.Proofs.YtmnleabeipmhmaaDoorW.PrintWords.mx, rd]]
    have := mx_le (rd_le h a) (rd_le h b)
    rw [if_pos rfl]; omega
theorem deps_muls {P : Int} (gs : List GT) : (∀ (j : Nat) (h : j < gs.length), GK P j gs[j]) → ∀ x ∈ deps gs, x ≤ (muls gs : Int) := by
  refine snocInd (p := fun gs : List GT => (∀ (j : Nat) (h : j < gs.length), GK P j gs[j]) → ∀ x ∈ deps gs, x ≤ (muls gs : Int)) (fun _ x hx => by cases hx) (fun l g ih hg => ?_) gs
  have h0 : ∀ (j : Nat) (h : j < l.length), GK P j l[j] := fun j h => by
    have := hg j (by simp; omega)
    rwa [List.getElem_append_left h] at this
  have hk : GK P l.length g := by
    have := hg l.length (by simp)
    rw [List.getElem_append_right (Nat.le_refl _)] at this
    simpa using this
  intro x hx
  rw [deps_snoc, List.mem_append, List.mem_singleton] at hx
  rw [muls_snoc]
  rcases hx with hx | rfl
  · have := ih h0 x hx; omega
  · exact depthG_le hk (ih h0)
theorem maxAll_le {D : List Int} {M : Nat} (h : ∀ x ∈ D, x ≤ (M : Int)) : maxAll D ≤ (M : Int) := by
  have key : ∀ (D : List Int) (m : Int), m ≤ (M : Int) → (∀ x ∈ D, x ≤ (M : Int)) → D.foldl mx m ≤ (M : Int) := by
    intro D
    induction D with
    | nil => intro m hm _; exact hm
    | cons a r ih =>
      intro m hm h
      rw [List.foldl_cons]
      refine ih _ ?_ (fun x hx => h x (List.mem_cons_of_mem _ hx))
      have := h a (by simp)
      unfold mx; split <;> omega
  exact key D 0 (Int.natCast_nonneg M) h
theorem good_snoc {P : Int} {gs : List GT} {os : List Int} (h : GoodC P gs os) (hl : gs.length < 20000) (a b : Int) (ha : 0 ≤ a ∧ a < gs.length) (hb : 0 ≤ b ∧ b < gs.length) : GoodC P (gs ++ [⟨6, 0, a, b, 0⟩]) os where
  p := h.p
  n := by simp; omega
  m := h.m
  g := by
    intro i hi
    rw [List.length_append, List.length_singleton] at hi
    by_cases h1 : i < gs.length
    · rw [List.getElem_append_left h1]; exact h.g i h1
    · obtain rfl : i = gs.length := by omega
      rw [List.getElem_append_right (Nat.le_refl _)]
      simp only [Nat.sub_self, List.getElem_cons_zero]
      exact Or.inr (Or.inr (Or.inr (Or.inr (Or.inr (Or.inr ⟨a, b, ha, hb, rfl⟩)))))
  o := by
    intro x hx
    have := h.o x hx
    rw [List.length_append, List.length_singleton]
    omega
theorem appendMul_ev (P : Int) (gs : List GT) (os : List Int) (x y : Int) (hu : ∀ g ∈ gs, 0 ≤ g.f4) (hx : 0 ≤ x ∧ x < 65536) (hy : 0 ≤ y ∧ y < 65536) : Ev (fun k => privitylaw32_CircuitAppendMul.f k P gs os x y) true := by
  unfold privitylaw32_CircuitAppendMul.f
  rw [show (200 : Int) = ((200 : Nat) : Int) from rfl, few_c]
  simp only [Option.bind_some]
  have aw : Ev (fun k => privitylaw32_CircuitAppendMul.j0 k x y true P gs os) true := Ev.step (f := fun _ => some true) (fun k => by simp only [privitylaw32_CircuitAppendMul.j0, awake_f]; rfl) (Ev.now _)
  by_cases hf : gs.length ≤ 200 ∧ os.length ≤ 200
  · refine Ev.congr (fun k => if_pos (decide_eq_true hf)) ?_
    refine Ev.bind (refValid P gs os hu (by omega) (by omega)) ?_
    cases hv : validF P gs os with
    | false => exact aw
    | true =>
      have hg := (valid_good P gs os hu).1 hv
      refine Ev.congr (fun k => if_pos rfl) ?_
      by_cases h0 : gs.length = 0
      · rw [h0]; exact aw
      · have hb : (((gs.length : Nat) : Int) == 0) = false := by simp; exact fun h => h0 (by simp [h])
        rw [hb]
        have wx : wrap64 x = x := by unfold wrap64; omega
        have wy : wrap64 y = y := by unfold wrap64; omega
        have ax : 0 ≤ Int.tmod x (gs.length : Int) ∧ Int.tmod x (gs.length : Int) < gs.length := ⟨Int.tmod_nonneg _ hx.1, Int.tmod_lt_of_pos _ (by omega)⟩
        have ay : 0 ≤ Int.tmod y (gs.length : Int) ∧ Int.tmod y (gs.length : Int) < gs.length := ⟨Int.tmod_nonneg _ hy.1, Int.tmod_lt_of_pos _ (by omega)⟩
        refine Ev.step (fun k => by simp only [privitylaw32_CircuitAppendMul.j0]; rw [if_neg (by simp), if_neg (by omega)]) (Ev.bind (refDeps hg) ?_)
        rw [wx, wy]
        generalize Int.tmod x (gs.length : Int) = a at ax ⊢
        generalize Int.tmod y (gs.length : Int) = b at ay ⊢
        have hg2 := good_snoc hg (by omega) a b ax ay
        have hl := deps_length gs
        have hbd := deps_bnd gs
        have q1 := bnd_getD hbd a.toNat
        have q2 := bnd_getD hbd b.toNat
        have q3 : rd (deps gs) a = (deps gs).getD a.toNat 0 := rfl
        have q4 : rd (deps gs) b = (deps gs).getD b.toNat 0 := rfl
        have hw : wrap64 (Go.Proofs.YtmnleabeipmhmaaDoorW.PrintWords.mx (rd (deps gs) a) (rd (deps gs) b) + 1) = Go.Proofs.YtmnleabeipmhmaaDoorW.PrintWords.mx (rd (deps gs) a) (rd (deps gs) b) + 1 := by
          unfold Go.Proofs.YtmnleabeipmhmaaDoorW.PrintWords.mx wrap64
          split <;> omega
        have hdg : zb7 (deps gs) (⟨6, 0, a, b, 0⟩ : GT) = Go.Proofs.YtmnleabeipmhmaaDoorW.PrintWords.mx (rd (deps gs) a) (rd (deps gs) b) + 1 := by simp [zb7, of_mul, stepA, stepB, zc0, fMul, mx, Go.Proofs.YtmnleabeipmhmaaDoorW.PrintWords.mx, rd]
        have hd2 : maxAll (deps (gs ++ [⟨6, 0, a, b, 0⟩])) = mx (maxAll (deps gs)) (Go.Proofs.YtmnleabeipmhmaaDoorW.PrintWords.mx (rd (deps gs) a) (rd (deps gs) b) + 1) := by rw [deps_snoc, zco, hdg]
        have hm2 : (((gs ++ [(⟨6, 0, a, b, 0⟩ : GT)]).filter (fun g => g.f0 == 6)).length : Int) = wrap64 (((gs.filter (fun g => g.f0 == 6)).length : Int) + 1) := by
          have h1 : ((gs ++ [(⟨6, 0, a, b, 0⟩ : GT)]).filter (fun g => g.f0 == 6)).length = (gs.filter (fun g => g.f0 == 6)).length + 1 := muls_snoc gs ⟨6, 0, a, b, 0⟩
          have h2 : (gs.filter (fun g => g.f0 == 6)).length ≤ gs.length := List.length_filter_le _ _
          rw [h1]; unfold wrap64; omega
        have hi2 : (gs ++ [(⟨6, 0, a, b, 0⟩ : GT)]).filter (fun g => (g.f0 == 1) && (g.f1 == 1)) = gs.filter (fun g => (g.f0 == 1) && (g.f1 == 1)) := by
          rw [List.filter_append, List.filter_cons_of_neg (by simp)]; simp
        have hle : maxAll (deps gs) ≤ ((gs.filter (fun g => g.f0 == 6)).length : Int) := maxAll_le (deps_muls gs hg.g)
        have hv2 : validF P (gs ++ [⟨6, 0, a, b, 0⟩]) os = true := by
          refine (valid_good P _ os ?_).2 hg2
          intro g hgm
          rcases List.mem_append.1 hgm with h | h
          · exact hu g h
          · rw [List.mem_singleton.1 h]; exact Int.le_refl 0
        have mxx : ∀ u v : Int, mx u v = Go.Proofs.YtmnleabeipmhmaaDoorW.PrintWords.mx u v := fun _ _ => rfl
        have k1 : (([] : List GT)).length + gs.length < 3518437208883 := by simp; omega
        have k2 : (([] : List GT) ++ gs).length + ([(⟨6, 0, a, b, 0⟩ : GT)]).length < 3518437208883 := by simp; omega
        have k3 : a < ((deps gs).length : Int) := by omega
        have k4 : b < ((deps gs).length : Int) := by omega
        have k5 : (([] : List GT) ++ gs) ++ [(⟨6, 0, a, b, 0⟩ : GT)] = gs ++ [⟨6, 0, a, b, 0⟩] := by rw [List.nil_append]
        simp only [Option.bind_some]
        rw [if_pos k1, if_pos k2, k5]
        rw [depth_c hg, Option.bind_some, if_pos ax.1, if_pos k3, if_pos ay.1, if_pos k4, awake_f, Option.bind_some, if_pos rfl, valid_c, hv2, Option.bind_some, if_pos rfl, mul_c, Option.bind_some, mul_c, Option.bind_some, if_pos hm2, depth_c hg2, Option.bind_some, show wrap64 (mx (rd (deps gs) a) (rd (deps gs) b) + 1) = _ from hw, if_pos hd2, Option.bind_some, Option.bind_some, if_pos hle, in_c, Option.bind_some, in_c, Option.bind_some, hi2]
        simp only [beq_self_eq_true]
        exact Ev.now _
  · exact Ev.congr (fun k => if_neg (by simpa using hf)) aw
end Go.Proofs.YtmnleabeipmhmaaDoor.P
end
