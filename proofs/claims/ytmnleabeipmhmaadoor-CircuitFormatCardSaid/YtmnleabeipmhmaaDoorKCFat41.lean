/- What is proved here: a part of the proof of CircuitFormat: Cgt. No conditions beside those that each theorem states. -/
import Derived.Test.YtmnleabeipmhmaaDoorKCFat40
section
set_option linter.unusedVariables false
set_option linter.unusedSimpArgs false
namespace Go.Proofs.YtmnleabeipmhmaaDoor.P
open Go.RowKit Go.Proofs.YtmnleabeipmhmaaDoorW.PrintWords Go.Proofs.YtmnleabeipmhmaaDoorW.PrintLast Go.Proofs.YtmnleabeipmhmaaDoorW.PrintMore
abbrev GT := S43
def GK (P at_ : Int) (g : GT) : Prop :=
  (∃ x, 1 ≤ x ∧ x ≤ 13 ∧ g = ⟨1, x, 0, 0, 0⟩) ∨ (∃ x, 1 ≤ x ∧ x ≤ 13 ∧ g = ⟨1, x, 0, 0, 1⟩) ∨ (∃ K, 0 ≤ K ∧ K < P ∧ g = ⟨2, 0, 0, 0, K⟩) ∨
  (∃ a b, (0 ≤ a ∧ a < at_) ∧ (0 ≤ b ∧ b < at_) ∧ g = ⟨3, 0, a, b, 0⟩) ∨ (∃ a b, (0 ≤ a ∧ a < at_) ∧ (0 ≤ b ∧ b < at_) ∧ g = ⟨4, 0, a, b, 0⟩) ∨
  (∃ K a, (0 ≤ K ∧ K < P) ∧ (0 ≤ a ∧ a < at_) ∧ g = ⟨5, 0, a, 0, K⟩) ∨ (∃ a b, (0 ≤ a ∧ a < at_) ∧ (0 ≤ b ∧ b < at_) ∧ g = ⟨6, 0, a, b, 0⟩)
def fIn : Form := ⟨[105, 110], 1, true, false, false, false, false⟩
def fBit : Form := ⟨[98, 105, 116], 1, true, false, false, false, true⟩
def zc0 : Form := ⟨[99, 111, 110, 115, 116], 2, false, true, false, false, false⟩
def fAdd : Form := ⟨[97, 100, 100], 3, false, false, true, true, false⟩
def fSub : Form := ⟨[115, 117, 98], 4, false, false, true, true, false⟩
def zc9 : Form := ⟨[115, 99, 97, 108, 101], 5, false, true, true, false, false⟩
def fMul : Form := ⟨[109, 117, 108], 6, false, false, true, true, false⟩
theorem forms_eq : forms = [fIn, fBit, zc0, fAdd, fSub, zc9, fMul] := rfl
theorem of_in : ofF 1 0 = (fIn, true) := by rfl
theorem of_bit : ofF 1 1 = (fBit, true) := by rfl
theorem of_const (K : Int) : ofF 2 K = (zc0, true) := by simp [ofF, forms_eq, Form.fits, fIn, fBit, zc0]
theorem of_add (K : Int) : ofF 3 K = (fAdd, true) := by simp [ofF, forms_eq, Form.fits, fIn, fBit, zc0, fAdd]
theorem of_sub (K : Int) : ofF 4 K = (fSub, true) := by simp [ofF, forms_eq, Form.fits, fIn, fBit, zc0, fAdd, fSub]
theorem of_scale (K : Int) : ofF 5 K = (zc9, true) := by simp [ofF, forms_eq, Form.fits, fIn, fBit, zc0, fAdd, fSub, zc9]
theorem of_mul (K : Int) : ofF 6 K = (fMul, true) := by simp [ofF, forms_eq, Form.fits, fIn, fBit, zc0, fAdd, fSub, zc9, fMul]
theorem of_fits {a e : Int} {f : Form} (h : ofF a e = (f, true)) : f ∈ forms ∧ f.kind = a ∧ f.bit = ((a == 1) && (e == 1)) := by
  unfold ofF at h
  split at h
  · next f' hf =>
    cases h
    have h1 := List.find?_some hf
    simp only [Form.fits, Bool.and_eq_true, beq_iff_eq] at h1
    exact ⟨List.mem_of_find?_eq_some hf, h1.1, by rw [h1.2]⟩
  · cases h
theorem right_gk (P at_ : Int) (g : GT) (hK : 0 ≤ g.f4) (h : zcn P at_ g.f0 g.f1 g.f2 g.f3 g.f4 = true) : GK P at_ g := by
  obtain ⟨k, b, c, d, e⟩ := g
  simp only at hK h
  unfold zcn at h
  simp only [Bool.and_eq_true] at h
  obtain ⟨h1, h2⟩ := h
  obtain ⟨f, hf⟩ : ∃ f, ofF k e = (f, true) := ⟨(ofF k e).1, by rw [← h1]⟩
  rw [hf] at h2
  obtain ⟨hm, hk, hb⟩ := of_fits hf
  rw [forms_eq] at hm
  simp only [List.mem_cons, List.not_mem_nil, or_false] at hm
  unfold GK
  rcases hm with rfl | rfl | rfl | rfl | rfl | rfl | rfl <;> (simp [fIn, fBit, zc0, fAdd, fSub, zc9, fMul] at hk hb; subst hk) <;> simp [zbq, zcu, fIn, fBit, zc0, fAdd, fSub, zc9, fMul] at h2
  · left; exact ⟨b, by omega, by omega, by obtain ⟨⟨⟨h3, h4⟩, h5⟩, h6⟩ := h2; simp_all⟩
  · right; left; exact ⟨b, by omega, by omega, by obtain ⟨⟨⟨h3, h4⟩, h5⟩, h6⟩ := h2; simp_all⟩
  · obtain ⟨⟨⟨h3, h4⟩, h5⟩, h6⟩ := h2
    right; right; left; exact ⟨e, hK, by omega, by simp_all⟩
  · obtain ⟨⟨⟨h3, h4⟩, h5⟩, h6⟩ := h2
    right; right; right; left; exact ⟨c, d, h5, h6, by simp_all⟩
  · obtain ⟨⟨⟨h3, h4⟩, h5⟩, h6⟩ := h2
    right; right; right; right; left; exact ⟨c, d, h5, h6, by simp_all⟩
  · obtain ⟨⟨⟨h3, h4⟩, h5⟩, h6⟩ := h2
    right; right; right; right; right; left; exact ⟨e, c, ⟨hK, by omega⟩, h5, by simp_all⟩
  · obtain ⟨⟨⟨h3, h4⟩, h5⟩, h6⟩ := h2
    right; right; right; right; right; right; exact ⟨c, d, h5, h6, by simp_all⟩
theorem gk_right (P at_ : Int) (g : GT) (h : GK P at_ g) : zcn P at_ g.f0 g.f1 g.f2 g.f3 g.f4 = true := by
  rcases h with ⟨x, h1, h2, rfl⟩ | ⟨x, h1, h2, rfl⟩ | ⟨K, h1, h2, rfl⟩ | ⟨a, b, h1, h2, rfl⟩ | ⟨a, b, h1, h2, rfl⟩ | ⟨K, a, h1, h2, rfl⟩ | ⟨a, b, h1, h2, rfl⟩
  · simp [zcn, of_in, zbq, zcu, fIn, h1, h2]
  · simp [zcn, of_bit, zbq, zcu, fBit, h1, h2]
  · simp [zcn, of_const, zbq, zcu, zc0, h1, h2]
  · simp [zcn, of_add, zbq, zcu, fAdd, h1.1, h1.2, h2.1, h2.2]
  · simp [zcn, of_sub, zbq, zcu, fSub, h1.1, h1.2, h2.1, h2.2]
  · simp [zcn, of_scale, zbq, zcu, zc9, h1.1, h1.2, h2.1, h2.2]
  · simp [zcn, of_mul, zbq, zcu, fMul, h1.1, h1.2, h2.1, h2.2]
def zc1 (g : GT) : List UInt8 := (ofF g.f0 g.f4).1.word
def zc7 (g : GT) : List Int := zck (ofF g.f0 g.f4).1 g.f1 g.f2 g.f3 g.f4
theorem gateT_eq (g : GT) : gateT g = zcg (zc1 g) (zc7 g) ++ [10] := rfl
theorem zci (n : Int) (h0 : 0 ≤ n) (h : n ≤ 20000) : zbf n = n := by
  unfold zbf
  rw [if_neg (by omega)]
  unfold wrap64; omega
theorem small_big (n : Int) (h : ¬ n ≤ 20000) : zbf n = -1 := by
  unfold zbf
  rw [if_pos (by omega)]
theorem zce (n : Int) (h0 : 0 ≤ n) (h : n < 18446744073709551616) : IntKind.u64.wrap n = n := by
  simp [IntKind.wrap, IntKind.bits, IntKind.signed]; omega
theorem made_gk (P at_ : Int) (g : GT) (h : GK P at_ g) (hP : P < 18446744073709551616) (ha : at_ ≤ 20000) : madeP P (zc1 g) (zc7 g) at_ = (g, true) ∧ U64 (zc7 g) ∧ ((zc1 g).all (fun c => decide (97 ≤ c.toNat)) = true) ∧ zc1 g ≠ [111, 117, 116] := by
  have hr := gk_right P at_ g h
  rcases h with ⟨x, h1, h2, rfl⟩ | ⟨x, h1, h2, rfl⟩ | ⟨K, h1, h2, rfl⟩ | ⟨a, b, h1, h2, rfl⟩ | ⟨a, b, h1, h2, rfl⟩ | ⟨K, a, h1, h2, rfl⟩ | ⟨a, b, h1, h2, rfl⟩
  · have e1 : zc1 (⟨1, x, 0, 0, 0⟩ : GT) = fIn.word := by simp [zc1, of_in]
    have e2 : zc7 (⟨1, x, 0, 0, 0⟩ : GT) = [x] := by simp [zc7, of_in, zck, fIn, zce x (by omega) (by omega)]
    have e3 : zcp fIn [x] = ⟨1, x, 0, 0, 0⟩ := by simp [zcp, fIn, zbl, za4, kL, kF, zci 0 (by omega) (by omega), zci x (by omega) (by omega)]
    refine ⟨?_, ?_, by rw [e1]; decide, by rw [e1]; decide⟩
    · rw [e1, e2]
      have e4 : forms.find? (fun f => f.word == fIn.word) = some fIn := by rfl
      unfold madeP
      rw [e4]
      simp only [madeG, e3]
      rw [if_pos (by rfl), hr]
    · rw [e2]; intro y hy; simp at hy; subst hy; omega
  · have e1 : zc1 (⟨1, x, 0, 0, 1⟩ : GT) = fBit.word := by simp [zc1, of_bit]
    have e2 : zc7 (⟨1, x, 0, 0, 1⟩ : GT) = [x] := by simp [zc7, of_bit, zck, fBit, zce x (by omega) (by omega)]
    have e3 : zcp fBit [x] = ⟨1, x, 0, 0, 1⟩ := by simp [zcp, fBit, zbl, za4, kL, kF, zci 0 (by omega) (by omega), zci x (by omega) (by omega)]
    refine ⟨?_, ?_, by rw [e1]; decide, by rw [e1]; decide⟩
    · rw [e1, e2]
      have e4 : forms.find? (fun f => f.word == fBit.word) = some fBit := by rfl
      unfold madeP
      rw [e4]
      simp only [madeG, e3]
      rw [if_pos (by rfl), hr]
    · rw [e2]; intro y hy; simp at hy; subst hy; omega
  · have e1 : zc1 (⟨2, 0, 0, 0, K⟩ : GT) = zc0.word := by simp [zc1, of_const]
    have e2 : zc7 (⟨2, 0, 0, 0, K⟩ : GT) = [K] := by simp [zc7, of_const, zck, zc0]
    have e3 : zcp zc0 [K] = ⟨2, 0, 0, 0, K⟩ := by simp [zcp, zc0, zbl, za4, kL, kF, zci 0 (by omega) (by omega)]
    refine ⟨?_, ?_, by rw [e1]; decide, by rw [e1]; decide⟩
    · rw [e1, e2]
      have e4 : forms.find? (fun f => f.word == zc0.word) = some zc0 := by rfl
      unfold madeP
      rw [e4]
      simp only [madeG, e3]
      rw [if_pos (by rfl), hr]
    · rw [e2]; intro y hy; simp at hy; subst hy; omega
  · have e1 : zc1 (⟨3, 0, a, b, 0⟩ : GT) = fAdd.word := by simp [zc1, of_add]
    have e2 : zc7 (⟨3, 0, a, b, 0⟩ : GT) = [a, b] := by simp [zc7, of_add, zck, fAdd, zce a (by omega) (by omega), zce b (by omega) (by omega)]
    have e3 : zcp fAdd [a, b] = ⟨3, 0, a, b, 0⟩ := by simp [zcp, fAdd, zbl, za4, kL, kF, zci 0 (by omega) (by omega), zci a (by omega) (by omega), zci b (by omega) (by omega)]
    refine ⟨?_, ?_, by rw [e1]; decide, by rw [e1]; decide⟩
    · rw [e1, e2]
      have e4 : forms.find? (fun f => f.word == fAdd.word) = some fAdd := by rfl
      unfold madeP
      rw [e4]
      simp only [madeG, e3]
      rw [if_pos (by rfl), hr]
    · rw [e2]; intro y hy; simp at hy; rcases hy with rfl | rfl <;> omega
  · have e1 : zc1 (⟨4, 0, a, b, 0⟩ : GT) = fSub.word := by simp [zc1, of_sub]
    have e2 : zc7 (⟨4, 0, a, b, 0⟩ : GT) = [a, b] := by simp [zc7, of_sub, zck, fSub, zce a (by omega) (by omega), zce b (by omega) (by omega)]
    have e3 : zcp fSub [a, b] = ⟨4, 0, a, b, 0⟩ := by simp [zcp, fSub, zbl, za4, kL, kF, zci 0 (by omega) (by omega), zci a (by omega) (by omega), zci b (by omega) (by omega)]
    refine ⟨?_, ?_, by rw [e1]; decide, by rw [e1]; decide⟩
    · rw [e1, e2]
      have e4 : forms.find? (fun f => f.word == fSub.word) = some fSub := by rfl
      unfold madeP
      rw [e4]
      simp only [madeG, e3]
      rw [if_pos (by rfl), hr]
    · rw [e2]; intro y hy; simp at hy; rcases hy with rfl | rfl <;> omega
  · have e1 : zc1 (⟨5, 0, a, 0, K⟩ : GT) = zc9.word := by simp [zc1, of_scale]
    have e2 : zc7 (⟨5, 0, a, 0, K⟩ : GT) = [K, a] := by simp [zc7, of_scale, zck, zc9, zce a (by omega) (by omega)]
    have e3 : zcp zc9 [K, a] = ⟨5, 0, a, 0, K⟩ := by simp [zcp, zc9, zbl, za4, kL, kF, zci 0 (by omega) (by omega), zci a (by omega) (by omega)]
    refine ⟨?_, ?_, by rw [e1]; decide, by rw [e1]; decide⟩
    · rw [e1, e2]
      have e4 : forms.find? (fun f => f.word == zc9.word) = some zc9 := by rfl
      unfold madeP
      rw [e4]
      simp only [madeG, e3]
      rw [if_pos (by rfl), hr]
    · rw [e2]; intro y hy; simp at hy; rcases hy with rfl | rfl <;> omega
  · have e1 : zc1 (⟨6, 0, a, b, 0⟩ : GT) = fMul.word := by simp [zc1, of_mul]
    have e2 : zc7 (⟨6, 0, a, b, 0⟩ : GT) = [a, b] := by simp [zc7, of_mul, zck, fMul, zce a (by omega) (by omega), zce b (by omega) (by omega)]
    have e3 : zcp fMul [a, b] = ⟨6, 0, a, b, 0⟩ := by simp [zcp, fMul, zbl, za4, kL, kF, zci 0 (by omega) (by omega), zci a (by omega) (by omega), zci b (by omega) (by omega)]
    refine ⟨?_, ?_, by rw [e1]; decide, by rw [e1]; decide⟩
    · rw [e1, e2]
      have e4 : forms.find? (fun f => f.word == fMul.word) = some fMul := by rfl
      unfold madeP
      rw [e4]
      simp only [madeG, e3]
      rw [if_pos (by rfl), hr]
    · rw [e2]; intro y hy; simp at hy; rcases hy with rfl | rfl <;> omega
theorem zdb (n : Int) (h0 : 0 ≤ n) (h : 0 ≤ zbf n) : zbf n = n ∧ n ≤ 20000 := by
  by_cases hn : n ≤ 20000
  · exact ⟨zci n h0 hn, hn⟩
  · rw [small_big n hn] at h; omega
theorem small_zero : zbf 0 = 0 := zci 0 (by omega) (by omega)
theorem len_oneL (l : List Int) (h : l.length = 1) : ∃ x, l = [x] := List.length_eq_one_iff.1 h
theorem two_of (l : List Int) (h : l.length = 2) : ∃ x y, l = [x, y] := by
  match l, h with
  | [x, y], _ => exact ⟨x, y, rfl⟩
theorem made_inv (P at_ : Int) (w : List UInt8) (ns : List Int) (g : GT) (h : madeP P w ns at_ = (g, true)) (hn : U64 ns) : GK P at_ g ∧ w = zc1 g ∧ ns = zc7 g := by
  unfold madeP at h
  split at h
  case h_2 => cases h
  case h_1 f hf =>
  have hw := List.find?_some hf
  have hm := List.mem_of_find?_eq_some hf
  simp only [beq_iff_eq] at hw
  subst hw
  unfold madeG at h
  split at h
  case isFalse => cases h
  case isTrue hc =>
  simp only [Prod.mk.injEq] at h
  obtain ⟨hg, hr⟩ := h
  rw [forms_eq] at hm
  simp only [List.mem_cons, List.not_mem_nil, or_false] at hm
  clear hf
  rcases hm with rfl | rfl | rfl | rfl | rfl | rfl | rfl
  · obtain ⟨x, rfl⟩ := len_oneL ns (by simpa [cntF, zck, fIn] using hc)
    have e3 : zcp fIn [x] = ⟨1, zbf x, 0, 0, 0⟩ := by simp [zcp, fIn, zbl, za4, kL, kF, small_zero]
    rw [e3] at hr hg
    simp [zcn, of_in, zbq, zcu, fIn] at hr
    have ux := hn x (by simp)
    obtain ⟨qx, rx⟩ := zdb x (by omega) (by omega)
    rw [qx] at hr hg
    subst hg
    refine ⟨?_, by simp [zc1, of_in], by simp [zc7, of_in, zck, fIn, zce x (by omega) (by omega)]⟩
    unfold GK
    left; exact ⟨x, by omega, by omega, rfl⟩
  · obtain ⟨x, rfl⟩ := len_oneL ns (by simpa [cntF, zck, fBit] using hc)
    have e3 : zcp fBit [x] = ⟨1, zbf x, 0, 0, 1⟩ := by simp [zcp, fBit, zbl, za4, kL, kF, small_zero]
    rw [e3] at hr hg
    simp [zcn, of_bit, zbq, zcu, fBit] at hr
    have ux := hn x (by simp)
    obtain ⟨qx, rx⟩ := zdb x (by omega) (by omega)
    rw [qx] at hr hg
    subst hg
    refine ⟨?_, by simp [zc1, of_bit], by simp [zc7, of_bit, zck, fBit, zce x (by omega) (by omega)]⟩
    unfold GK
    right; left; exact ⟨x, by omega, by omega, rfl⟩
  · obtain ⟨K, rfl⟩ := len_oneL ns (by simpa [cntF, zck, zc0] using hc)
    have e3 : zcp zc0 [K] = ⟨2, 0, 0, 0, K⟩ := by simp [zcp, zc0, zbl, za4, kL, kF, small_zero]
    rw [e3] at hr hg
    simp [zcn, of_const, zbq, zcu, zc0] at hr
    have uK := hn K (by simp)
    subst hg
    refine ⟨?_, by simp [zc1, of_const], by simp [zc7, of_const, zck, zc0]⟩
    unfold GK
    right; right; left; exact ⟨K, by omega, by omega, rfl⟩
  · obtain ⟨a, b, rfl⟩ := two_of ns (by simpa [cntF, zck, fAdd] using hc)
    have e3 : zcp fAdd [a, b] = ⟨3, 0, zbf a, zbf b, 0⟩ := by simp [zcp, fAdd, zbl, za4, kL, kF, small_zero]
    rw [e3] at hr hg
    simp [zcn, of_add, zbq, zcu, fAdd] at hr
    have ua := hn a (by simp)
    have ub := hn b (by simp)
    obtain ⟨qa, ra⟩ := zdb a (by omega) (by omega)
    obtain ⟨qb, rb⟩ := zdb b (by omega) (by omega)
    rw [qa, qb] at hr hg
    subst hg
    refine ⟨?_, by simp [zc1, of_add], by simp [zc7, of_add, zck, fAdd, zce a (by omega) (by omega), zce b (by omega) (by omega)]⟩
    unfold GK
    right; right; right; left; exact ⟨a, b, by omega, by omega, rfl⟩
  · obtain ⟨a, b, rfl⟩ := two_of ns (by simpa [cntF, zck, fSub] using hc)
    have e3 : zcp fSub [a, b] = ⟨4, 0, zbf a, zbf b, 0⟩ := by simp [zcp, fSub, zbl, za4, kL, kF, small_zero]
    rw [e3] at hr hg
    simp [zcn, of_sub, zbq, zcu, fSub] at hr
    have ua := hn a (by simp)
    have ub := hn b (by simp)
    obtain ⟨qa, ra⟩ := zdb a (by omega) (by omega)
    obtain ⟨qb, rb⟩ := zdb b (by omega) (by omega)
    rw [qa, qb] at hr hg
    subst hg
    refine ⟨?_, by simp [zc1, of_sub], by simp [zc7, of_sub, zck, fSub, zce a (by omega) (by omega), zce b (by omega) (by omega)]⟩
    unfold GK
    right; right; right; right; left; exact ⟨a, b, by omega, by omega, rfl⟩
  · obtain ⟨K, a, rfl⟩ := two_of ns (by simpa [cntF, zck, zc9] using hc)
    have e3 : zcp zc9 [K, a] = ⟨5, 0, zbf a, 0, K⟩ := by simp [zcp, zc9, zbl, za4, kL, kF, small_zero]
    rw [e3] at hr hg
    simp [zcn, of_scale, zbq, zcu, zc9] at hr
    have uK := hn K (by simp)
    have ua := hn a (by simp)
    obtain ⟨qa, ra⟩ := zdb a (by omega) (by omega)
    rw [qa] at hr hg
    subst hg
    refine ⟨?_, by simp [zc1, of_scale], by simp [zc7, of_scale, zck, zc9, zce a (by omega) (by omega)]⟩
    unfold GK
    right; right; right; right; right; left; exact ⟨K, a, by omega, by omega, rfl⟩
  · obtain ⟨a, b, rfl⟩ := two_of ns (by simpa [cntF, zck, fMul] using hc)
    have e3 : zcp fMul [a, b] = ⟨6, 0, zbf a, zbf b, 0⟩ := by simp [zcp, fMul, zbl, za4, kL, kF, small_zero]
    rw [e3] at hr hg
    simp [zcn, of_mul, zbq, zcu, fMul] at hr
    have ua := hn a (by simp)
    have ub := hn b (by simp)
    obtain ⟨qa, ra⟩ := zdb a (by omega) (by omega)
    obtain ⟨qb, rb⟩ := zdb b (by omega) (by omega)
    rw [qa, qb] at hr hg
    subst hg
    refine ⟨?_, by simp [zc1, of_mul], by simp [zc7, of_mul, zck, fMul, zce a (by omega) (by omega), zce b (by omega) (by omega)]⟩
    unfold GK
    right; right; right; right; right; right; exact ⟨a, b, by omega, by omega, rfl⟩
end Go.Proofs.YtmnleabeipmhmaaDoor.P
end
