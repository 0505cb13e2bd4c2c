/- What is proved here: a part of the proof of CircuitAppendMul: Cgt. No conditions beside those that each theorem states. -/
import Derived.Test.YtmnleabeipmhmaaDoorKCAMul41
section
set_option linter.unusedVariables false
set_option linter.unusedSimpArgs false
namespace Go.Proofs.YtmnleabeipmhmaaDoor.P
open Go.RowKit Go.Proofs.YtmnleabeipmhmaaDoorW.PrintWords Go.Proofs.YtmnleabeipmhmaaDoorW.PrintLast Go.Proofs.YtmnleabeipmhmaaDoorW.PrintMore
abbrev GT := S43
def GK (P at_ : Int) (g : GT) : Prop :=
  (∃ x, 1 ≤ x ∧ x ≤ 13 ∧ g = ⟨1, x, 0, 0, 0⟩) ∨ (∃ x, 1 ≤ x ∧ x ≤ 13 ∧ g = ⟨1, x, 0, 0, 1⟩) ∨ (∃ K, 0 ≤ K ∧ K < P ∧ g = ⟨2, 0, 0, 0, K⟩) ∨
  (∃ a b, (0 ≤ a ∧ a < at_) ∧ (0 ≤ b ∧ b < at_) ∧ g = ⟨3, 0, a, b, 0⟩) ∨ (∃ a b, (0 ≤ a ∧ a < at_) ∧ (0 ≤ b ∧ b < at_) ∧ g = ⟨4, 0, a, b, 0⟩) ∨
  (∃ K a, (0 ≤ K ∧ K < P) ∧ (0 ≤ a ∧ a < at_) ∧ g = ⟨5, 0, a, 0, K⟩) ∨ (∃ a b, (0 ≤ a ∧ a < at_) ∧ (0 ≤ b ∧ b < at_) ∧ g = ⟨6, 0, a, b, 0⟩)
def fIn : Form := ⟨[105, 110], 1, true, false, false, false, false⟩
def fBit : Form := ⟨[98, 105, 116], 1, true, false, false, false, true⟩
def fConst : Form := ⟨[99, 111, 110, 115, 116], 2, false, true, false, false, false⟩
def fAdd : Form := ⟨[97, 100, 100], 3, false, false, true, true, false⟩
def fSub : Form := ⟨[115, 117, 98], 4, false, false, true, true, false⟩
def fScale : Form := ⟨[115, 99, 97, 108, 101], 5, false, true, true, false, false⟩
def fMul : Form := ⟨[109, 117, 108], 6, false, false, true, true, false⟩
theorem forms_eq : forms = [fIn, fBit, fConst, fAdd, fSub, fScale, fMul] := rfl
theorem of_in : ofF 1 0 = (fIn, true) := by rfl
theorem of_bit : ofF 1 1 = (fBit, true) := by rfl
theorem of_const (K : Int) : ofF 2 K = (fConst, true) := by simp [ofF, forms_eq, Form.fits, fIn, fBit, fConst]
theorem of_add (K : Int) : ofF 3 K = (fAdd, true) := by simp [ofF, forms_eq, Form.fits, fIn, fBit, fConst, fAdd]
theorem of_sub (K : Int) : ofF 4 K = (fSub, true) := by simp [ofF, forms_eq, Form.fits, fIn, fBit, fConst, fAdd, fSub]
theorem of_scale (K : Int) : ofF 5 K = (fScale, true) := by simp [ofF, forms_eq, Form.fits, fIn, fBit, fConst, fAdd, fSub, fScale]
theorem of_mul (K : Int) : ofF 6 K = (fMul, true) := by simp [ofF, forms_eq, Form.fits, fIn, fBit, fConst, fAdd, fSub, fScale, fMul]
theorem of_fits {a e : Int} {f : Form} (h : ofF a e = (f, true)) : f ∈ forms ∧ f.kind = a ∧ f.bit = ((a == 1) && (e == 1)) := by
  unfold ofF at h
  split at h
  · next f' hf =>
    cases h
    have h1 := List.find?_some hf
    simp only [Form.fits, Bool.and_eq_true, beq_iff_eq] at h1
    exact ⟨List.mem_of_find?_eq_some hf, h1.1, by rw [h1.2]⟩
  · cases h
theorem right_gk (P at_ : Int) (g : GT) (hK : 0 ≤ g.f4) (h : zcj P at_ g.f0 g.f1 g.f2 g.f3 g.f4 = true) : GK P at_ g := by
  obtain ⟨k, b, c, d, e⟩ := g
  simp only at hK h
  unfold zcj at h
  simp only [Bool.and_eq_true] at h
  obtain ⟨h1, h2⟩ := h
  obtain ⟨f, hf⟩ : ∃ f, ofF k e = (f, true) := ⟨(ofF k e).1, by rw [← h1]⟩
  rw [hf] at h2
  obtain ⟨hm, hk, hb⟩ := of_fits hf
  rw [forms_eq] at hm
  simp only [List.mem_cons, List.not_mem_nil, or_false] at hm
  unfold GK
  rcases hm with rfl | rfl | rfl | rfl | rfl | rfl | rfl <;> (simp [fIn, fBit, fConst, fAdd, fSub, fScale, fMul] at hk hb; subst hk) <;> simp [zbo, zcn, fIn, fBit, fConst, fAdd, fSub, fScale, fMul] at h2
  · left; exact ⟨b, by omega, by omega, by obtain ⟨⟨⟨h3, h4⟩, h5⟩, h6⟩ := h2; simp_all⟩
  · right; left; exact ⟨b, by omega, by omega, by obtain ⟨⟨⟨h3, h4⟩, h5⟩, h6⟩ := h2; simp_all⟩
  · obtain ⟨⟨⟨h3, h4⟩, h5⟩, h6⟩ := h2
    right; right; left; exact ⟨e, hK, by omega, by simp_all⟩
  · obtain ⟨⟨⟨h3, h4⟩, h5⟩, h6⟩ := h2
    right; right; right; left; exact ⟨c, d, h5, h6, by simp_all⟩
  · obtain ⟨⟨⟨h3, h4⟩, h5⟩, h6⟩ := h2
    right; right; right; right; left; exact ⟨c, d, h5, h6, by simp_all⟩
  · obtain ⟨⟨⟨h3, h4⟩, h5⟩, h6⟩ := h2
    right; right; right; right; right; left; exact ⟨e, c, ⟨hK, by omega⟩, h5, by simp_all⟩
  · obtain ⟨⟨⟨h3, h4⟩, h5⟩, h6⟩ := h2
    right; right; right; right; right; right; exact ⟨c, d, h5, h6, by simp_all⟩
theorem gk_right (P at_ : Int) (g : GT) (h : GK P at_ g) : zcj P at_ g.f0 g.f1 g.f2 g.f3 g.f4 = true := by
  rcases h with ⟨x, h1, h2, rfl⟩ | ⟨x, h1, h2, rfl⟩ | ⟨K, h1, h2, rfl⟩ | ⟨a, b, h1, h2, rfl⟩ | ⟨a, b, h1, h2, rfl⟩ | ⟨K, a, h1, h2, rfl⟩ | ⟨a, b, h1, h2, rfl⟩
  · simp [zcj, of_in, zbo, zcn, fIn, h1, h2]
  · simp [zcj, of_bit, zbo, zcn, fBit, h1, h2]
  · simp [zcj, of_const, zbo, zcn, fConst, h1, h2]
  · simp [zcj, of_add, zbo, zcn, fAdd, h1.1, h1.2, h2.1, h2.2]
  · simp [zcj, of_sub, zbo, zcn, fSub, h1.1, h1.2, h2.1, h2.2]
  · simp [zcj, of_scale, zbo, zcn, fScale, h1.1, h1.2, h2.1, h2.2]
  · simp [zcj, of_mul, zbo, zcn, fMul, h1.1, h1.2, h2.1, h2.2]
def wordG (g : GT) : List UInt8 := (ofF g.f0 g.f4).1.word
def numsG (g : GT) : List Int := zcy (ofF g.f0 g.f4).1 g.f1 g.f2 g.f3 g.f4
theorem small_of (n : Int) (h0 : 0 ≤ n) (h : n ≤ 20000) : zbh n = n := by
  unfold zbh
  rw [if_neg (by omega)]
  unfold wrap64; omega
theorem small_big (n : Int) (h : ¬ n ≤ 20000) : zbh n = -1 := by
  unfold zbh
  rw [if_pos (by omega)]
theorem wrapU_of (n : Int) (h0 : 0 ≤ n) (h : n < 18446744073709551616) : IntKind.u64.wrap n = n := by
  simp [IntKind.wrap, IntKind.bits, IntKind.signed]; omega
theorem zc2 (n : Int) (h0 : 0 ≤ n) (h : 0 ≤ zbh n) : zbh n = n ∧ n ≤ 20000 := by
  by_cases hn : n ≤ 20000
  · exact ⟨small_of n h0 hn, hn⟩
  · rw [small_big n hn] at h; omega
theorem small_zero : zbh 0 = 0 := small_of 0 (by omega) (by omega)
theorem len_oneL (l : List Int) (h : l.length = 1) : ∃ x, l = [x] := List.length_eq_one_iff.1 h
theorem two_of (l : List Int) (h : l.length = 2) : ∃ x y, l = [x, y] := by
  match l, h with
  | [x, y], _ => exact ⟨x, y, rfl⟩
theorem made_inv (P at_ : Int) (w : List UInt8) (ns : List Int) (g : GT) (h : madeP P w ns at_ = (g, true)) (hn : U64 ns) : GK P at_ g ∧ w = wordG g ∧ ns = numsG g := by
  unfold madeP at h
  split at h
  case h_2 => cases h
  case h_1 f hf =>
  have hw := List.find?_some hf
  have hm := List.mem_of_find?_eq_some hf
  simp only [beq_iff_eq] at hw
  subst hw
  unfold madeG at h
  split at h
  case isFalse => cases h
  case isTrue hc =>
  simp only [Prod.mk.injEq] at h
  obtain ⟨hg, hr⟩ := h
  rw [forms_eq] at hm
  simp only [List.mem_cons, List.not_mem_nil, or_false] at hm
  clear hf
  rcases hm with rfl | rfl | rfl | rfl | rfl | rfl | rfl
  · obtain ⟨x, rfl⟩ := len_oneL ns (by simpa [cntF, zcy, fIn] using hc)
    have e3 : zc3 fIn [x] = ⟨1, zbh x, 0, 0, 0⟩ := by simp [zc3, fIn, zbm, za4, kL, kF, small_zero]
    rw [e3] at hr hg
    simp [zcj, of_in, zbo, zcn, fIn] at hr
    have ux := hn x (by simp)
    obtain ⟨qx, rx⟩ := zc2 x (by omega) (by omega)
    rw [qx] at hr hg
    subst hg
    refine ⟨?_, by simp [wordG, of_in], by simp [numsG, of_in, zcy, fIn, wrapU_of x (by omega) (by omega)]⟩
    unfold GK
    left; exact ⟨x, by omega, by omega, rfl⟩
  · obtain ⟨x, rfl⟩ := len_oneL ns (by simpa [cntF, zcy, fBit] using hc)
    have e3 : zc3 fBit [x] = ⟨1, zbh x, 0, 0, 1⟩ := by simp [zc3, fBit, zbm, za4, kL, kF, small_zero]
    rw [e3] at hr hg
    simp [zcj, of_bit, zbo, zcn, fBit] at hr
    have ux := hn x (by simp)
    obtain ⟨qx, rx⟩ := zc2 x (by omega) (by omega)
    rw [qx] at hr hg
    subst hg
    refine ⟨?_, by simp [wordG, of_bit], by simp [numsG, of_bit, zcy, fBit, wrapU_of x (by omega) (by omega)]⟩
    unfold GK
    right; left; exact ⟨x, by omega, by omega, rfl⟩
  · obtain ⟨K, rfl⟩ := len_oneL ns (by simpa [cntF, zcy, fConst] using hc)
    have e3 : zc3 fConst [K] = ⟨2, 0, 0, 0, K⟩ := by simp [zc3, fConst, zbm, za4, kL, kF, small_zero]
    rw [e3] at hr hg
    simp [zcj, of_const, zbo, zcn, fConst] at hr
    have uK := hn K (by simp)
    subst hg
    refine ⟨?_, by simp [wordG, of_const], by simp [numsG, of_const, zcy, fConst]⟩
    unfold GK
    right; right; left; exact ⟨K, by omega, by omega, rfl⟩
  · obtain ⟨a, b, rfl⟩ := two_of ns (by simpa [cntF, zcy, fAdd] using hc)
    have e3 : zc3 fAdd [a, b] = ⟨3, 0, zbh a, zbh b, 0⟩ := by simp [zc3, fAdd, zbm, za4, kL, kF, small_zero]
    rw [e3] at hr hg
    simp [zcj, of_add, zbo, zcn, fAdd] at hr
    have ua := hn a (by simp)
    have ub := hn b (by simp)
    obtain ⟨qa, ra⟩ := zc2 a (by omega) (by omega)
    obtain ⟨qb, rb⟩ := zc2 b (by omega) (by omega)
    rw [qa, qb] at hr hg
    subst hg
    refine ⟨?_, by simp [wordG, of_add], by simp [numsG, of_add, zcy, fAdd, wrapU_of a (by omega) (by omega), wrapU_of b (by omega) (by omega)]⟩
    unfold GK
    right; right; right; left; exact ⟨a, b, by omega, by omega, rfl⟩
  · obtain ⟨a, b, rfl⟩ := two_of ns (by simpa [cntF, zcy, fSub] using hc)
    have e3 : zc3 fSub [a, b] = ⟨4, 0, zbh a, zbh b, 0⟩ := by simp [zc3, fSub, zbm, za4, kL, kF, small_zero]
    rw [e3] at hr hg
    simp [zcj, of_sub, zbo, zcn, fSub] at hr
    have ua := hn a (by simp)
    have ub := hn b (by simp)
    obtain ⟨qa, ra⟩ := zc2 a (by omega) (by omega)
    obtain ⟨qb, rb⟩ := zc2 b (by omega) (by omega)
    rw [qa, qb] at hr hg
    subst hg
    refine ⟨?_, by simp [wordG, of_sub], by simp [numsG, of_sub, zcy, fSub, wrapU_of a (by omega) (by omega), wrapU_of b (by omega) (by omega)]⟩
    unfold GK
    right; right; right; right; left; exact ⟨a, b, by omega, by omega, rfl⟩
  · obtain ⟨K, a, rfl⟩ := two_of ns (by simpa [cntF, zcy, fScale] using hc)
    have e3 : zc3 fScale [K, a] = ⟨5, 0, zbh a, 0, K⟩ := by simp [zc3, fScale, zbm, za4, kL, kF, small_zero]
    rw [e3] at hr hg
    simp [zcj, of_scale, zbo, zcn, fScale] at hr
    have uK := hn K (by simp)
    have ua := hn a (by simp)
    obtain ⟨qa, ra⟩ := zc2 a (by omega) (by omega)
    rw [qa] at hr hg
    subst hg
    refine ⟨?_, by simp [wordG, of_scale], by simp [numsG, of_scale, zcy, fScale, wrapU_of a (by omega) (by omega)]⟩
    unfold GK
    right; right; right; right; right; left; exact ⟨K, a, by omega, by omega, rfl⟩
  · obtain ⟨a, b, rfl⟩ := two_of ns (by simpa [cntF, zcy, fMul] using hc)
    have e3 : zc3 fMul [a, b] = ⟨6, 0, zbh a, zbh b, 0⟩ := by simp [zc3, fMul, zbm, za4, kL, kF, small_zero]
    rw [e3] at hr hg
    simp [zcj, of_mul, zbo, zcn, fMul] at hr
    have ua := hn a (by simp)
    have ub := hn b (by simp)
    obtain ⟨qa, ra⟩ := zc2 a (by omega) (by omega)
    obtain ⟨qb, rb⟩ := zc2 b (by omega) (by omega)
    rw [qa, qb] at hr hg
    subst hg
    refine ⟨?_, by simp [wordG, of_mul], by simp [numsG, of_mul, zcy, fMul, wrapU_of a (by omega) (by omega), wrapU_of b (by omega) (by omega)]⟩
    unfold GK
    right; right; right; right; right; right; exact ⟨a, b, by omega, by omega, rfl⟩
end Go.Proofs.YtmnleabeipmhmaaDoor.P
end
