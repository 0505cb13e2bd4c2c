/- What is proved here: a part of the proof of CircuitPrefixFree: Cgt. No conditions beside those that each theorem states. -/
import Derived.Test.YtmnleabeipmhmaaDoorKCPFee41
section
set_option linter.unusedVariables false
set_option linter.unusedSimpArgs false
namespace Go.Proofs.YtmnleabeipmhmaaDoor.P
open Go.RowKit Go.Proofs.YtmnleabeipmhmaaDoorW.PrintWords Go.Proofs.YtmnleabeipmhmaaDoorW.PrintLast Go.Proofs.YtmnleabeipmhmaaDoorW.PrintMore
abbrev GT := S43
def GK (P at_ : Int) (g : GT) : Prop :=
  (∃ x, 1 ≤ x ∧ x ≤ 13 ∧ g = ⟨1, x, 0, 0, 0⟩) ∨ (∃ x, 1 ≤ x ∧ x ≤ 13 ∧ g = ⟨1, x, 0, 0, 1⟩) ∨ (∃ K, 0 ≤ K ∧ K < P ∧ g = ⟨2, 0, 0, 0, K⟩) ∨
  (∃ a b, (0 ≤ a ∧ a < at_) ∧ (0 ≤ b ∧ b < at_) ∧ g = ⟨3, 0, a, b, 0⟩) ∨ (∃ a b, (0 ≤ a ∧ a < at_) ∧ (0 ≤ b ∧ b < at_) ∧ g = ⟨4, 0, a, b, 0⟩) ∨
  (∃ K a, (0 ≤ K ∧ K < P) ∧ (0 ≤ a ∧ a < at_) ∧ g = ⟨5, 0, a, 0, K⟩) ∨ (∃ a b, (0 ≤ a ∧ a < at_) ∧ (0 ≤ b ∧ b < at_) ∧ g = ⟨6, 0, a, b, 0⟩)
def fIn : Form := ⟨[105, 110], 1, true, false, false, false, false⟩
def fBit : Form := ⟨[98, 105, 116], 1, true, false, false, false, true⟩
def zcy : Form := ⟨[99, 111, 110, 115, 116], 2, false, true, false, false, false⟩
def fAdd : Form := ⟨[97, 100, 100], 3, false, false, true, true, false⟩
def fSub : Form := ⟨[115, 117, 98], 4, false, false, true, true, false⟩
def zc4 : Form := ⟨[115, 99, 97, 108, 101], 5, false, true, true, false, false⟩
def fMul : Form := ⟨[109, 117, 108], 6, false, false, true, true, false⟩
theorem forms_eq : forms = [fIn, fBit, zcy, fAdd, fSub, zc4, fMul] := rfl
theorem of_in : ofF 1 0 = (fIn, true) := by rfl
theorem of_bit : ofF 1 1 = (fBit, true) := by rfl
theorem of_const (K : Int) : ofF 2 K = (zcy, true) := by simp [ofF, forms_eq, Form.fits, fIn, fBit, zcy]
theorem of_add (K : Int) : ofF 3 K = (fAdd, true) := by simp [ofF, forms_eq, Form.fits, fIn, fBit, zcy, fAdd]
theorem of_sub (K : Int) : ofF 4 K = (fSub, true) := by simp [ofF, forms_eq, Form.fits, fIn, fBit, zcy, fAdd, fSub]
theorem of_scale (K : Int) : ofF 5 K = (zc4, true) := by simp [ofF, forms_eq, Form.fits, fIn, fBit, zcy, fAdd, fSub, zc4]
theorem of_mul (K : Int) : ofF 6 K = (fMul, true) := by simp [ofF, forms_eq, Form.fits, fIn, fBit, zcy, fAdd, fSub, zc4, fMul]
theorem of_fits {a e : Int} {f : Form} (h : ofF a e = (f, true)) : f ∈ forms ∧ f.kind = a ∧ f.bit = ((a == 1) && (e == 1)) := by
  unfold ofF at h
  split at h
  · next f' hf =>
    cases h
    have h1 := List.find?_some hf
    simp only [Form.fits, Bool.and_eq_true, beq_iff_eq] at h1
    exact ⟨List.mem_of_find?_eq_some hf, h1.1, by rw [h1.2]⟩
  · cases h
theorem right_gk (P at_ : Int) (g : GT) (hK : 0 ≤ g.f4) (h : zcg P at_ g.f0 g.f1 g.f2 g.f3 g.f4 = true) : GK P at_ g := by
  obtain ⟨k, b, c, d, e⟩ := g
  simp only at hK h
  unfold zcg at h
  simp only [Bool.and_eq_true] at h
  obtain ⟨h1, h2⟩ := h
  obtain ⟨f, hf⟩ : ∃ f, ofF k e = (f, true) := ⟨(ofF k e).1, by rw [← h1]⟩
  rw [hf] at h2
  obtain ⟨hm, hk, hb⟩ := of_fits hf
  rw [forms_eq] at hm
  simp only [List.mem_cons, List.not_mem_nil, or_false] at hm
  unfold GK
  rcases hm with rfl | rfl | rfl | rfl | rfl | rfl | rfl <;> (simp [fIn, fBit, zcy, fAdd, fSub, zc4, fMul] at hk hb; subst hk) <;> simp [zbi, zcn, fIn, fBit, zcy, fAdd, fSub, zc4, fMul] at h2
  · left; exact ⟨b, by omega, by omega, by obtain ⟨⟨⟨h3, h4⟩, h5⟩, h6⟩ := h2; simp_all⟩
  · right; left; exact ⟨b, by omega, by omega, by obtain ⟨⟨⟨h3, h4⟩, h5⟩, h6⟩ := h2; simp_all⟩
  · obtain ⟨⟨⟨h3, h4⟩, h5⟩, h6⟩ := h2
    right; right; left; exact ⟨e, hK, by omega, by simp_all⟩
  · obtain ⟨⟨⟨h3, h4⟩, h5⟩, h6⟩ := h2
    right; right; right; left; exact ⟨c, d, h5, h6, by simp_all⟩
  · obtain ⟨⟨⟨h3, h4⟩, h5⟩, h6⟩ := h2
    right; right; right; right; left; exact ⟨c, d, h5, h6, by simp_all⟩
  · obtain ⟨⟨⟨h3, h4⟩, h5⟩, h6⟩ := h2
    right; right; right; right; right; left; exact ⟨e, c, ⟨hK, by omega⟩, h5, by simp_all⟩
  · obtain ⟨⟨⟨h3, h4⟩, h5⟩, h6⟩ := h2
    right; right; right; right; right; right; exact ⟨c, d, h5, h6, by simp_all⟩
theorem gk_right (P at_ : Int) (g : GT) (h : GK P at_ g) : zcg P at_ g.f0 g.f1 g.f2 g.f3 g.f4 = true := by
  rcases h with ⟨x, h1, h2, rfl⟩ | ⟨x, h1, h2, rfl⟩ | ⟨K, h1, h2, rfl⟩ | ⟨a, b, h1, h2, rfl⟩ | ⟨a, b, h1, h2, rfl⟩ | ⟨K, a, h1, h2, rfl⟩ | ⟨a, b, h1, h2, rfl⟩
  · simp [zcg, of_in, zbi, zcn, fIn, h1, h2]
  · simp [zcg, of_bit, zbi, zcn, fBit, h1, h2]
  · simp [zcg, of_const, zbi, zcn, zcy, h1, h2]
  · simp [zcg, of_add, zbi, zcn, fAdd, h1.1, h1.2, h2.1, h2.2]
  · simp [zcg, of_sub, zbi, zcn, fSub, h1.1, h1.2, h2.1, h2.2]
  · simp [zcg, of_scale, zbi, zcn, zc4, h1.1, h1.2, h2.1, h2.2]
  · simp [zcg, of_mul, zbi, zcn, fMul, h1.1, h1.2, h2.1, h2.2]
def wordG (g : GT) : List UInt8 := (ofF g.f0 g.f4).1.word
def numsG (g : GT) : List Int := zcm (ofF g.f0 g.f4).1 g.f1 g.f2 g.f3 g.f4
theorem zcc (n : Int) (h0 : 0 ≤ n) (h : n ≤ 20000) : za9 n = n := by
  unfold za9
  rw [if_neg (by omega)]
  unfold wrap64; omega
theorem small_big (n : Int) (h : ¬ n ≤ 20000) : za9 n = -1 := by
  unfold za9
  rw [if_pos (by omega)]
theorem zca (n : Int) (h0 : 0 ≤ n) (h : n < 18446744073709551616) : IntKind.u64.wrap n = n := by
  simp [IntKind.wrap, IntKind.bits, IntKind.signed]; omega
theorem made_gk (P at_ : Int) (g : GT) (h : GK P at_ g) (hP : P < 18446744073709551616) (ha : at_ ≤ 20000) : madeP P (wordG g) (numsG g) at_ = (g, true) ∧ U64 (numsG g) ∧ ((wordG g).all (fun c => decide (97 ≤ c.toNat)) = true) ∧ wordG g ≠ [111, 117, 116] := by
  have hr := gk_right P at_ g h
  rcases h with ⟨x, h1, h2, rfl⟩ | ⟨x, h1, h2, rfl⟩ | ⟨K, h1, h2, rfl⟩ | ⟨a, b, h1, h2, rfl⟩ | ⟨a, b, h1, h2, rfl⟩ | ⟨K, a, h1, h2, rfl⟩ | ⟨a, b, h1, h2, rfl⟩
  · have e1 : wordG (⟨1, x, 0, 0, 0⟩ : GT) = fIn.word := by simp [wordG, of_in]
    have e2 : numsG (⟨1, x, 0, 0, 0⟩ : GT) = [x] := by simp [numsG, of_in, zcm, fIn, zca x (by omega) (by omega)]
    have e3 : zcf fIn [x] = ⟨1, x, 0, 0, 0⟩ := by simp [zcf, fIn, zbe, zas, kL, kF, zcc 0 (by omega) (by omega), zcc x (by omega) (by omega)]
    refine ⟨?_, ?_, by rw [e1]; decide, by rw [e1]; decide⟩
    · rw [e1, e2]
      have e4 : forms.find? (fun f => f.word == fIn.word) = some fIn := by rfl
      unfold madeP
      rw [e4]
      simp only [madeG, e3]
      rw [if_pos (by rfl), hr]
    · rw [e2]; intro y hy; simp at hy; subst hy; omega
  · have e1 : wordG (⟨1, x, 0, 0, 1⟩ : GT) = fBit.word := by simp [wordG, of_bit]
    have e2 : numsG (⟨1, x, 0, 0, 1⟩ : GT) = [x] := by simp [numsG, of_bit, zcm, fBit, zca x (by omega) (by omega)]
    have e3 : zcf fBit [x] = ⟨1, x, 0, 0, 1⟩ := by simp [zcf, fBit, zbe, zas, kL, kF, zcc 0 (by omega) (by omega), zcc x (by omega) (by omega)]
    refine ⟨?_, ?_, by rw [e1]; decide, by rw [e1]; decide⟩
    · rw [e1, e2]
      have e4 : forms.find? (fun f => f.word == fBit.word) = some fBit := by rfl
      unfold madeP
      rw [e4]
      simp only [madeG, e3]
      rw [if_pos (by rfl), hr]
    · rw [e2]; intro y hy; simp at hy; subst hy; omega
  · have e1 : wordG (⟨2, 0, 0, 0, K⟩ : GT) = zcy.word := by simp [wordG, of_const]
    have e2 : numsG (⟨2, 0, 0, 0, K⟩ : GT) = [K] := by simp [numsG, of_const, zcm, zcy]
    have e3 : zcf zcy [K] = ⟨2, 0, 0, 0, K⟩ := by simp [zcf, zcy, zbe, zas, kL, kF, zcc 0 (by omega) (by omega)]
    refine ⟨?_, ?_, by rw [e1]; decide, by rw [e1]; decide⟩
    · rw [e1, e2]
      have e4 : forms.find? (fun f => f.word == zcy.word) = some zcy := by rfl
      unfold madeP
      rw [e4]
      simp only [madeG, e3]
      rw [if_pos (by rfl), hr]
    · rw [e2]; intro y hy; simp at hy; subst hy; omega
  · have e1 : wordG (⟨3, 0, a, b, 0⟩ : GT) = fAdd.word := by simp [wordG, of_add]
    have e2 : numsG (⟨3, 0, a, b, 0⟩ : GT) = [a, b] := by simp [numsG, of_add, zcm, fAdd, zca a (by omega) (by omega), zca b (by omega) (by omega)]
    have e3 : zcf fAdd [a, b] = ⟨3, 0, a, b, 0⟩ := by simp [zcf, fAdd, zbe, zas, kL, kF, zcc 0 (by omega) (by omega), zcc a (by omega) (by omega), zcc b (by omega) (by omega)]
    refine ⟨?_, ?_, by rw [e1]; decide, by rw [e1]; decide⟩
    · rw [e1, e2]
      have e4 : forms.find? (fun f => f.word == fAdd.word) = some fAdd := by rfl
      unfold madeP
      rw [e4]
      simp only [madeG, e3]
      rw [if_pos (by rfl), hr]
    · rw [e2]; intro y hy; simp at hy; rcases hy with rfl | rfl <;> omega
  · have e1 : wordG (⟨4, 0, a, b, 0⟩ : GT) = fSub.word := by simp [wordG, of_sub]
    have e2 : numsG (⟨4, 0, a, b, 0⟩ : GT) = [a, b] := by simp [numsG, of_sub, zcm, fSub, zca a (by omega) (by omega), zca b (by omega) (by omega)]
    have e3 : zcf fSub [a, b] = ⟨4, 0, a, b, 0⟩ := by simp [zcf, fSub, zbe, zas, kL, kF, zcc 0 (by omega) (by omega), zcc a (by omega) (by omega), zcc b (by omega) (by omega)]
    refine ⟨?_, ?_, by rw [e1]; decide, by rw [e1]; decide⟩
    · rw [e1, e2]
      have e4 : forms.find? (fun f => f.word == fSub.word) = some fSub := by rfl
      unfold madeP
      rw [e4]
      simp only [madeG, e3]
      rw [if_pos (by rfl), hr]
    · rw [e2]; intro y hy; simp at hy; rcases hy with rfl | rfl <;> omega
  · have e1 : wordG (⟨5, 0, a, 0, K⟩ : GT) = zc4.word := by simp [wordG, of_scale]
    have e2 : numsG (⟨5, 0, a, 0, K⟩ : GT) = [K, a] := by simp [numsG, of_scale, zcm, zc4, zca a (by omega) (by omega)]
    have e3 : zcf zc4 [K, a] = ⟨5, 0, a, 0, K⟩ := by simp [zcf, zc4, zbe, zas, kL, kF, zcc 0 (by omega) (by omega), zcc a (by omega) (by omega)]
    refine ⟨?_, ?_, by rw [e1]; decide, by rw [e1]; decide⟩
    · rw [e1, e2]
      have e4 : forms.find? (fun f => f.word == zc4.word) = some zc4 := by rfl
      unfold madeP
      rw [e4]
      simp only [madeG, e3]
      rw [if_pos (by rfl), hr]
    · rw [e2]; intro y hy; simp at hy; rcases hy with rfl | rfl <;> omega
  · have e1 : wordG (⟨6, 0, a, b, 0⟩ : GT) = fMul.word := by simp [wordG, of_mul]
    have e2 : numsG (⟨6, 0, a, b, 0⟩ : GT) = [a, b] := by simp [numsG, of_mul, zcm, fMul, zca a (by omega) (by omega), zca b (by omega) (by omega)]
    have e3 : zcf fMul [a, b] = ⟨6, 0, a, b, 0⟩ := by simp [zcf, fMul, zbe, zas, kL, kF, zcc 0 (by omega) (by omega), zcc a (by omega) (by omega), zcc b (by omega) (by omega)]
    refine ⟨?_, ?_, by rw [e1]; decide, by rw [e1]; decide⟩
    · rw [e1, e2]
      have e4 : forms.find? (fun f => f.word == fMul.word) = some fMul := by rfl
      unfold madeP
      rw [e4]
      simp only [madeG, e3]
      rw [if_pos (by rfl), hr]
    · rw [e2]; intro y hy; simp at hy; rcases hy with rfl | rfl <;> omega
theorem zc2 (n : Int) (h0 : 0 ≤ n) (h : 0 ≤ za9 n) : za9 n = n ∧ n ≤ 20000 := by
  by_cases hn : n ≤ 20000
  · exact ⟨zcc n h0 hn, hn⟩
  · rw [small_big n hn] at h; omega
theorem small_zero : za9 0 = 0 := zcc 0 (by omega) (by omega)
theorem len_oneL (l : List Int) (h : l.length = 1) : ∃ x, l = [x] := List.length_eq_one_iff.1 h
theorem two_of (l : List Int) (h : l.length = 2) : ∃ x y, l = [x, y] := by
  match l, h with
  | [x, y], _ => exact ⟨x, y, rfl⟩
theorem made_inv (P at_ : Int) (w : List UInt8) (ns : List Int) (g : GT) (h : madeP P w ns at_ = (g, true)) (hn : U64 ns) : GK P at_ g ∧ w = wordG g ∧ ns = numsG g := by
  unfold madeP at h
  split at h
  case h_2 => cases h
  case h_1 f hf =>
  have hw := List.find?_some hf
  have hm := List.mem_of_find?_eq_some hf
  simp only [beq_iff_eq] at hw
  subst hw
  unfold madeG at h
  split at h
  case isFalse => cases h
  case isTrue hc =>
  simp only [Prod.mk.injEq] at h
  obtain ⟨hg, hr⟩ := h
  rw [forms_eq] at hm
  simp only [List.mem_cons, List.not_mem_nil, or_false] at hm
  clear hf
  rcases hm with rfl | rfl | rfl | rfl | rfl | rfl | rfl
  · obtain ⟨x, rfl⟩ := len_oneL ns (by simpa [cntF, zcm, fIn] using hc)
    have e3 : zcf fIn [x] = ⟨1, za9 x, 0, 0, 0⟩ := by simp [zcf, fIn, zbe, zas, kL, kF, small_zero]
    rw [e3] at hr hg
    simp [zcg, of_in, zbi, zcn, fIn] at hr
    have ux := hn x (by simp)
    obtain ⟨qx, rx⟩ := zc2 x (by omega) (by omega)
    rw [qx] at hr hg
    subst hg
    refine ⟨?_, by simp [wordG, of_in], by simp [numsG, of_in, zcm, fIn, zca x (by omega) (by omega)]⟩
    unfold GK
    left; exact ⟨x, by omega, by omega, rfl⟩
  · obtain ⟨x, rfl⟩ := len_oneL ns (by simpa [cntF, zcm, fBit] using hc)
    have e3 : zcf fBit [x] = ⟨1, za9 x, 0, 0, 1⟩ := by simp [zcf, fBit, zbe, zas, kL, kF, small_zero]
    rw [e3] at hr hg
    simp [zcg, of_bit, zbi, zcn, fBit] at hr
    have ux := hn x (by simp)
    obtain ⟨qx, rx⟩ := zc2 x (by omega) (by omega)
    rw [qx] at hr hg
    subst hg
    refine ⟨?_, by simp [wordG, of_bit], by simp [numsG, of_bit, zcm, fBit, zca x (by omega) (by omega)]⟩
    unfold GK
    right; left; exact ⟨x, by omega, by omega, rfl⟩
  · obtain ⟨K, rfl⟩ := len_oneL ns (by simpa [cntF, zcm, zcy] using hc)
    have e3 : zcf zcy [K] = ⟨2, 0, 0, 0, K⟩ := by simp [zcf, zcy, zbe, zas, kL, kF, small_zero]
    rw [e3] at hr hg
    simp [zcg, of_const, zbi, zcn, zcy] at hr
    have uK := hn K (by simp)
    subst hg
    refine ⟨?_, by simp [wordG, of_const], by simp [numsG, of_const, zcm, zcy]⟩
    unfold GK
    right; right; left; exact ⟨K, by omega, by omega, rfl⟩
  · obtain ⟨a, b, rfl⟩ := two_of ns (by simpa [cntF, zcm, fAdd] using hc)
    have e3 : zcf fAdd [a, b] = ⟨3, 0, za9 a, za9 b, 0⟩ := by simp [zcf, fAdd, zbe, zas, kL, kF, small_zero]
    rw [e3] at hr hg
    simp [zcg, of_add, zbi, zcn, fAdd] at hr
    have ua := hn a (by simp)
    have ub := hn b (by simp)
    obtain ⟨qa, ra⟩ := zc2 a (by omega) (by omega)
    obtain ⟨qb, rb⟩ := zc2 b (by omega) (by omega)
    rw [qa, qb] at hr hg
    subst hg
    refine ⟨?_, by simp [wordG, of_add], by simp [numsG, of_add, zcm, fAdd, zca a (by omega) (by omega), zca b (by omega) (by omega)]⟩
    unfold GK
    right; right; right; left; exact ⟨a, b, by omega, by omega, rfl⟩
  · obtain ⟨a, b, rfl⟩ := two_of ns (by simpa [cntF, zcm, fSub] using hc)
    have e3 : zcf fSub [a, b] = ⟨4, 0, za9 a, za9 b, 0⟩ := by simp [zcf, fSub, zbe, zas, kL, kF, small_zero]
    rw [e3] at hr hg
    simp [zcg, of_sub, zbi, zcn, fSub] at hr
    have ua := hn a (by simp)
    have ub := hn b (by simp)
    obtain ⟨qa, ra⟩ := zc2 a (by omega) (by omega)
    obtain ⟨qb, rb⟩ := zc2 b (by omega) (by omega)
    rw [qa, qb] at hr hg
    subst hg
    refine ⟨?_, by simp [wordG, of_sub], by simp [numsG, of_sub, zcm, fSub, zca a (by omega) (by omega), zca b (by omega) (by omega)]⟩
    unfold GK
    right; right; right; right; left; exact ⟨a, b, by omega, by omega, rfl⟩
  · obtain ⟨K, a, rfl⟩ := two_of ns (by simpa [cntF, zcm, zc4] using hc)
    have e3 : zcf zc4 [K, a] = ⟨5, 0, za9 a, 0, K⟩ := by simp [zcf, zc4, zbe, zas, kL, kF, small_zero]
    rw [e3] at hr hg
    simp [zcg, of_scale, zbi, zcn, zc4] at hr
    have uK := hn K (by simp)
    have ua := hn a (by simp)
    obtain ⟨qa, ra⟩ := zc2 a (by omega) (by omega)
    rw [qa] at hr hg
    subst hg
    refine ⟨?_, by simp [wordG, of_scale], by simp [numsG, of_scale, zcm, zc4, zca a (by omega) (by omega)]⟩
    unfold GK
    right; right; right; right; right; left; exact ⟨K, a, by omega, by omega, rfl⟩
  · obtain ⟨a, b, rfl⟩ := two_of ns (by simpa [cntF, zcm, fMul] using hc)
    have e3 : zcf fMul [a, b] = ⟨6, 0, za9 a, za9 b, 0⟩ := by simp [zcf, fMul, zbe, zas, kL, kF, small_zero]
    rw [e3] at hr hg
    simp [zcg, of_mul, zbi, zcn, fMul] at hr
    have ua := hn a (by simp)
    have ub := hn b (by simp)
    obtain ⟨qa, ra⟩ := zc2 a (by omega) (by omega)
    obtain ⟨qb, rb⟩ := zc2 b (by omega) (by omega)
    rw [qa, qb] at hr hg
    subst hg
    refine ⟨?_, by simp [wordG, of_mul], by simp [numsG, of_mul, zcm, fMul, zca a (by omega) (by omega), zca b (by omega) (by omega)]⟩
    unfold GK
    right; right; right; right; right; right; exact ⟨a, b, by omega, by omega, rfl⟩
end Go.Proofs.YtmnleabeipmhmaaDoor.P
end
