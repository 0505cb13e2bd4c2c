/- What is proved here: a part of the proof of CircuitParse: Cgt. No conditions beside those that each theorem states. -/
import Derived.Test.YtmnleabeipmhmaaDoorKCPse40
section
set_option linter.unusedVariables false
set_option linter.unusedSimpArgs false
namespace Go.Proofs.YtmnleabeipmhmaaDoor.P
open Go.RowKit Go.Proofs.YtmnleabeipmhmaaDoorW.PrintWords Go.Proofs.YtmnleabeipmhmaaDoorW.PrintLast Go.Proofs.YtmnleabeipmhmaaDoorW.PrintMore
abbrev GT := S43
def GK (P at_ : Int) (g : GT) : Prop :=
  (∃ x, 1 ≤ x ∧ x ≤ 13 ∧ g = ⟨1, x, 0, 0, 0⟩) ∨ (∃ x, 1 ≤ x ∧ x ≤ 13 ∧ g = ⟨1, x, 0, 0, 1⟩) ∨ (∃ K, 0 ≤ K ∧ K < P ∧ g = ⟨2, 0, 0, 0, K⟩) ∨
  (∃ a b, (0 ≤ a ∧ a < at_) ∧ (0 ≤ b ∧ b < at_) ∧ g = ⟨3, 0, a, b, 0⟩) ∨ (∃ a b, (0 ≤ a ∧ a < at_) ∧ (0 ≤ b ∧ b < at_) ∧ g = ⟨4, 0, a, b, 0⟩) ∨
  (∃ K a, (0 ≤ K ∧ K < P) ∧ (0 ≤ a ∧ a < at_) ∧ g = ⟨5, 0, a, 0, K⟩) ∨ (∃ a b, (0 ≤ a ∧ a < at_) ∧ (0 ≤ b ∧ b < at_) ∧ g = ⟨6, 0, a, b, 0⟩)
def fIn : Form := ⟨[105, 110], 1, true, false, false, false, false⟩
def fBit : Form := ⟨[98, 105, 116], 1, true, false, false, false, true⟩
def zc3 : Form := ⟨[99, 111, 110, 115, 116], 2, false, true, false, false, false⟩
def fAdd : Form := ⟨[97, 100, 100], 3, false, false, true, true, false⟩
def fSub : Form := ⟨[115, 117, 98], 4, false, false, true, true, false⟩
def zdf : Form := ⟨[115, 99, 97, 108, 101], 5, false, true, true, false, false⟩
def fMul : Form := ⟨[109, 117, 108], 6, false, false, true, true, false⟩
theorem forms_eq : forms = [fIn, fBit, zc3, fAdd, fSub, zdf, fMul] := rfl
theorem of_in : ofF 1 0 = (fIn, true) := by rfl
theorem of_bit : ofF 1 1 = (fBit, true) := by rfl
theorem of_const (K : Int) : ofF 2 K = (zc3, true) := by simp [ofF, forms_eq, Form.fits, fIn, fBit, zc3]
theorem of_add (K : Int) : ofF 3 K = (fAdd, true) := by simp [ofF, forms_eq, Form.fits, fIn, fBit, zc3, fAdd]
theorem of_sub (K : Int) : ofF 4 K = (fSub, true) := by simp [ofF, forms_eq, Form.fits, fIn, fBit, zc3, fAdd, fSub]
theorem of_scale (K : Int) : ofF 5 K = (zdf, true) := by simp [ofF, forms_eq, Form.fits, fIn, fBit, zc3, fAdd, fSub, zdf]
theorem of_mul (K : Int) : ofF 6 K = (fMul, true) := by simp [ofF, forms_eq, Form.fits, fIn, fBit, zc3, fAdd, fSub, zdf, fMul]
theorem of_fits {a e : Int} {f : Form} (h : ofF a e = (f, true)) : f ∈ forms ∧ f.kind = a ∧ f.bit = ((a == 1) && (e == 1)) := by
  unfold ofF at h
  split at h
  · next f' hf =>
    cases h
    have h1 := List.find?_some hf
    simp only [Form.fits, Bool.and_eq_true, beq_iff_eq] at h1
    exact ⟨List.mem_of_find?_eq_some hf, h1.1, by rw [h1.2]⟩
  · cases h
theorem right_gk (P at_ : Int) (g : GT) (hK : 0 ≤ g.f4) (h : zcw P at_ g.f0 g.f1 g.f2 g.f3 g.f4 = true) : GK P at_ g := by
  obtain ⟨k, b, c, d, e⟩ := g
  simp only at hK h
  unfold zcw at h
  simp only [Bool.and_eq_true] at h
  obtain ⟨h1, h2⟩ := h
  obtain ⟨f, hf⟩ : ∃ f, ofF k e = (f, true) := ⟨(ofF k e).1, by rw [← h1]⟩
  rw [hf] at h2
  obtain ⟨hm, hk, hb⟩ := of_fits hf
  rw [forms_eq] at hm
  simp only [List.mem_cons, List.not_mem_nil, or_false] at hm
  unfold GK
  rcases hm with rfl | rfl | rfl | rfl | rfl | rfl | rfl <;> (simp [fIn, fBit, zc3, fAdd, fSub, zdf, fMul] at hk hb; subst hk) <;> simp [zbu, zc6, fIn, fBit, zc3, fAdd, fSub, zdf, fMul] at h2
  · left; exact ⟨b, by omega, by omega, by obtain ⟨⟨⟨h3, h4⟩, h5⟩, h6⟩ := h2; simp_all⟩
  · right; left; exact ⟨b, by omega, by omega, by obtain ⟨⟨⟨h3, h4⟩, h5⟩, h6⟩ := h2; simp_all⟩
  · obtain ⟨⟨⟨h3, h4⟩, h5⟩, h6⟩ := h2
    right; right; left; exact ⟨e, hK, by omega, by simp_all⟩
  · obtain ⟨⟨⟨h3, h4⟩, h5⟩, h6⟩ := h2
    right; right; right; left; exact ⟨c, d, h5, h6, by simp_all⟩
  · obtain ⟨⟨⟨h3, h4⟩, h5⟩, h6⟩ := h2
    right; right; right; right; left; exact ⟨c, d, h5, h6, by simp_all⟩
  · obtain ⟨⟨⟨h3, h4⟩, h5⟩, h6⟩ := h2
    right; right; right; right; right; left; exact ⟨e, c, ⟨hK, by omega⟩, h5, by simp_all⟩
  · obtain ⟨⟨⟨h3, h4⟩, h5⟩, h6⟩ := h2
    right; right; right; right; right; right; exact ⟨c, d, h5, h6, by simp_all⟩
theorem gk_right (P at_ : Int) (g : GT) (h : GK P at_ g) : zcw P at_ g.f0 g.f1 g.f2 g.f3 g.f4 = true := by
  rcases h with ⟨x, h1, h2, rfl⟩ | ⟨x, h1, h2, rfl⟩ | ⟨K, h1, h2, rfl⟩ | ⟨a, b, h1, h2, rfl⟩ | ⟨a, b, h1, h2, rfl⟩ | ⟨K, a, h1, h2, rfl⟩ | ⟨a, b, h1, h2, rfl⟩
  · simp [zcw, of_in, zbu, zc6, fIn, h1, h2]
  · simp [zcw, of_bit, zbu, zc6, fBit, h1, h2]
  · simp [zcw, of_const, zbu, zc6, zc3, h1, h2]
  · simp [zcw, of_add, zbu, zc6, fAdd, h1.1, h1.2, h2.1, h2.2]
  · simp [zcw, of_sub, zbu, zc6, fSub, h1.1, h1.2, h2.1, h2.2]
  · simp [zcw, of_scale, zbu, zc6, zdf, h1.1, h1.2, h2.1, h2.2]
  · simp [zcw, of_mul, zbu, zc6, fMul, h1.1, h1.2, h2.1, h2.2]
def zcv (g : GT) : List UInt8 := (ofF g.f0 g.f4).1.word
def zcx (g : GT) : List Int := zcl (ofF g.f0 g.f4).1 g.f1 g.f2 g.f3 g.f4
theorem zcs (n : Int) (h0 : 0 ≤ n) (h : n ≤ 20000) : zbi n = n := by
  unfold zbi
  rw [if_neg (by omega)]
  unfold wrap64; omega
theorem small_big (n : Int) (h : ¬ n ≤ 20000) : zbi n = -1 := by
  unfold zbi
  rw [if_pos (by omega)]
theorem zbw (n : Int) (h0 : 0 ≤ n) (h : n < 18446744073709551616) : IntKind.u64.wrap n = n := by
  simp [IntKind.wrap, IntKind.bits, IntKind.signed]; omega
theorem made_gk (P at_ : Int) (g : GT) (h : GK P at_ g) (hP : P < 18446744073709551616) (ha : at_ ≤ 20000) : madeP P (zcv g) (zcx g) at_ = (g, true) ∧ U64 (zcx g) ∧ ((zcv g).all (fun c => decide (97 ≤ c.toNat)) = true) ∧ zcv g ≠ [111, 117, 116] := by
  have hr := gk_right P at_ g h
  rcases h with ⟨x, h1, h2, rfl⟩ | ⟨x, h1, h2, rfl⟩ | ⟨K, h1, h2, rfl⟩ | ⟨a, b, h1, h2, rfl⟩ | ⟨a, b, h1, h2, rfl⟩ | ⟨K, a, h1, h2, rfl⟩ | ⟨a, b, h1, h2, rfl⟩
  · have e1 : zcv (⟨1, x, 0, 0, 0⟩ : GT) = fIn.word := by simp [zcv, of_in]
    have e2 : zcx (⟨1, x, 0, 0, 0⟩ : GT) = [x] := by simp [zcx, of_in, zcl, fIn, zbw x (by omega) (by omega)]
    have e3 : zc0 fIn [x] = ⟨1, x, 0, 0, 0⟩ := by simp [zc0, fIn, zbp, za6, kL, kF, zcs 0 (by omega) (by omega), zcs x (by omega) (by omega)]
    refine ⟨?_, ?_, by rw [e1]; decide, by rw [e1]; decide⟩
    · rw [e1, e2]
      have e4 : forms.find? (fun f => f.word == fIn.word) = some fIn := by rfl
      unfold madeP
      rw [e4]
      simp only [madeG, e3]
      rw [if_pos (by rfl), hr]
    · rw [e2]; intro y hy; simp at hy; subst hy; omega
  · have e1 : zcv (⟨1, x, 0, 0, 1⟩ : GT) = fBit.word := by simp [zcv, of_bit]
    have e2 : zcx (⟨1, x, 0, 0, 1⟩ : GT) = [x] := by simp [zcx, of_bit, zcl, fBit, zbw x (by omega) (by omega)]
    have e3 : zc0 fBit [x] = ⟨1, x, 0, 0, 1⟩ := by simp [zc0, fBit, zbp, za6, kL, kF, zcs 0 (by omega) (by omega), zcs x (by omega) (by omega)]
    refine ⟨?_, ?_, by rw [e1]; decide, by rw [e1]; decide⟩
    · rw [e1, e2]
      have e4 : forms.find? (fun f => f.word == fBit.word) = some fBit := by rfl
      unfold madeP
      rw [e4]
      simp only [madeG, e3]
      rw [if_pos (by rfl), hr]
    · rw [e2]; intro y hy; simp at hy; subst hy; omega
  · have e1 : zcv (⟨2, 0, 0, 0, K⟩ : GT) = zc3.word := by simp [zcv, of_const]
    have e2 : zcx (⟨2, 0, 0, 0, K⟩ : GT) = [K] := by simp [zcx, of_const, zcl, zc3]
    have e3 : zc0 zc3 [K] = ⟨2, 0, 0, 0, K⟩ := by simp [zc0, zc3, zbp, za6, kL, kF, zcs 0 (by omega) (by omega)]
    refine ⟨?_, ?_, by rw [e1]; decide, by rw [e1]; decide⟩
    · rw [e1, e2]
      have e4 : forms.find? (fun f => f.word == zc3.word) = some zc3 := by rfl
      unfold madeP
      rw [e4]
      simp only [madeG, e3]
      rw [if_pos (by rfl), hr]
    · rw [e2]; intro y hy; simp at hy; subst hy; omega
  · have e1 : zcv (⟨3, 0, a, b, 0⟩ : GT) = fAdd.word := by simp [zcv, of_add]
    have e2 : zcx (⟨3, 0, a, b, 0⟩ : GT) = [a, b] := by simp [zcx, of_add, zcl, fAdd, zbw a (by omega) (by omega), zbw b (by omega) (by omega)]
    have e3 : zc0 fAdd [a, b] = ⟨3, 0, a, b, 0⟩ := by simp [zc0, fAdd, zbp, za6, kL, kF, zcs 0 (by omega) (by omega), zcs a (by omega) (by omega), zcs b (by omega) (by omega)]
    refine ⟨?_, ?_, by rw [e1]; decide, by rw [e1]; decide⟩
    · rw [e1, e2]
      have e4 : forms.find? (fun f => f.word == fAdd.word) = some fAdd := by rfl
      unfold madeP
      rw [e4]
      simp only [madeG, e3]
      rw [if_pos (by rfl), hr]
    · rw [e2]; intro y hy; simp at hy; rcases hy with rfl | rfl <;> omega
  · have e1 : zcv (⟨4, 0, a, b, 0⟩ : GT) = fSub.word := by simp [zcv, of_sub]
    have e2 : zcx (⟨4, 0, a, b, 0⟩ : GT) = [a, b] := by simp [zcx, of_sub, zcl, fSub, zbw a (by omega) (by omega), zbw b (by omega) (by omega)]
    have e3 : zc0 fSub [a, b] = ⟨4, 0, a, b, 0⟩ := by simp [zc0, fSub, zbp, za6, kL, kF, zcs 0 (by omega) (by omega), zcs a (by omega) (by omega), zcs b (by omega) (by omega)]
    refine ⟨?_, ?_, by rw [e1]; decide, by rw [e1]; decide⟩
    · rw [e1, e2]
      have e4 : forms.find? (fun f => f.word == fSub.word) = some fSub := by rfl
      unfold madeP
      rw [e4]
      simp only [madeG, e3]
      rw [if_pos (by rfl), hr]
    · rw [e2]; intro y hy; simp at hy; rcases hy with rfl | rfl <;> omega
  · have e1 : zcv (⟨5, 0, a, 0, K⟩ : GT) = zdf.word := by simp [zcv, of_scale]
    have e2 : zcx (⟨5, 0, a, 0, K⟩ : GT) = [K, a] := by simp [zcx, of_scale, zcl, zdf, zbw a (by omega) (by omega)]
    have e3 : zc0 zdf [K, a] = ⟨5, 0, a, 0, K⟩ := by simp [zc0, zdf, zbp, za6, kL, kF, zcs 0 (by omega) (by omega), zcs a (by omega) (by omega)]
    refine ⟨?_, ?_, by rw [e1]; decide, by rw [e1]; decide⟩
    · rw [e1, e2]
      have e4 : forms.find? (fun f => f.word == zdf.word) = some zdf := by rfl
      unfold madeP
      rw [e4]
      simp only [madeG, e3]
      rw [if_pos (by rfl), hr]
    · rw [e2]; intro y hy; simp at hy; rcases hy with rfl | rfl <;> omega
  · have e1 : zcv (⟨6, 0, a, b, 0⟩ : GT) = fMul.word := by simp [zcv, of_mul]
    have e2 : zcx (⟨6, 0, a, b, 0⟩ : GT) = [a, b] := by simp [zcx, of_mul, zcl, fMul, zbw a (by omega) (by omega), zbw b (by omega) (by omega)]
    have e3 : zc0 fMul [a, b] = ⟨6, 0, a, b, 0⟩ := by simp [zc0, fMul, zbp, za6, kL, kF, zcs 0 (by omega) (by omega), zcs a (by omega) (by omega), zcs b (by omega) (by omega)]
    refine ⟨?_, ?_, by rw [e1]; decide, by rw [e1]; decide⟩
    · rw [e1, e2]
      have e4 : forms.find? (fun f => f.word == fMul.word) = some fMul := by rfl
      unfold madeP
      rw [e4]
      simp only [madeG, e3]
      rw [if_pos (by rfl), hr]
    · rw [e2]; intro y hy; simp at hy; rcases hy with rfl | rfl <;> omega
theorem zdk (n : Int) (h0 : 0 ≤ n) (h : 0 ≤ zbi n) : zbi n = n ∧ n ≤ 20000 := by
  by_cases hn : n ≤ 20000
  · exact ⟨zcs n h0 hn, hn⟩
  · rw [small_big n hn] at h; omega
theorem small_zero : zbi 0 = 0 := zcs 0 (by omega) (by omega)
theorem len_oneL (l : List Int) (h : l.length = 1) : ∃ x, l = [x] := List.length_eq_one_iff.1 h
theorem two_of (l : List Int) (h : l.length = 2) : ∃ x y, l = [x, y] := by
  match l, h with
  | [x, y], _ => exact ⟨x, y, rfl⟩
theorem made_inv (P at_ : Int) (w : List UInt8) (ns : List Int) (g : GT) (h : madeP P w ns at_ = (g, true)) (hn : U64 ns) : GK P at_ g ∧ w = zcv g ∧ ns = zcx g := by
  unfold madeP at h
  split at h
  case h_2 => cases h
  case h_1 f hf =>
  have hw := List.find?_some hf
  have hm := List.mem_of_find?_eq_some hf
  simp only [beq_iff_eq] at hw
  subst hw
  unfold madeG at h
  split at h
  case isFalse => cases h
  case isTrue hc =>
  simp only [Prod.mk.injEq] at h
  obtain ⟨hg, hr⟩ := h
  rw [forms_eq] at hm
  simp only [List.mem_cons, List.not_mem_nil, or_false] at hm
  clear hf
  rcases hm with rfl | rfl | rfl | rfl | rfl | rfl | rfl
  · obtain ⟨x, rfl⟩ := len_oneL ns (by simpa [cntF, zcl, fIn] using hc)
    have e3 : zc0 fIn [x] = ⟨1, zbi x, 0, 0, 0⟩ := by simp [zc0, fIn, zbp, za6, kL, kF, small_zero]
    rw [e3] at hr hg
    simp [zcw, of_in, zbu, zc6, fIn] at hr
    have ux := hn x (by simp)
    obtain ⟨qx, rx⟩ := zdk x (by omega) (by omega)
    rw [qx] at hr hg
    subst hg
    refine ⟨?_, by simp [zcv, of_in], by simp [zcx, of_in, zcl, fIn, zbw x (by omega) (by omega)]⟩
    unfold GK
    left; exact ⟨x, by omega, by omega, rfl⟩
  · obtain ⟨x, rfl⟩ := len_oneL ns (by simpa [cntF, zcl, fBit] using hc)
    have e3 : zc0 fBit [x] = ⟨1, zbi x, 0, 0, 1⟩ := by simp [zc0, fBit, zbp, za6, kL, kF, small_zero]
    rw [e3] at hr hg
    simp [zcw, of_bit, zbu, zc6, fBit] at hr
    have ux := hn x (by simp)
    obtain ⟨qx, rx⟩ := zdk x (by omega) (by omega)
    rw [qx] at hr hg
    subst hg
    refine ⟨?_, by simp [zcv, of_bit], by simp [zcx, of_bit, zcl, fBit, zbw x (by omega) (by omega)]⟩
    unfold GK
    right; left; exact ⟨x, by omega, by omega, rfl⟩
  · obtain ⟨K, rfl⟩ := len_oneL ns (by simpa [cntF, zcl, zc3] using hc)
    have e3 : zc0 zc3 [K] = ⟨2, 0, 0, 0, K⟩ := by simp [zc0, zc3, zbp, za6, kL, kF, small_zero]
    rw [e3] at hr hg
    simp [zcw, of_const, zbu, zc6, zc3] at hr
    have uK := hn K (by simp)
    subst hg
    refine ⟨?_, by simp [zcv, of_const], by simp [zcx, of_const, zcl, zc3]⟩
    unfold GK
    right; right; left; exact ⟨K, by omega, by omega, rfl⟩
  · obtain ⟨a, b, rfl⟩ := two_of ns (by simpa [cntF, zcl, fAdd] using hc)
    have e3 : zc0 fAdd [a, b] = ⟨3, 0, zbi a, zbi b, 0⟩ := by simp [zc0, fAdd, zbp, za6, kL, kF, small_zero]
    rw [e3] at hr hg
    simp [zcw, of_add, zbu, zc6, fAdd] at hr
    have ua := hn a (by simp)
    have ub := hn b (by simp)
    obtain ⟨qa, ra⟩ := zdk a (by omega) (by omega)
    obtain ⟨qb, rb⟩ := zdk b (by omega) (by omega)
    rw [qa, qb] at hr hg
    subst hg
    refine ⟨?_, by simp [zcv, of_add], by simp [zcx, of_add, zcl, fAdd, zbw a (by omega) (by omega), zbw b (by omega) (by omega)]⟩
    unfold GK
    right; right; right; left; exact ⟨a, b, by omega, by omega, rfl⟩
  · obtain ⟨a, b, rfl⟩ := two_of ns (by simpa [cntF, zcl, fSub] using hc)
    have e3 : zc0 fSub [a, b] = ⟨4, 0, zbi a, zbi b, 0⟩ := by simp [zc0, fSub, zbp, za6, kL, kF, small_zero]
    rw [e3] at hr hg
    simp [zcw, of_sub, zbu, zc6, fSub] at hr
    have ua := hn a (by simp)
    have ub := hn b (by simp)
    obtain ⟨qa, ra⟩ := zdk a (by omega) (by omega)
    obtain ⟨qb, rb⟩ := zdk b (by omega) (by omega)
    rw [qa, qb] at hr hg
    subst hg
    refine ⟨?_, by simp [zcv, of_sub], by simp [zcx, of_sub, zcl, fSub, zbw a (by omega) (by omega), zbw b (by omega) (by omega)]⟩
    unfold GK
    right; right; right; right; left; exact ⟨a, b, by omega, by omega, rfl⟩
  · obtain ⟨K, a, rfl⟩ := two_of ns (by simpa [cntF, zcl, zdf] using hc)
    have e3 : zc0 zdf [K, a] = ⟨5, 0, zbi a, 0, K⟩ := by simp [zc0, zdf, zbp, za6, kL, kF, small_zero]
    rw [e3] at hr hg
    simp [zcw, of_scale, zbu, zc6, zdf] at hr
    have uK := hn K (by simp)
    have ua := hn a (by simp)
    obtain ⟨qa, ra⟩ := zdk a (by omega) (by omega)
    rw [qa] at hr hg
    subst hg
    refine ⟨?_, by simp [zcv, of_scale], by simp [zcx, of_scale, zcl, zdf, zbw a (by omega) (by omega)]⟩
    unfold GK
    right; right; right; right; right; left; exact ⟨K, a, by omega, by omega, rfl⟩
  · obtain ⟨a, b, rfl⟩ := two_of ns (by simpa [cntF, zcl, fMul] using hc)
    have e3 : zc0 fMul [a, b] = ⟨6, 0, zbi a, zbi b, 0⟩ := by simp [zc0, fMul, zbp, za6, kL, kF, small_zero]
    rw [e3] at hr hg
    simp [zcw, of_mul, zbu, zc6, fMul] at hr
    have ua := hn a (by simp)
    have ub := hn b (by simp)
    obtain ⟨qa, ra⟩ := zdk a (by omega) (by omega)
    obtain ⟨qb, rb⟩ := zdk b (by omega) (by omega)
    rw [qa, qb] at hr hg
    subst hg
    refine ⟨?_, by simp [zcv, of_mul], by simp [zcx, of_mul, zcl, fMul, zbw a (by omega) (by omega), zbw b (by omega) (by omega)]⟩
    unfold GK
    right; right; right; right; right; right; exact ⟨a, b, by omega, by omega, rfl⟩
end Go.Proofs.YtmnleabeipmhmaaDoor.P
end
