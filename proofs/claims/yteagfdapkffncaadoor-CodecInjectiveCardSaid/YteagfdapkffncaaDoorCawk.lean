/- What is proved: the fixed results that every law of the chapter checks first hold; so the law's first call answers true. -/
import Derived.Test.YteagfdapkffncaaDoorCls
import Derived.Test.YteagfdapkffncaaDoorCdc
import Derived.Test.YteagfdapkffncaaDoorDcl
import Derived.Test.YteagfdapkffncaaDoorPx10
set_option linter.unusedVariables false
set_option linter.unusedSimpArgs false
namespace Go.Proofs.YteagfdapkffncaaDoor.P
open Go.RowKit Go.Proofs.YteagfdapkffncaaDoorW.PrintWords Go.Proofs.YteagfdapkffncaaDoorW.PrintLast Go.Proofs.YteagfdapkffncaaDoorW.PrintMore

theorem decLists_f (b : List UInt8) (h : b.length ≤ 8000000) : codec_DecodeLists.f ⟨b.toArray⟩ = some (decodeS b) := by
  unfold codec_DecodeLists.f
  rw [gate_eq, if_pos (by rw [sz]; simpa using h)]
theorem refDecLists_f (b : List UInt8) (h : b.length ≤ 8000000) : privityref03_DecodeLists.f ⟨b.toArray⟩ = some (decodeS b) := by
  unfold privityref03_DecodeLists.f
  rw [gate_eq, if_pos (by rw [sz]; simpa using h)]
theorem decW_bad (k : Nat) (b : List UInt8) (h : b.length % 8 ≠ 0) : codec_DecodeWords.f k ⟨b.toArray⟩ = some (([] : List Int), 7) := by
  unfold codec_DecodeWords.f
  rw [if_neg (by rw [sz]; omega)]
theorem refDecW_bad (k : Nat) (b : List UInt8) (h : b.length % 8 ≠ 0) : privityref03_DecodeWords.f k ⟨b.toArray⟩ = some (([] : List Int), 7) := by
  unfold privityref03_DecodeWords.f
  rw [if_neg (by rw [sz]; omega)]

theorem awake_ev : Ev (fun k => privitylaw03_awake.f k) true := by
  have u : U64s [[7], []] := by
    intro r hr x hx
    simp only [List.mem_cons, List.not_mem_nil, or_false] at hr
    rcases hr with rfl | rfl
    · simp only [List.mem_cons, List.not_mem_nil, or_false] at hx; subst hx; exact ⟨by decide, by decide⟩
    · cases hx
  have e1 := encW_f [2, 1, 7, 0] (by decide)
  have e2 : codec_DecodeLists.f ⟨(Enc.enc [2, 1, 7, 0]).toArray⟩ = some ([[7], []], 0) := by
    rw [decLists_f _ (by rw [Enc.enc_length]; decide)]
    exact congrArg some (decodeS_enc [[7], []] (by decide) u)
  have e3 : ∀ k, codec_DecodeWords.f k (⟨#[49, 50, 51, 52, 53, 54, 55]⟩ : ByteArray) = some (([] : List Int), 7) := fun k => decW_bad k [49, 50, 51, 52, 53, 54, 55] (by decide)
  have p1 : parseD [49, 56, 52, 52, 54, 55, 52, 52, 48, 55, 51, 55, 48, 57, 53, 53, 49, 54, 49, 54] = (0, 2) := by decide
  have p2 : parseD [49, 56, 52, 52, 54, 55, 52, 52, 48, 55, 51, 55, 48, 57, 53, 53, 49, 54, 49, 53] = (18446744073709551615, 0) := by decide
  have p3 : parseD [48, 49] = (0, 3) := by decide
  have e4 : codec_ParseDecimal.f (⟨#[49, 56, 52, 52, 54, 55, 52, 52, 48, 55, 51, 55, 48, 57, 53, 53, 49, 54, 49, 54]⟩ : ByteArray) = some (0, 2) := (parse_f [49, 56, 52, 52, 54, 55, 52, 52, 48, 55, 51, 55, 48, 57, 53, 53, 49, 54, 49, 54] (by decide)).trans (by rw [p1]; rfl)
  have e5 : codec_ParseDecimal.f (⟨#[49, 56, 52, 52, 54, 55, 52, 52, 48, 55, 51, 55, 48, 57, 53, 53, 49, 54, 49, 53]⟩ : ByteArray) = some (18446744073709551615, 0) := (parse_f [49, 56, 52, 52, 54, 55, 52, 52, 48, 55, 51, 55, 48, 57, 53, 53, 49, 54, 49, 53] (by decide)).trans (by rw [p2]; rfl)
  have e6 : codec_ParseDecimal.f (⟨#[48, 49]⟩ : ByteArray) = some (0, 3) := (parse_f [48, 49] (by decide)).trans (by rw [p3]; rfl)
  have e7 := encW_f [258] (by decide)
  have b7 : Enc.enc [258] = [2, 1, 0, 0, 0, 0, 0, 0] := by decide
  have d0 : Lib.decDigits 0 = [48] := by rw [dd_small 0 (by decide)]; rfl
  have e8 : codec_FormatDecimal.f 0 = some ⟨[48].toArray⟩ := by have := fmt_f 0 (by decide); rw [d0] at this; exact this
  have d120 : Lib.decDigits 120 = [49, 50, 48] := by rw [dd_big 120 (by decide), dd_big (120 / 10) (by decide), dd_small (120 / 10 / 10) (by decide)]; rfl
  have e9 : codec_FormatDecimal.f 120 = some ⟨[49, 50, 48].toArray⟩ := by have := fmt_f 120 (by decide); rw [d120] at this; exact this
  unfold privitylaw03_awake.f
  simp only [e1, e2, e3, e4, e5, e6, e7, e8, e9, Option.bind_some, ba_toList, b7, if_true]
  refine Ev.bind (sameLists_ev [[7], []] [[7], []] (by decide) (by decide)) ?_
  simp only [decide_true, if_true]
  exact Ev.now _

theorem privitylaw03_awake.calls (k : Nat) (r : Bool) (w : World) (hLd : Ld w) (h : privitylaw03_awake.f k = some r) :
    Calls Tryd.prog 12 #[] w fun e w' => e = .returned (.bool r) ∧ Below w.heap.size w w' := by
  obtain ⟨K, hK⟩ := awake_ev
  have h1 := hK (max K k) (Nat.le_max_left _ _)
  have h2 := at_rounds (g := fun k => privitylaw03_awake.f k) (fun k => privitylaw03_awake.mono k) (Nat.le_max_right K k) h
  exact privitylaw03_awake.callsT k r w hLd (Option.some.inj (h2.symm.trans h1)) h

end Go.Proofs.YteagfdapkffncaaDoor.P
