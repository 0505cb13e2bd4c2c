/- What is proved: in plain Lean: what the laws of the chapter on codecs share. -/
import Derived.Test.YteagfdapkffncaaDoorCawk
set_option linter.unusedVariables false
set_option linter.unusedSimpArgs false
namespace Go.Proofs.YteagfdapkffncaaDoor.P
open Go.RowKit Go.Proofs.YteagfdapkffncaaDoorW.PrintWords Go.Proofs.YteagfdapkffncaaDoorW.PrintLast Go.Proofs.YteagfdapkffncaaDoorW.PrintMore
open Lib (decDigits)

theorem as_list (s : ByteArray) : ∃ b : List UInt8, s = ⟨b.toArray⟩ := ⟨s.data.toList, by obtain ⟨⟨l⟩⟩ := s; rfl⟩
theorem awake_only : Ev (fun k => (privitylaw03_awake.f k).bind fun t => some t) true := Ev.bind awake_ev (Ev.now _)
theorem decW_enc (l : List Int) (h : ∀ x ∈ l, U64 x) (hl : l.length ≤ 1000000) : Ev (fun k => codec_DecodeWords.f k ⟨(Enc.enc l).toArray⟩) (l, 0) := by
  have h1 := decWords l.length (Enc.enc l) (Enc.enc_length l) (by omega)
  have h2 := dec_enc l [] h
  rw [List.append_nil] at h2
  rwa [h2] at h1

/-- Lists as an argument has them. -/
def Arg (l : List (List Int)) : Prop := l.length ≤ 140737488351232 ∧ ∀ r ∈ l, r.length ≤ 140737488351232 ∧ ∀ x ∈ r, U64 x
theorem Arg.u {l : List (List Int)} (h : Arg l) : U64s l := fun r hr => (h.2 r hr).2
theorem Arg.few {l : List (List Int)} (h : Arg l) (M : Nat) (hM : M ≤ 1000000) : Ev (fun k => privityref03_Few.f k l (M : Int)) (decide ((flat l).length ≤ M)) :=
  few_ev l M hM (fun r hr => Nat.le_trans (h.2 r hr).1 (by decide)) (Nat.le_trans h.1 (by decide))
theorem Arg.rows {l : List (List Int)} (h : Arg l) : ∀ r ∈ l, r.length ≤ 9223372036854775807 := fun r hr => Nat.le_trans (h.2 r hr).1 (by decide)
theorem Arg.len {l : List (List Int)} (h : Arg l) : l.length ≤ 9223372036854775807 := Nat.le_trans h.1 (by decide)
theorem enc_words_length (l : List (List Int)) : (Enc.enc (wordsL l)).length = 8 * ((flat l).length + 1) := by rw [Enc.enc_length]; rfl

end Go.Proofs.YteagfdapkffncaaDoor.P
