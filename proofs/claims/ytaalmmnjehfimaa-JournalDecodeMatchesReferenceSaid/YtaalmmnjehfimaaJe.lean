/- What is proved: in plain Lean: Decode agrees with the reference for any bytes, and its rows' encoding is the part that was decoded. -/
import Derived.Test.YtaalmmnjehfimaaJawk
import Derived.Test.YtaalmmnjehfimaaPx21
set_option linter.unusedVariables false
set_option linter.unusedSimpArgs false
namespace Go.Proofs.Ytaalmmnjehfimaa.P
open Go.RowKit Go.Proofs.YtaalmmnjehfimaaW.PrintWords Go.Proofs.YtaalmmnjehfimaaW.PrintLast Go.Proofs.YtaalmmnjehfimaaW.PrintMore

theorem matchesLaw (a0 : ByteArray) : Ev (fun k => privitylaw48_JournalDecodeMatchesReference.f k a0) true := by
  obtain ⟨b, rfl⟩ : ∃ b : List UInt8, a0 = ⟨b.toArray⟩ := ⟨a0.data.toList, by apply ByteArray.ext; simp⟩
  unfold privitylaw48_JournalDecodeMatchesReference.f
  refine Ev.bind awake_ev ?_
  simp only [if_true, sz]
  by_cases h2 : (b.length : Int) > 4000
  · simp only [h2, if_true]; exact Ev.now _
  · have hb : b.length ≤ 4000 := by omega
    simp only [h2, if_false]
    obtain ⟨rows, rest, hd⟩ := Dec.ex b.length b (Nat.le_refl _)
    have hs := hd.sound.1
    have hl : (EJ rows).length + rest.length = b.length := by rw [← List.length_append, ← hs]
    have hr := EJ_rows rows
    refine Ev.bind (jdecode_ev hd (Nat.le_trans hb (by decide))) ?_
    refine Ev.bind (refDecode_ev hd (Nat.le_trans hb (by decide))) ?_
    refine Ev.bind (same_ev rows rows (by omega) (fun r h => by have := EJ_row r h; omega)) ?_
    simp only [decide_true, if_true]
    have e1 : wrap64 ((b.length : Int) - (rest.length : Int)) = ((EJ rows).length : Int) := by unfold wrap64; omega
    have p1 : ((rest.length : Int)) ≥ 0 := by omega
    have p2 : (rest.length : Int) ≤ (b.length : Int) := by omega
    have p3 : (0 : Int) ≤ ((EJ rows).length : Int) := by omega
    have p4 : ((EJ rows).length : Int) ≤ (b.length : Int) := by omega
    simp only [e1, if_pos p1, if_pos p2, if_pos p3, if_pos p4]
    refine Ev.bind (encode_ev rows (by omega)) ?_
    rw [ext_eq, ba_toList, ba_toList, List.drop_zero, Int.toNat_natCast, Nat.sub_zero, show b.take (EJ rows).length = EJ rows from by rw [hs]; exact List.take_left' rfl, beq_self_eq_true]
    exact Ev.now _
end Go.Proofs.Ytaalmmnjehfimaa.P
