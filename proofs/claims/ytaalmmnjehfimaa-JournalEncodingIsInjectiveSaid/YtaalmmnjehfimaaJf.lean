/- What is proved: in plain Lean: two lists of rows have the same encoding exactly if they are equal, and joined journals decode to the joined rows. -/
import Derived.Test.YtaalmmnjehfimaaJawk
import Derived.Test.YtaalmmnjehfimaaPx13
set_option linter.unusedVariables false
set_option linter.unusedSimpArgs false
namespace Go.Proofs.Ytaalmmnjehfimaa.P
open Go.RowKit Go.Proofs.YtaalmmnjehfimaaW.PrintWords Go.Proofs.YtaalmmnjehfimaaW.PrintLast Go.Proofs.YtaalmmnjehfimaaW.PrintMore

theorem injTail (a b : List (List Int)) (ha : Arg a) (hb : Arg b) (hsa : (EJ a).length ≤ 4000) (hsb : (EJ b).length ≤ 4000) : Ev (fun k => privitylaw48_JournalEncodingIsInjective.j0 k a b false) true := by
  have oa := ha.ok (Nat.le_trans hsa (by decide))
  have ob := hb.ok (Nat.le_trans hsb (by decide))
  have ra := EJ_rows a
  have rb := EJ_rows b
  refine Ev.step (fun k => by simp only [privitylaw48_JournalEncodingIsInjective.j0, Bool.false_eq_true, if_false]; rfl) ?_
  refine Ev.bind (encode_ev a (Nat.le_trans hsa (by decide))) ?_
  refine Ev.bind (encode_ev b (Nat.le_trans hsb (by decide))) ?_
  have q1 : (ByteArray.mk (EJ a).toArray).size + (ByteArray.mk (EJ b).toArray).size ≤ 9223372036854775807 := by rw [sz, sz]; omega
  simp only [if_pos q1, app_eq]
  have hd : Dec (EJ a ++ EJ b) (a ++ b) [] := Dec.app oa (Dec.all ob)
  refine Ev.bind (jdecode_ev hd (by rw [List.length_append]; omega)) ?_
  refine Ev.bind (same_ev a b (by omega) (fun r h => by have := EJ_row r h; omega)) ?_
  have he : ((EJ a == EJ b) == decide (a = b)) = true := by
    by_cases h : a = b
    · rw [h]; simp
    · have : ¬ EJ a = EJ b := fun e => h (EJ_inj oa ob e)
      simp [h, this]
  have q2 : ([] : List (List Int)).length + a.length < 5864062014805 := by simp; omega
  have q3 : ([] ++ a : List (List Int)).length + b.length < 5864062014805 := by simp; omega
  simp only [ba_toList, he, if_true, List.length_nil, Int.natCast_zero, Option.bind_some, List.nil_append] at *
  simp only [if_pos q2, if_pos q3]
  refine Ev.bind (same_ev (a ++ b) (a ++ b) (by simp; omega) (fun r h => by
    rcases List.mem_append.1 h with h | h
    · have := EJ_row r h; omega
    · have := EJ_row r h; omega)) ?_
  simp only [decide_true]
  exact Ev.now _
theorem injective (a b : List (List Int)) (ha : Arg a) (hb : Arg b) : Ev (fun k => privitylaw48_JournalEncodingIsInjective.f k a b) true := by
  have hj : Ev (fun k => privitylaw48_JournalEncodingIsInjective.j0 k a b true) true := Ev.step (fun k => by simp only [privitylaw48_JournalEncodingIsInjective.j0, if_true]) (Ev.now _)
  unfold privitylaw48_JournalEncodingIsInjective.f
  refine Ev.bind awake_ev ?_
  simp only [if_true]
  obtain ⟨t, ht, h⟩ := total_ev a ha 4000 (by decide)
  refine Ev.bind ht ?_
  by_cases h2 : (t : Int) > 4000
  · simp only [h2, if_true]; exact hj
  · have hs : (EJ a).length ≤ 4000 := by rcases h with rfl | ⟨h, _⟩ <;> omega
    simp only [h2, if_false]
    obtain ⟨u, hu, g⟩ := total_ev b hb 4000 (by decide)
    refine Ev.bind hu ?_
    by_cases h3 : (u : Int) > 4000
    · simp only [h3, decide_true]; exact hj
    · have hs2 : (EJ b).length ≤ 4000 := by rcases g with rfl | ⟨g, _⟩ <;> omega
      simp only [h3, decide_false]
      exact injTail a b ha hb hs hs2
end Go.Proofs.Ytaalmmnjehfimaa.P
