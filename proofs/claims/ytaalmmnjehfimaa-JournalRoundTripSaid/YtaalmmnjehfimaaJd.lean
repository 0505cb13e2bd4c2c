/- What is proved: in plain Lean: the laws on journals that speak of whole journals, of any bytes, and of journals that are cut off. -/
import Derived.Test.YtaalmmnjehfimaaJawk
import Derived.Test.YtaalmmnjehfimaaPx18
set_option linter.unusedVariables false
set_option linter.unusedSimpArgs false
namespace Go.Proofs.Ytaalmmnjehfimaa.P
open Go.RowKit Go.Proofs.YtaalmmnjehfimaaW.PrintWords Go.Proofs.YtaalmmnjehfimaaW.PrintLast Go.Proofs.YtaalmmnjehfimaaW.PrintMore

theorem same_arg (a b : List (List Int)) (ha : Arg a) : Ev (fun k => privityref48_Same.f k a b) (decide (a = b)) :=
  same_ev a b (Nat.le_trans ha.1 (by decide)) (fun r hr => Nat.le_trans (ha.2 r hr).1 (by decide))
theorem Ok.take {rows : List (List Int)} (h : Ok rows) (i : Nat) : Ok (rows.take i) := fun r hr => h r (List.mem_of_mem_take hr)

theorem rtLoop (rows : List (List Int)) (ha : Arg rows) (hs : (EJ rows).length ≤ 100000) (d : Nat) : ∀ i, rows.length - i = d → i ≤ rows.length →
    Ev (fun k => privitylaw48_JournalRoundTrip.l0 k rows ⟨(EJ rows).toArray⟩ ⟨(EJ (rows.take i)).toArray⟩ (i : Int)) true := by
  have hok := ha.ok (Nat.le_trans hs (by decide))
  have h4 : rows.length ≤ 9223372036854775807 := Nat.le_trans ha.1 (by decide)
  have hs2 : (EJ rows).length ≤ 1000000 := Nat.le_trans hs (by decide)
  induction d with
  | zero =>
    intro i hd hi
    have hn : ¬ (i : Int) < (rows.length : Int) := by omega
    refine Ev.step (f := fun k => (journal_Decode.f k ⟨(EJ rows).toArray⟩).bind fun bt253 => ((privityref48_Encode.f k rows).bind fun t257 => (if EJ rows = t257.toList then ((privityref48_Same.f k bt253.1 rows).bind fun t258 => (if t258 = true then (some (bt253.2 == 0)) else (some false))) else (some false)))) (fun k => by
      simp only [privitylaw48_JournalRoundTrip.l0, if_neg hn, List.take_of_length_le (show rows.length ≤ i by omega), ba_toList, eq_self, if_true]) ?_
    refine Ev.bind (jdecode_ev (Dec.all hok) hs2) ?_
    refine Ev.bind (rencode_ev rows hs2) ?_
    simp only [ba_toList, if_true]
    refine Ev.bind (same_arg rows rows ha) ?_
    simp only [decide_true, if_true]
    exact Ev.now _
  | succ d ih =>
    intro i hd hi
    have hlt : i < rows.length := by omega
    have p1 : (i : Int) < (rows.length : Int) := by omega
    have p3 : (0 : Int) ≤ (i : Int) := by omega
    have h2 := EJ_take rows i
    have h1 := (hok _ (List.getElem_mem hlt)).1
    refine Ev.step (fun k => by
      simp only [privitylaw48_JournalRoundTrip.l0]
      rw [if_pos p1, if_pos p3, rdL1 rows i hlt, wrap_nat hlt h4]) ?_
    refine Ev.bind (append_ev _ _ h1 (Nat.le_trans h2 (Nat.le_trans hs (by decide)))) ?_
    have := ih (i + 1) (by omega) (by omega)
    rw [List.take_succ_eq_append_getElem hlt, EJ_append, show EJ [rows[i]] = Enc.enc (rc rows[i]) from by simp [EJ]] at this
    exact this
theorem roundTrip (rows : List (List Int)) (ha : Arg rows) : Ev (fun k => privitylaw48_JournalRoundTrip.f k rows) true := by
  unfold privitylaw48_JournalRoundTrip.f
  refine Ev.bind awake_ev ?_
  simp only [if_true]
  obtain ⟨t, ht, h⟩ := total_ev rows ha 4000 (by decide)
  refine Ev.bind ht ?_
  by_cases h2 : (t : Int) > 4000
  · simp only [h2, if_true]; exact Ev.now _
  · have hs : (EJ rows).length ≤ 4000 := by rcases h with rfl | ⟨h, _⟩ <;> omega
    simp only [h2, if_false]
    refine Ev.bind (encode_ev rows (Nat.le_trans hs (by decide))) ?_
    exact rtLoop rows ha (Nat.le_trans hs (by decide)) rows.length 0 (by omega) (by omega)
end Go.Proofs.Ytaalmmnjehfimaa.P
