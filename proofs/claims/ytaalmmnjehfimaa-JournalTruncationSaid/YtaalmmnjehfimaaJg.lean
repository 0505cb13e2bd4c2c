/- What is proved: in plain Lean: of a journal that was cut off anywhere, the rows of the whole records are decoded. -/
import Derived.Test.YtaalmmnjehfimaaJawk
import Derived.Test.YtaalmmnjehfimaaPx22
set_option linter.unusedVariables false
set_option linter.unusedSimpArgs false
namespace Go.Proofs.Ytaalmmnjehfimaa.P
open Go.RowKit Go.Proofs.YtaalmmnjehfimaaW.PrintWords Go.Proofs.YtaalmmnjehfimaaW.PrintLast Go.Proofs.YtaalmmnjehfimaaW.PrintMore

theorem trFinal (rows : List (List Int)) (hs : (EJ rows).length ≤ 4000) (hok : Ok rows) (n i : Nat) (hn : n ≤ (EJ rows).length) (hi : i ≤ rows.length) (h1 : (EJ (rows.take i)).length ≤ n) (h2 : i < rows.length → n < (EJ (rows.take (i + 1))).length) :
    Ev (fun k => (if 0 ≤ (n : Int) then (if (n : Int) ≤ ((ByteArray.mk (EJ rows).toArray).size : Int) then ((journal_Decode.f k ((ByteArray.mk (EJ rows).toArray).extract 0 ((n : Int) : Int).toNat)).bind fun bt301 => (if 0 ≤ (i : Int) then (if (i : Int) ≤ (rows.length : Int) then ((privityref48_Same.f k bt301.1 (rows.take ((i : Int) : Int).toNat)).bind fun t309 => (if t309 = true then (some (bt301.2 == (wrap64 ((wrap64 (n : Int)) - ((EJ (rows.take i)).length : Int))))) else (some false))) else (none)) else (none))) else (none)) else (none))) true := by
  have hd := Dec.cut hok n i hi h1 h2
  have hl : (((EJ rows).take n).drop (EJ (rows.take i)).length).length = n - (EJ (rows.take i)).length := by rw [List.length_drop, List.length_take, Nat.min_eq_left hn]
  have p0 : (0 : Int) ≤ (n : Int) := by omega
  have p1 : (n : Int) ≤ ((EJ rows).length : Int) := by omega
  have p2 : (0 : Int) ≤ (i : Int) := by omega
  have p3 : (i : Int) ≤ (rows.length : Int) := by omega
  have e1 : wrap64 (wrap64 (n : Int) - ((EJ (rows.take i)).length : Int)) = (((n - (EJ (rows.take i)).length : Nat)) : Int) := by unfold wrap64; omega
  simp only [sz, if_pos p0, if_pos p1, if_pos p2, if_pos p3, ext_eq, Int.toNat_natCast, List.drop_zero, Nat.sub_zero, e1]
  refine Ev.bind (jdecode_ev hd (by rw [List.length_take]; omega)) ?_
  have hr := EJ_rows rows
  refine Ev.bind (same_ev (rows.take i) (rows.take i) (by rw [List.length_take]; omega) (fun r h => by have := (hok r (List.mem_of_mem_take h)).1; omega)) ?_
  simp only [decide_true, if_true, hl, beq_self_eq_true]
  exact Ev.now _
theorem trLoop (rows : List (List Int)) (hs : (EJ rows).length ≤ 4000) (hok : Ok rows) (n : Nat) (hn : n ≤ (EJ rows).length) (d : Nat) : ∀ i, rows.length - i = d → i ≤ rows.length → (EJ (rows.take i)).length ≤ n →
    Ev (fun k => privitylaw48_JournalTruncation.l0 k rows (n : Int) ⟨(EJ rows).toArray⟩ (i : Int) ((EJ (rows.take i)).length : Int) (i : Int)) true := by
  have hr := EJ_rows rows
  have h4 : rows.length ≤ 9223372036854775807 := by omega
  have hw : wrap64 (n : Int) = (n : Int) := by unfold wrap64; omega
  induction d with
  | zero =>
    intro i hd hi h1
    have hne : ¬ (i : Int) < (rows.length : Int) := by omega
    refine Ev.step (fun k => by simp only [privitylaw48_JournalTruncation.l0]; rw [if_neg hne]) ?_
    exact trFinal rows hs hok n i hn hi h1 (fun h => by omega)
  | succ d ih =>
    intro i hd hi h1
    have hlt : i < rows.length := by omega
    have q1 : (i : Int) < (rows.length : Int) := by omega
    have q3 : (0 : Int) ≤ (i : Int) := by omega
    have h3 := (hok _ (List.getElem_mem hlt)).1
    have es := EJ_take_succ rows i hlt
    have e2 : wrap64 (wrap64 (((EJ (rows.take i)).length : Int) + 16) + wrap64 (8 * (rows[i].length : Int))) = ((EJ (rows.take (i + 1))).length : Int) := by
      rw [tot_step _ _ 4000 (by decide) (by omega) (Nat.le_trans h3 (by decide)), es]
    by_cases hle : (EJ (rows.take (i + 1))).length ≤ n
    · have q2 : ((EJ (rows.take (i + 1))).length : Int) ≤ (n : Int) := Int.ofNat_le.2 hle
      refine Ev.step (fun k => by
        simp only [privitylaw48_JournalTruncation.l0]
        rw [if_pos q1, if_pos q3, rdL1 rows i hlt, e2, hw, if_pos q2, wrap_nat hlt h4]) ?_
      exact ih (i + 1) (by omega) (by omega) hle
    · have q2 : ¬ ((EJ (rows.take (i + 1))).length : Int) ≤ (n : Int) := fun h => hle (Int.ofNat_le.1 h)
      have q2' : ¬ ((EJ (rows.take (i + 1))).length : Int) ≤ wrap64 (n : Int) := by rw [hw]; exact q2
      have hf := trFinal rows hs hok n i hn hi h1 (fun _ => Nat.lt_of_not_le hle)
      refine Ev.step (fun k => by
        simp only [privitylaw48_JournalTruncation.l0]
        rw [if_pos q1, if_pos q3, rdL1 rows i hlt, e2, if_neg q2']) ?_
      exact hf
theorem truncation (rows : List (List Int)) (ha : Arg rows) (n : Nat) (hn : n ≤ 65535) : Ev (fun k => privitylaw48_JournalTruncation.f k rows (n : Int)) true := by
  have hj : Ev (fun k => privitylaw48_JournalTruncation.j0 k rows (n : Int) true) true := Ev.step (fun k => by simp only [privitylaw48_JournalTruncation.j0, if_true]) (Ev.now _)
  have hw : wrap64 (n : Int) = (n : Int) := by unfold wrap64; omega
  unfold privitylaw48_JournalTruncation.f
  refine Ev.bind awake_ev ?_
  simp only [if_true]
  obtain ⟨t, ht, h⟩ := total_ev rows ha 4000 (by decide)
  refine Ev.bind ht ?_
  by_cases h2 : (t : Int) > 4000
  · simp only [h2, if_true]; exact hj
  · have hs : (EJ rows).length ≤ 4000 := by rcases h with rfl | ⟨h, _⟩ <;> omega
    have te : t = (EJ rows).length := by rcases h with h | ⟨h, h'⟩ <;> omega
    subst te
    have hok := ha.ok (Nat.le_trans hs (by decide))
    simp only [h2, if_false]
    refine Ev.bind ht ?_
    rw [hw]
    by_cases h3 : (n : Int) > ((EJ rows).length : Int)
    · simp only [h3, decide_true]; exact hj
    · simp only [h3, decide_false]
      refine Ev.step (fun k => by simp only [privitylaw48_JournalTruncation.j0, Bool.false_eq_true, if_false]; rfl) ?_
      refine Ev.bind (encode_ev rows (Nat.le_trans hs (by decide))) ?_
      refine Ev.bind ht ?_
      simp only [sz, if_true]
      exact trLoop rows hs hok n (by omega) rows.length 0 (by omega) (by omega) (Nat.zero_le _)
theorem truncation' (rows : List (List Int)) (ha : Arg rows) (x : Int) (h : (Lit.int .u16 x).wf = true) : Ev (fun k => privitylaw48_JournalTruncation.f k rows x) true := by
  simp [Lit.wf, IntKind.min, IntKind.max, IntKind.bits, IntKind.signed] at h
  obtain ⟨m, rfl, hm⟩ : ∃ m : Nat, x = (m : Int) ∧ m ≤ 65535 := ⟨x.toNat, by omega, by omega⟩
  exact truncation rows ha m hm
end Go.Proofs.Ytaalmmnjehfimaa.P
