/- What is proved: in plain Lean: a journal that was cut off, without its last record's rest and with further rows appended, is a journal of these rows. -/
import Derived.Test.YtaalmmnjehfimaaJawk
import Derived.Test.YtaalmmnjehfimaaPx12
set_option linter.unusedVariables false
set_option linter.unusedSimpArgs false
namespace Go.Proofs.Ytaalmmnjehfimaa.P
open Go.RowKit Go.Proofs.YtaalmmnjehfimaaW.PrintWords Go.Proofs.YtaalmmnjehfimaaW.PrintLast Go.Proofs.YtaalmmnjehfimaaW.PrintMore

theorem rvTail (a b : List (List Int)) (ha : Arg a) (hb : Arg b) (hsa : (EJ a).length ≤ 2000) (hsb : (EJ b).length ≤ 2000) (n : Nat) (hn : n ≤ 65535) : Ev (fun k => privitylaw48_JournalRecovery.j0 k a (n : Int) b false) true := by
  have oa := ha.ok (Nat.le_trans hsa (by decide))
  have ob := hb.ok (Nat.le_trans hsb (by decide))
  have ra := EJ_rows a
  have rb := EJ_rows b
  have hw : wrap64 (n : Int) = (n : Int) := by unfold wrap64; omega
  refine Ev.step (fun k => by simp only [privitylaw48_JournalRecovery.j0, Bool.false_eq_true, if_false]; rw [hw]) ?_
  refine Ev.bind (encode_ev a (Nat.le_trans hsa (by decide))) ?_
  simp only [sz]
  by_cases hg : (n : Int) > ((EJ a).length : Int)
  · simp only [hg, if_true]; exact Ev.now _
  · have hle : n ≤ (EJ a).length := by omega
    obtain ⟨i, _, hi, c1, c2⟩ := cut_at a n a.length 0 (by omega) (by omega) (Nat.zero_le _)
    have hd := Dec.cut oa n i hi c1 c2
    have hl : (((EJ a).take n).drop (EJ (a.take i)).length).length = n - (EJ (a.take i)).length := by rw [List.length_drop, List.length_take, Nat.min_eq_left hle]
    have p0 : (0 : Int) ≤ (n : Int) := by omega
    have p1 : (n : Int) ≤ ((EJ a).length : Int) := by omega
    simp only [hg, if_false, if_pos p0, if_pos p1, ext_eq, Int.toNat_natCast, List.drop_zero, Nat.sub_zero]
    refine Ev.bind (jdecode_ev hd (by rw [List.length_take]; omega)) ?_
    rw [hl]
    have hti : (a.take i).length = i := by rw [List.length_take]; omega
    have p2 : ¬ (((n - (EJ (a.take i)).length : Nat)) : Int) < 0 := by omega
    have p3 : ¬ (((n - (EJ (a.take i)).length : Nat)) : Int) > (n : Int) := by omega
    have p4 : ¬ ((a.take i).length : Int) > (a.length : Int) := by rw [hti]; omega
    simp only [if_neg p2, if_neg p3, p4, decide_false]
    have e1 : wrap64 ((n : Int) - (((n - (EJ (a.take i)).length : Nat)) : Int)) = ((EJ (a.take i)).length : Int) := by unfold wrap64; omega
    have p5 : (0 : Int) ≤ ((EJ (a.take i)).length : Int) := by omega
    have p6 : ((EJ (a.take i)).length : Int) ≤ ((EJ a).length : Int) := by omega
    have hcut : (EJ a).take (EJ (a.take i)).length = EJ (a.take i) := by conv => lhs; rw [EJ_split a i]
                                                                         exact List.take_left' rfl
    refine Ev.step (fun k => by
      simp only [privitylaw48_JournalRecovery.j1, Bool.false_eq_true, if_false]
      rw [hw, e1, sz, if_pos p5, if_pos p6, ext_eq, List.drop_zero, Nat.sub_zero, Int.toNat_natCast, hcut]) ?_
    refine Ev.bind (encode_ev b (Nat.le_trans hsb (by decide))) ?_
    have q1 : (ByteArray.mk (EJ (a.take i)).toArray).size + (ByteArray.mk (EJ b).toArray).size ≤ 9223372036854775807 := by rw [sz, sz]; omega
    have hd2 : Dec (EJ (a.take i) ++ EJ b) (a.take i ++ b) [] := Dec.app (fun r hr => oa r (List.mem_of_mem_take hr)) (Dec.all ob)
    simp only [if_pos q1, app_eq]
    refine Ev.bind (jdecode_ev hd2 (by rw [List.length_append]; omega)) ?_
    have q2 : (0 : Int) ≤ ((a.take i).length : Int) := by omega
    have q3 : ((a.take i).length : Int) ≤ (a.length : Int) := by rw [hti]; omega
    have q4 : ([] : List (List Int)).length + (a.take i).length < 5864062014805 := by rw [hti]; simp; omega
    have q5 : (a.take i).length + b.length < 5864062014805 := by rw [hti]; omega
    have ht : a.take ((a.take i).length : Int).toNat = a.take i := by rw [Int.toNat_natCast, hti]
    simp only [List.length_nil, Int.natCast_zero, if_true, Option.bind_some, if_pos q2, if_pos q3, ht, List.nil_append] at *
    simp only [if_pos q4, if_pos q5]
    refine Ev.bind (same_ev (a.take i ++ b) (a.take i ++ b) (by rw [List.length_append, hti]; omega) (fun r h => by
      rcases List.mem_append.1 h with h | h
      · have := (oa r (List.mem_of_mem_take h)).1; omega
      · have := (ob r h).1; omega)) ?_
    simp only [decide_true]
    exact Ev.now _
theorem recovery (a b : List (List Int)) (ha : Arg a) (hb : Arg b) (n : Nat) (hn : n ≤ 65535) : Ev (fun k => privitylaw48_JournalRecovery.f k a (n : Int) b) true := by
  have hj : Ev (fun k => privitylaw48_JournalRecovery.j0 k a (n : Int) b true) true := Ev.step (fun k => by simp only [privitylaw48_JournalRecovery.j0, if_true]) (Ev.now _)
  unfold privitylaw48_JournalRecovery.f
  refine Ev.bind awake_ev ?_
  simp only [if_true]
  obtain ⟨t, ht, h⟩ := total_ev a ha 2000 (by decide)
  refine Ev.bind ht ?_
  by_cases h2 : (t : Int) > 2000
  · simp only [h2, if_true]; exact hj
  · have hs : (EJ a).length ≤ 2000 := by rcases h with rfl | ⟨h, _⟩ <;> omega
    simp only [h2, if_false]
    obtain ⟨u, hu, g⟩ := total_ev b hb 2000 (by decide)
    refine Ev.bind hu ?_
    by_cases h3 : (u : Int) > 2000
    · simp only [h3, decide_true]; exact hj
    · have hs2 : (EJ b).length ≤ 2000 := by rcases g with rfl | ⟨g, _⟩ <;> omega
      simp only [h3, decide_false]
      exact rvTail a b ha hb hs hs2 n hn
theorem recovery' (a b : List (List Int)) (ha : Arg a) (hb : Arg b) (x : Int) (h : (Lit.int .u16 x).wf = true) : Ev (fun k => privitylaw48_JournalRecovery.f k a x b) true := by
  simp [Lit.wf, IntKind.min, IntKind.max, IntKind.bits, IntKind.signed] at h
  obtain ⟨m, rfl, hm⟩ : ∃ m : Nat, x = (m : Int) ∧ m ≤ 65535 := ⟨x.toNat, by omega, by omega⟩
  exact recovery a b ha hb m hm
end Go.Proofs.Ytaalmmnjehfimaa.P
