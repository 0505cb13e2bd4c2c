/- What is proved: in plain Lean: an event that is appended to a view is found at its index, and makes the encoding longer by its words. -/
import Derived.Test.YtojbfgaipkllbaaAwk
import Derived.Test.YtojbfgaipkllbaaAve
set_option linter.unusedVariables false
set_option linter.unusedSimpArgs false
namespace Go.Proofs.Ytojbfgaipkllbaa.P
open Go.RowKit Go.Proofs.YtojbfgaipkllbaaW.PrintWords Go.Proofs.YtojbfgaipkllbaaW.PrintLast Go.Proofs.YtojbfgaipkllbaaW.PrintMore

theorem cp_begin (a b : List Ve) : cp a (a ++ b) = a.length := by
  induction a with
  | nil => rw [cp_nil_l]; rfl
  | cons x a ih => rw [List.cons_append, cp, if_pos ((evs_iff x x).2 rfl), ih]; rfl
theorem fd_begin (a : List Ve) (e : Ve) : fd a (a ++ [e]) = (a.length : Int) := by
  unfold fd fdAt
  rw [List.drop_zero, List.drop_zero, cp_begin, if_neg (by rintro ⟨_, h⟩; simp at h)]
  simp
theorem lw_add (a : List Ve) (e : Ve) : lw ((a ++ [e]).map evw) = IntKind.u64.wrap ((a.length + 1 : Nat) : Int) :: ((a.map evw).flatMap lg ++ lg (evw e)) := by
  simp [lw]
theorem lw_add_length (a : List Ve) (e : Ve) : (lw ((a ++ [e]).map evw)).length = (lw (a.map evw)).length + (3 + e.f2.length) := by
  rw [lw_add]; simp [lw, lg, evw]; omega
theorem EB_tail (a : List Ve) : (EB a).drop 8 = Enc.enc ((a.map evw).flatMap lg) := by
  unfold EB lw
  rw [show ∀ (x : Int) (l : List Int), x :: l = [x] ++ l from fun _ _ => rfl, Enc.enc_append]
  exact List.drop_left' (by rw [Enc.enc_length]; rfl)
theorem EB_add_tail (a : List Ve) (e : Ve) : (EB (a ++ [e])).drop 8 = (EB a).drop 8 ++ Enc.enc (lg (evw e)) := by
  rw [EB_tail, EB_tail, ← Enc.enc_append]; simp
theorem extract_list (l : List UInt8) (i j : Nat) : ((ByteArray.mk l.toArray).extract i j).toList = (l.drop i).take (j - i) := by
  rw [toList_eq]; simp

theorem appended (a : List Ve) (e : Ve) (ha : GoodV a) (he : Ok1 e) (hl : e.f2.length ≤ 9223372036854775807) : Ev (fun k => privitylaw15_ViewAppendedEvent.f k a e.f0 e.f1 e.f2) true := by
  unfold privitylaw15_ViewAppendedEvent.f
  refine Ev.bind awake_ev ?_
  simp only [if_true]
  refine Ev.bind (few_ev a ha.1 30 20) ?_
  have hj1 : Ev (fun k => privitylaw15_ViewAppendedEvent.j0 k a true e.f0 e.f1 e.f2) true := Ev.step (fun k => by simp only [privitylaw15_ViewAppendedEvent.j0, if_true]) (Ev.now _)
  by_cases h1 : few a 30 20 = true
  · simp only [h1, if_true]
    by_cases h2 : (e.f2.length : Int) > 20
    · simp only [h2, decide_true]; exact hj1
    · simp only [h2, decide_false]
      have hla := (few_len h1).1
      have hsz : (lw (a.map evw)).length ≤ 1 + 30 * (20 + 3) := lw_few h1
      have hpos : 1 ≤ (lw (a.map evw)).length := by simp [lw]
      have hsz2 := lw_add_length a e
      have l1 : (EB a).length = 8 * (lw (a.map evw)).length := EB_length a
      have l2 : (EB (a ++ [e])).length = 8 * (lw ((a ++ [e]).map evw)).length := EB_length _
      have sz : ∀ l : List Ve, (ByteArray.mk (EB l).toArray).size = (EB l).length := fun l => by show (EB l).toArray.size = _; simp
      refine Ev.step (fun k => by
        simp only [privitylaw15_ViewAppendedEvent.j0, Bool.false_eq_true, if_false, Option.bind_some, List.nil_append, List.length_nil, List.length_cons, encode_f a (by omega), encode_f (a ++ [e]) (by omega)]
        rw [if_pos (by omega), if_pos (by omega)]) ?_
      refine Ev.bind (fd_ev a (a ++ [e]) ha.fits (by simp; omega)) ?_
      rw [fd_begin]
      simp only [sz, if_true]
      rw [if_pos (by omega), if_pos (by
        unfold wrap64; omega), if_pos (by omega), if_pos (by omega)]
      have hx : (((ByteArray.mk (EB a).toArray).extract 8 (EB a).length).toList == ((ByteArray.mk (EB (a ++ [e])).toArray).extract 8 ((EB a).length : Int).toNat).toList) = true := by
        rw [beq_iff_eq, extract_list, extract_list, EB_add_tail, Int.toNat_natCast]
        have h8 : ((EB a).drop 8).length = (EB a).length - 8 := List.length_drop
        rw [← h8, List.take_length, List.take_left' rfl]
      rw [hx]
      exact Ev.now _
  · simp only [h1]
    exact hj1

end Go.Proofs.Ytojbfgaipkllbaa.P
