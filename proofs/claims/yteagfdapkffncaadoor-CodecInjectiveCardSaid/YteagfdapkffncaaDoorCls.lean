/- What is proved: in plain Lean: what the law package's helpers answer: sameness of lists, room, the encoders of lists. -/
/- What is proved: in plain Lean: the lists that words tell are told by these words alone: decoding undoes encoding, accepts nothing else, and no encoding opens another. -/
import Derived.Test.YteagfdapkffncaaDoorJa
import Derived.Test.YteagfdapkffncaaDoorDcl
import Derived.Test.YteagfdapkffncaaDoorPx8
import Derived.Test.YteagfdapkffncaaDoorPx9
import Derived.Test.YteagfdapkffncaaDoorPx19
import Derived.Test.YteagfdapkffncaaDoorPx20
import Derived.Test.YteagfdapkffncaaDoorPx21
set_option linter.unusedVariables false
set_option linter.unusedSimpArgs false
namespace Go.Proofs.YteagfdapkffncaaDoor.P
open Go.RowKit Go.Proofs.YteagfdapkffncaaDoorW.PrintWords Go.Proofs.YteagfdapkffncaaDoorW.PrintLast Go.Proofs.YteagfdapkffncaaDoorW.PrintMore

theorem rdL1 (rows : List (List Int)) (i : Nat) (h : i < rows.length) : rd_L1 rows (i : Int) = rows[i] := by simp [rd_L1, h]

theorem same_go (a b : List Int) (h : a.length = b.length) (hl : a.length ≤ 9223372036854775807) (d : Nat) : ∀ i : Nat, a.length - i = d → i ≤ a.length →
    Ev (fun k => privityref03_Same.l0 k a b (i : Int)) (decide (a.drop i = b.drop i)) := by
  induction d with
  | zero =>
    intro i hd hi
    obtain rfl : i = a.length := by omega
    rw [List.drop_length, h, List.drop_length]
    exact Ev.step (f := fun _ => some true) (fun k => by simp only [privityref03_Same.l0]; rw [if_neg (by omega)]) (Ev.now _)
  | succ d ih =>
    intro i hd hi
    have hlt : i < a.length := by omega
    have hlt2 : i < b.length := by omega
    rw [List.drop_eq_getElem_cons hlt, List.drop_eq_getElem_cons hlt2]
    by_cases hc : a[i] = b[i]
    · have h1 := ih (i + 1) (by omega) (by omega)
      rw [show decide (a[i] :: a.drop (i + 1) = b[i] :: b.drop (i + 1)) = decide (a.drop (i + 1) = b.drop (i + 1)) from decide_eq_decide.2 ⟨fun e => (List.cons.inj e).2, fun e => by rw [hc, e]⟩]
      exact Ev.step (fun k => by simp only [privityref03_Same.l0]; rw [if_pos (by omega), if_pos (by omega), if_pos (by omega), rd_nat _ _ hlt, rd_nat _ _ hlt2, if_pos hc, wrap_nat hlt hl]) h1
    · rw [show decide (a[i] :: a.drop (i + 1) = b[i] :: b.drop (i + 1)) = false from decide_eq_false (fun e => hc (List.cons.inj e).1)]
      exact Ev.step (f := fun _ => some false) (fun k => by simp only [privityref03_Same.l0]; rw [if_pos (by omega), if_pos (by omega), if_pos (by omega), rd_nat _ _ hlt, rd_nat _ _ hlt2, if_neg hc]) (Ev.now _)
theorem same_ev (a b : List Int) (hl : a.length ≤ 9223372036854775807) : Ev (fun k => privityref03_Same.f k a b) (decide (a = b)) := by
  unfold privityref03_Same.f
  by_cases h : a.length = b.length
  · exact Ev.congr (fun k => by rw [if_pos (by omega)]; rfl) (same_go a b h hl a.length 0 (by omega) (by omega))
  · rw [show decide (a = b) = false from by simp; intro e; exact h (by rw [e])]
    exact Ev.congr (fun k => by rw [if_neg (by omega)]) (Ev.now _)


theorem rowsLoop (a b : List (List Int)) (hab : a.length = b.length) (hl : a.length ≤ 9223372036854775807) (hr : ∀ r ∈ a, r.length ≤ 9223372036854775807) (d : Nat) : ∀ (i : Nat), a.length - i = d → i ≤ a.length → Ev (fun k => privityref03_SameLists.l0 k a b (i : Int)) (decide (a.drop i = b.drop i)) := by
  induction d with
  | zero =>
    intro i hd hi
    refine Ev.step (fun k => by simp only [privityref03_SameLists.l0]; rw [if_neg (by omega)]) ?_
    rw [List.drop_of_length_le (by omega), List.drop_of_length_le (by omega)]
    exact Ev.now _
  | succ d ih =>
    intro i hd hi
    have h1 : i < a.length := by omega
    have h2 : i < b.length := by omega
    refine Ev.step (fun k => by
      simp only [privityref03_SameLists.l0]
      rw [if_pos (by omega), if_pos (by omega), if_pos (by omega), rdL1 a i h1, rdL1 b i h2, wrap_nat h1 hl]) ?_
    refine Ev.bind (same_ev a[i] b[i] (hr _ (List.getElem_mem h1))) ?_
    rw [List.drop_eq_getElem_cons h1, List.drop_eq_getElem_cons h2]
    by_cases he : a[i] = b[i]
    · simp only [he, decide_true, if_true, List.cons.injEq, true_and]
      exact ih (i + 1) (by omega) (by omega)
    · simp only [he, decide_false, Bool.false_eq_true, if_false, List.cons.injEq, false_and]
      exact Ev.now _
theorem sameLists_ev (a b : List (List Int)) (hl : a.length ≤ 9223372036854775807) (hr : ∀ r ∈ a, r.length ≤ 9223372036854775807) : Ev (fun k => privityref03_SameLists.f k a b) (decide (a = b)) := by
  unfold privityref03_SameLists.f
  by_cases h : a.length = b.length
  · have h' : (a.length : Int) = (b.length : Int) := by omega
    simp only [h', if_true]
    have := rowsLoop a b h hl hr a.length 0 (by omega) (by omega)
    rw [List.drop_zero, List.drop_zero] at this
    exact this
  · have hne : a ≠ b := fun e => h (by rw [e])
    have h' : ¬ ((a.length : Int) = (b.length : Int)) := by omega
    simp only [h', if_false, hne, decide_false]
    exact Ev.now _

/-- The words of lists behind their number. -/
def flat : List (List Int) → List Int
  | [] => []
  | r :: l => (r.length : Int) :: (r ++ flat l)
def wordsL (l : List (List Int)) : List Int := (l.length : Int) :: flat l
theorem flat_append (a b : List (List Int)) : flat (a ++ b) = flat a ++ flat b := by
  induction a with
  | nil => rfl
  | cons r a ih => simp only [List.cons_append, flat, ih, List.append_assoc]
theorem flat_take (l : List (List Int)) (i : Nat) (h : i < l.length) : flat (l.take (i + 1)) = flat (l.take i) ++ ((l[i].length : Int) :: l[i]) := by
  rw [List.take_succ_eq_append_getElem h, flat_append]; simp [flat]
theorem flat_take_le (l : List (List Int)) (i : Nat) : (flat (l.take i)).length ≤ (flat l).length := by
  have : flat l = flat (l.take i) ++ flat (l.drop i) := by rw [← flat_append, List.take_append_drop]
  rw [this, List.length_append]; omega
theorem flat_len (l : List (List Int)) : l.length ≤ (flat l).length := by
  induction l with
  | nil => exact Nat.le_refl _
  | cons r l ih => simp only [flat, List.length_cons, List.length_append]; omega
theorem flat_mem (l : List (List Int)) (r : List Int) (h : r ∈ l) : r.length < (flat l).length := by
  induction l with
  | nil => cases h
  | cons q l ih =>
    simp only [flat, List.length_cons, List.length_append]
    rcases List.mem_cons.1 h with rfl | h
    · omega
    · have := ih h; omega

/-- What Few weighs. -/
theorem few_go (l : List (List Int)) (M : Nat) (hM : M ≤ 1000000) (hr : ∀ r ∈ l, r.length ≤ 140737488355328) (hl : l.length ≤ 140737488355328) (d : Nat) : ∀ i : Nat, l.length - i = d → i ≤ l.length → ∀ c : Nat, c ≤ 281474977000000 →
    Ev (fun k => privityref03_Few.l0 k l (M : Int) (c : Int) (i : Int)) (decide (c + ((flat (l.drop i)).length - (l.length - i)) ≤ M)) := by
  induction d with
  | zero =>
    intro i hd hi c hc
    obtain rfl : i = l.length := by omega
    rw [List.drop_length]
    refine Ev.step (f := fun _ => some (decide ((c : Int) ≤ (M : Int)))) (fun k => by simp only [privityref03_Few.l0]; rw [if_neg (by omega)]) ?_
    rw [show decide (c + ((flat []).length - (l.length - l.length)) ≤ M) = decide ((c : Int) ≤ (M : Int)) from decide_eq_decide.2 (by simp [flat])]
    exact Ev.now _
  | succ d ih =>
    intro i hd hi c hc
    have hlt : i < l.length := by omega
    have hri := hr _ (List.getElem_mem hlt)
    have hfl := flat_len (l.drop (i + 1))
    rw [List.length_drop] at hfl
    rw [List.drop_eq_getElem_cons hlt]
    by_cases h : c ≤ M
    · refine Ev.step (fun k => by
        simp only [privityref03_Few.l0]
        rw [if_pos (by omega), if_pos (by omega), if_pos (by omega), rdL1 l i hlt, show wrap64 ((c : Int) + (l[i].length : Int)) = ((c + l[i].length : Nat) : Int) from by unfold wrap64; omega, wrap_nat hlt (by omega)]) ?_
      have h1 := ih (i + 1) (by omega) (by omega) (c + l[i].length) (by omega)
      rw [show decide (c + ((flat (l[i] :: l.drop (i + 1))).length - (l.length - i)) ≤ M) = decide (c + l[i].length + ((flat (l.drop (i + 1))).length - (l.length - (i + 1))) ≤ M) from decide_eq_decide.2 (by simp only [flat, List.length_cons, List.length_append]; omega)]
      exact h1
    · refine Ev.step (f := fun _ => some (decide ((c : Int) ≤ (M : Int)))) (fun k => by simp only [privityref03_Few.l0]; rw [if_pos (by omega), if_neg (by omega)]) ?_
      rw [show decide (c + ((flat (l[i] :: l.drop (i + 1))).length - (l.length - i)) ≤ M) = decide ((c : Int) ≤ (M : Int)) from decide_eq_decide.2 (by omega)]
      exact Ev.now _
theorem few_ev (l : List (List Int)) (M : Nat) (hM : M ≤ 1000000) (hr : ∀ r ∈ l, r.length ≤ 140737488355328) (hl : l.length ≤ 140737488355328) : Ev (fun k => privityref03_Few.f k l (M : Int)) (decide ((flat l).length ≤ M)) := by
  have h := few_go l M hM hr hl l.length 0 (by omega) (by omega) l.length (by omega)
  rw [show decide ((flat l).length ≤ M) = decide (l.length + ((flat (l.drop 0)).length - (l.length - 0)) ≤ M) from decide_eq_decide.2 (by have := flat_len l; rw [List.drop_zero]; omega)]
  exact h

theorem encW_f (l : List Int) (h : l.length * 8 ≤ 140737488355328) : codec_EncodeWords.f l = some ⟨(Enc.enc l).toArray⟩ := by
  unfold codec_EncodeWords.f
  rw [gate_eq, if_pos (by simpa using h)]

theorem el_go (l : List (List Int)) (hs : (flat l).length ≤ 1000000) (d : Nat) : ∀ i : Nat, l.length - i = d → i ≤ l.length →
    Ev (fun k => codec_EncodeLists.l0 k ((l.length : Int) :: flat (l.take i)) l (l.length : Int) (i : Int)) ⟨(Enc.enc (wordsL l)).toArray⟩ := by
  induction d with
  | zero =>
    intro i hd hi
    obtain rfl : i = l.length := by omega
    rw [List.take_length]
    exact Ev.step (f := fun _ => some ⟨(Enc.enc (wordsL l)).toArray⟩) (fun k => by simp only [codec_EncodeLists.l0]; rw [if_neg (by omega), encW_f _ (by simp only [List.length_cons]; omega)]; rfl) (Ev.now _)
  | succ d ih =>
    intro i hd hi
    have hlt : i < l.length := by omega
    have h1 := ih (i + 1) (by omega) (by omega)
    have h2 := flat_take_le l (i + 1)
    have h3 := flat_len l
    rw [flat_take l i hlt] at h1 h2
    simp only [List.length_append, List.length_cons] at h2
    refine Ev.step (fun k => by
      simp only [codec_EncodeLists.l0]
      rw [if_pos (by omega), if_pos (by omega), if_pos (by omega), if_pos (by simp only [List.length_cons]; omega), rdL1 l i hlt, wrapU_nat _ (by omega), Option.bind_some, if_pos (by simp only [List.length_append, List.length_cons, List.length_nil]; omega), wrap_nat hlt (by omega),
        show (l.length : Int) :: flat (l.take i) ++ [(l[i].length : Int)] ++ l[i] = (l.length : Int) :: (flat (l.take i) ++ ((l[i].length : Int) :: l[i])) from by simp]) ?_
    exact h1
theorem encLists_ev (l : List (List Int)) (hs : (flat l).length ≤ 1000000) : Ev (fun k => codec_EncodeLists.f k l) ⟨(Enc.enc (wordsL l)).toArray⟩ := by
  have h := el_go l hs l.length 0 (by omega) (by omega)
  have h3 := flat_len l
  exact Ev.congr (fun k => by simp only [codec_EncodeLists.f]; rw [wrapU_nat _ (by omega)]; rfl) h

theorem rel_go (l : List (List Int)) (hs : (flat l).length ≤ 1000000) (d : Nat) : ∀ i : Nat, l.length - i = d → i ≤ l.length →
    Ev (fun k => privityref03_EncodeLists.l0 k l ((l.length : Int) :: flat (l.take i)) (i : Int)) ⟨(Enc.enc (wordsL l)).toArray⟩ := by
  induction d with
  | zero =>
    intro i hd hi
    obtain rfl : i = l.length := by omega
    rw [List.take_length]
    refine Ev.step (fun k => by simp only [privityref03_EncodeLists.l0]; rw [if_neg (by omega)]) ?_
    exact Ev.bind (refWords ((l.length : Int) :: flat l) (by simp only [List.length_cons]; omega)) (Ev.now _)
  | succ d ih =>
    intro i hd hi
    have hlt : i < l.length := by omega
    have h1 := ih (i + 1) (by omega) (by omega)
    have h2 := flat_take_le l (i + 1)
    have h3 := flat_len l
    rw [flat_take l i hlt] at h1 h2
    simp only [List.length_append, List.length_cons] at h2
    refine Ev.step (fun k => by
      simp only [privityref03_EncodeLists.l0]
      rw [if_pos (by omega), if_pos (by omega), if_pos (by simp only [List.length_cons]; omega), rdL1 l i hlt, wrapU_nat _ (by omega), Option.bind_some, if_pos (by simp only [List.length_append, List.length_cons, List.length_nil]; omega), wrap_nat hlt (by omega),
        show (l.length : Int) :: flat (l.take i) ++ [(l[i].length : Int)] ++ l[i] = (l.length : Int) :: (flat (l.take i) ++ ((l[i].length : Int) :: l[i])) from by simp]) ?_
    exact h1
theorem refEncLists_ev (l : List (List Int)) (hs : (flat l).length ≤ 1000000) : Ev (fun k => privityref03_EncodeLists.f k l) ⟨(Enc.enc (wordsL l)).toArray⟩ := by
  have h := rel_go l hs l.length 0 (by omega) (by omega)
  have h3 := flat_len l
  exact Ev.congr (fun k => by simp only [privityref03_EncodeLists.f]; rw [wrapU_nat _ (by omega)]; rfl) h

end Go.Proofs.YteagfdapkffncaaDoor.P

set_option linter.unusedVariables false
set_option linter.unusedSimpArgs false
namespace Go.Proofs.YteagfdapkffncaaDoor.P
open Go.RowKit Go.Proofs.YteagfdapkffncaaDoorW.PrintWords Go.Proofs.YteagfdapkffncaaDoorW.PrintLast Go.Proofs.YteagfdapkffncaaDoorW.PrintMore

theorem listsD_flat (l : List (List Int)) : ∀ (acc : List (List Int)) (t : List Int), listsD l.length (flat l ++ t) acc = if t.isEmpty then (acc ++ l, 0) else ([], 7) := by
  induction l with
  | nil => intro acc t; simp [flat, listsD]
  | cons r l ih =>
    intro acc t
    have e : flat (r :: l) ++ t = (r.length : Int) :: (r ++ (flat l ++ t)) := by simp [flat]
    rw [e, List.length_cons, listsD]
    simp only [Int.toNat_natCast]
    rw [if_pos (by simp), List.drop_left' rfl, List.take_left' rfl, ih]
    simp
theorem listsD_told : ∀ (m : Nat) (rs : List Int) (acc : List (List Int)) (r : List (List Int)), (∀ x ∈ rs, 0 ≤ x) → listsD m rs acc = (r, 0) → ∃ l, r = acc ++ l ∧ l.length = m ∧ rs = flat l := by
  intro m
  induction m with
  | zero =>
    intro rs acc r _ h
    rw [listsD] at h
    by_cases he : rs = []
    · subst he
      simp only [List.isEmpty_nil, if_true, Prod.mk.injEq] at h
      exact ⟨[], by simp [h.1], rfl, rfl⟩
    · rw [if_neg (by simpa using he)] at h
      simp at h
  | succ m ih =>
    intro rs acc r hx h
    cases rs with
    | nil => simp [listsD] at h
    | cons c rs =>
      rw [listsD] at h
      by_cases hc : c.toNat ≤ rs.length
      · simp only [decide_eq_true hc, if_true] at h
        obtain ⟨l, hr, hl, hf⟩ := ih (rs.drop c.toNat) (acc ++ [rs.take c.toNat]) r (fun x hx' => hx x (List.mem_cons_of_mem _ (List.mem_of_mem_drop hx'))) h
        have hlen : (rs.take c.toNat).length = c.toNat := by rw [List.length_take]; omega
        have h0 := hx c List.mem_cons_self
        refine ⟨rs.take c.toNat :: l, by rw [hr]; simp, by simp [hl], ?_⟩
        rw [flat, hlen, ← hf, List.take_append_drop, Int.toNat_of_nonneg h0]
      · simp only [decide_eq_false hc, Bool.false_eq_true, if_false] at h
        simp at h
theorem listsD_err : ∀ (m : Nat) (rs : List Int) (acc : List (List Int)), (listsD m rs acc).2 ≠ 0 → listsD m rs acc = ([], 7) := by
  intro m
  induction m with
  | zero => intro rs acc h; rw [listsD] at h ⊢; split <;> simp_all
  | succ m ih =>
    intro rs acc h
    cases rs with
    | nil => rfl
    | cons c rs =>
      rw [listsD] at h ⊢
      by_cases hc : c.toNat ≤ rs.length
      · simp only [decide_eq_true hc, if_true] at h ⊢; exact ih _ _ h
      · simp only [decide_eq_false hc, Bool.false_eq_true, if_false]

def U64s (l : List (List Int)) : Prop := ∀ r ∈ l, ∀ x ∈ r, U64 x
theorem flat_u64 (l : List (List Int)) (hs : (flat l).length ≤ 1000000) (h : U64s l) : ∀ x ∈ flat l, U64 x := by
  induction l with
  | nil => intro x hx; cases hx
  | cons r l ih =>
    simp only [flat, List.length_cons, List.length_append] at hs
    intro x hx
    rcases List.mem_cons.1 hx with rfl | hx
    · unfold U64; omega
    rcases List.mem_append.1 hx with hx | hx
    · exact h r List.mem_cons_self x hx
    · exact ih (by omega) (fun q hq => h q (List.mem_cons_of_mem _ hq)) x hx
theorem words_u64 (l : List (List Int)) (hs : (flat l).length ≤ 1000000) (h : U64s l) : ∀ x ∈ wordsL l, U64 x := by
  intro x hx
  rcases List.mem_cons.1 hx with rfl | hx
  · have := flat_len l; unfold U64; omega
  · exact flat_u64 l hs h x hx

theorem decodeS_words (ws : List Int) (h : ∀ x ∈ ws, U64 x) : decodeS (Enc.enc ws) = decodeL ws := by
  unfold decodeS
  rw [Enc.enc_length, if_pos (by simp), Nat.mul_div_cancel_left _ (by omega)]
  have := dec_enc ws [] h
  rw [List.append_nil] at this
  rw [this]
theorem decodeL_words (l : List (List Int)) (t : List Int) : decodeL (wordsL l ++ t) = if t.isEmpty then (l, 0) else ([], 7) := by
  show listsD ((l.length : Int)).toNat (flat l ++ t) [] = _
  rw [Int.toNat_natCast, listsD_flat, List.nil_append]
theorem decodeS_enc (l : List (List Int)) (hs : (flat l).length ≤ 1000000) (h : U64s l) : decodeS (Enc.enc (wordsL l)) = (l, 0) := by
  rw [decodeS_words _ (words_u64 l hs h)]
  have := decodeL_words l []
  rw [List.append_nil] at this
  exact this
theorem decodeS_more (l : List (List Int)) (hs : (flat l).length ≤ 1000000) (h : U64s l) (t : List Int) (ht : ∀ x ∈ t, U64 x) : decodeS (Enc.enc (wordsL l) ++ Enc.enc t) = if t.isEmpty then (l, 0) else ([], 7) := by
  rw [← Enc.enc_append, decodeS_words _ (fun x hx => (List.mem_append.1 hx).elim (words_u64 l hs h x) (ht x)), decodeL_words]
theorem enc_inj (a b : List (List Int)) (ha : (flat a).length ≤ 1000000) (hb : (flat b).length ≤ 1000000) (hua : U64s a) (hub : U64s b) (h : Enc.enc (wordsL a) = Enc.enc (wordsL b)) : a = b := by
  have h1 := decodeS_enc a ha hua
  rw [h, decodeS_enc b hb hub] at h1
  exact (Prod.mk.inj h1).1.symm

theorem decodeS_told (b : List UInt8) (r : List (List Int)) (h : decodeS b = (r, 0)) : Enc.enc (wordsL r) = b ∧ (flat r).length + 1 = b.length / 8 ∧ U64s r := by
  unfold decodeS at h
  by_cases h8 : b.length % 8 = 0
  · rw [if_pos (by simpa using h8)] at h
    have hed := enc_dec (b.length / 8) b (by omega)
    rw [List.take_of_length_le (by omega)] at hed
    have hu := dec_u64 (b.length / 8) b
    have hlen := dec_length (b.length / 8) b
    cases hd : dec (b.length / 8) b with
    | nil => rw [hd] at h; simp [decodeL] at h
    | cons n rest =>
      rw [hd] at h hed hu hlen
      obtain ⟨h0, _⟩ := hu n List.mem_cons_self
      have h' : listsD n.toNat rest [] = (r, 0) := h
      obtain ⟨l, hr, hl, hf⟩ := listsD_told n.toNat rest [] r (fun x hx => (hu x (List.mem_cons_of_mem _ hx)).1) h'
      rw [List.nil_append] at hr
      subst hr
      have e : wordsL r = n :: rest := by rw [wordsL, hl, Int.toNat_of_nonneg h0, ← hf]
      refine ⟨by rw [e]; exact hed, by rw [← hf]; simpa using hlen, fun q hq x hx => hu x (List.mem_cons_of_mem _ ?_)⟩
      rw [hf]
      clear hf hl e h h' hd hed hu hlen
      induction r with
      | nil => cases hq
      | cons q' r ih =>
        rw [flat]
        rcases List.mem_cons.1 hq with rfl | hq
        · exact List.mem_cons_of_mem _ (List.mem_append_left _ hx)
        · exact List.mem_cons_of_mem _ (List.mem_append_right _ (ih hq))
  · rw [if_neg (by simpa using h8)] at h
    simp at h
theorem decodeS_err (b : List UInt8) (h : (decodeS b).2 ≠ 0) : decodeS b = ([], 7) := by
  unfold decodeS at h ⊢
  by_cases h8 : b.length % 8 = 0
  · rw [if_pos (by simpa using h8)] at h ⊢
    cases hd : dec (b.length / 8) b with
    | nil => rfl
    | cons n rest => rw [hd] at h; exact listsD_err _ _ _ h
  · rw [if_neg (by simpa using h8)]
/-- An encoding's true opening is none. -/
theorem decodeS_cut (l : List (List Int)) (hs : (flat l).length ≤ 1000000) (h : U64s l) (n : Nat) (hn : n < (Enc.enc (wordsL l)).length) : (decodeS ((Enc.enc (wordsL l)).take n)).2 ≠ 0 := by
  intro h0
  obtain ⟨r, e, hr⟩ : ∃ r e, decodeS ((Enc.enc (wordsL l)).take n) = (r, e) := ⟨_, _, rfl⟩
  rw [hr] at h0
  simp only at h0
  subst h0
  obtain ⟨he, hlen, hur⟩ := decodeS_told _ _ hr
  have hl : (Enc.enc (wordsL l)).length = 8 * (wordsL l).length := Enc.enc_length _
  have hn8 : n = 8 * (wordsL r).length := by
    have := congrArg List.length he
    rw [Enc.enc_length, List.length_take] at this
    omega
  have hfr : (flat r).length ≤ 1000000 := by
    have e1 : (wordsL r).length = (flat r).length + 1 := rfl
    have e2 : (wordsL l).length = (flat l).length + 1 := rfl
    omega
  -- the words of r open the words of l
  have hw : wordsL l = wordsL r ++ (wordsL l).drop (wordsL r).length := by
    have h1 : Enc.enc (wordsL l) = Enc.enc ((wordsL l).take (wordsL r).length) ++ Enc.enc ((wordsL l).drop (wordsL r).length) := by rw [← Enc.enc_append, List.take_append_drop]
    have hlt : (wordsL r).length ≤ (wordsL l).length := by omega
    have h2 : Enc.enc ((wordsL l).take (wordsL r).length) = Enc.enc (wordsL r) := by
      rw [he, h1, List.take_left' (by rw [Enc.enc_length, List.length_take]; omega)]
    have h3 : (wordsL l).take (wordsL r).length = wordsL r := by
      have a := dec_enc ((wordsL l).take (wordsL r).length) [] (fun x hx => words_u64 l hs h x (List.mem_of_mem_take hx))
      have b := dec_enc (wordsL r) [] (words_u64 r hfr hur)
      rw [h2, List.length_take, Nat.min_eq_left hlt, b] at a
      exact a.symm
    conv => lhs; rw [← List.take_append_drop (wordsL r).length (wordsL l), h3]
  have h1 := decodeL_words l []
  rw [List.append_nil] at h1
  rw [hw, decodeL_words] at h1
  have hne : ((wordsL l).drop (wordsL r).length).isEmpty = false := by
    rw [List.isEmpty_eq_false_iff]
    intro he2
    have := congrArg List.length he2
    rw [List.length_drop, List.length_nil] at this
    omega
  rw [hne] at h1
  simp at h1

end Go.Proofs.YteagfdapkffncaaDoor.P
