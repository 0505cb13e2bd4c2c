/- What is proved: in plain Lean: the reference's Decode; journals that are joined or cut off decode to what they should; the laws' first call answers true. -/
import Derived.Test.YtaalmmnjehfimaaJb
set_option linter.unusedVariables false
set_option linter.unusedSimpArgs false
namespace Go.Proofs.Ytaalmmnjehfimaa.P
open Go.RowKit Go.Proofs.YtaalmmnjehfimaaW.PrintWords Go.Proofs.YtaalmmnjehfimaaW.PrintLast Go.Proofs.YtaalmmnjehfimaaW.PrintMore

theorem rd_stop (b : List UInt8) (hb : b.length ≤ 1000000) (acc : List (List Int)) (p : Nat) (hp : p ≤ b.length) (l : List Int) : Ev (fun k => privityref48_Decode.j1 k ⟨b.toArray⟩ acc (p : Int) l true) (acc, ((b.drop p).length : Int)) :=
  Ev.step (fun k => by simp only [privityref48_Decode.j1, if_true, sz]; rw [show wrap64 ((b.length : Int) - (p : Int)) = ((b.drop p).length : Int) from by rw [List.length_drop]; unfold wrap64; omega]) (Ev.now _)
theorem rd_short (b : List UInt8) (hb : b.length ≤ 1000000) (acc : List (List Int)) (p : Nat) (hp : p ≤ b.length) (h : b.length < p + 16) : Ev (fun k => privityref48_Decode.l0 k ⟨b.toArray⟩ acc (p : Int)) (acc, ((b.drop p).length : Int)) :=
  Ev.step (fun k => by simp only [privityref48_Decode.l0]; rw [if_neg (by rw [sz]; unfold wrap64; omega), sz, show wrap64 ((b.length : Int) - (p : Int)) = ((b.drop p).length : Int) from by rw [List.length_drop]; unfold wrap64; omega]) (Ev.now _)
theorem rd_go (b : List UInt8) (hb : b.length ≤ 1000000) (acc : List (List Int)) (p : Nat) (h : p + 16 ≤ b.length) (r : List (List Int) × Int)
    (hr : Ev (fun k => privityref48_Decode.j1 k ⟨b.toArray⟩ acc (p : Int) [(wn ((b.drop p).take 8) : Int)] (decide (¬ 16 + 8 * wn ((b.drop p).take 8) ≤ (b.drop p).length))) r) : Ev (fun k => privityref48_Decode.l0 k ⟨b.toArray⟩ acc (p : Int)) r := by
  have hw := wn8_lt ((b.drop p).take 8) (by rw [List.length_take]; omega)
  have d1 : dec 1 ((b.drop p).take 8) = [(wn ((b.drop p).take 8) : Int)] := by simp [dec, List.take_take]
  have e8 : wrap64 ((p : Int) + 8) = ((p + 8 : Nat) : Int) := by unfold wrap64; omega
  have e16 : wrap64 ((p : Int) + 16) = ((p + 16 : Nat) : Int) := by unfold wrap64; omega
  refine Ev.step (f := fun k => (privityref03_DecodeWords.f k ⟨((b.drop p).take 8).toArray⟩).bind fun bt262 => (if 0 < (bt262.1.length : Int) then (if (rd bt262.1 0) > (IntKind.u64.wrap ((b.length : Int))) then (privityref48_Decode.j1 k ⟨b.toArray⟩ acc (p : Int) bt262.1 true) else (privityref48_Decode.j1 k ⟨b.toArray⟩ acc (p : Int) bt262.1 (decide ((wrap64 (((p + 16 : Nat) : Int) + (wrap64 (8 * (wrap64 (rd bt262.1 0)))))) > (b.length : Int))))) else (none))) (fun k => by
    simp only [privityref48_Decode.l0, e8, e16]
    rw [if_pos (by rw [sz]; omega), if_pos (by omega), if_pos (by omega), if_pos (by rw [sz]; omega), ext_eq, Int.toNat_natCast, Int.toNat_natCast, show p + 8 - p = 8 from by omega, sz]) ?_
  refine Ev.bind (refDecWords 1 _ (by rw [List.length_take, List.length_drop]; omega) (by omega)) ?_
  rw [d1]
  generalize hn : wn ((b.drop p).take 8) = n at *
  rw [List.length_drop] at hr
  have rd0 : rd [(n : Int)] 0 = (n : Int) := rfl
  simp only [List.length_cons, List.length_nil, rd0, wrapU_nat b.length (by omega)]
  by_cases h2 : (n : Int) > (b.length : Int)
  · rw [decide_eq_true (by omega)] at hr
    exact Ev.congr (fun k => by rw [if_pos (by omega), if_pos h2]) hr
  · refine Ev.congr (fun k => ?_) hr
    rw [if_pos (by omega), if_neg h2]
    congr 1
    rw [show wrap64 (8 * wrap64 (n : Int)) = ((8 * n : Nat) : Int) from by unfold wrap64; omega, show wrap64 (((p + 16 : Nat) : Int) + ((8 * n : Nat) : Int)) = ((p + 16 + 8 * n : Nat) : Int) from by unfold wrap64; omega]
    rw [decide_eq_decide]; omega
theorem rd_one (b : List UInt8) (hb : b.length ≤ 1000000) (acc : List (List Int)) (ha : acc.length < 5864062014805) (p : Nat) (n : Nat) (h : 16 + 8 * n ≤ (b.drop p).length) (hp : p ≤ b.length) (r : List (List Int) × Int)
    (hr : Ev (fun k => if mk (dec n ((b.drop p).drop 8)) = (wn (((b.drop p).drop (8 + 8 * n)).take 8) : Int) then privityref48_Decode.l0 k ⟨b.toArray⟩ (acc ++ [dec n ((b.drop p).drop 8)]) ((p + (16 + 8 * n) : Nat) : Int) else some (acc, ((b.drop p).length : Int))) r) :
    Ev (fun k => privityref48_Decode.j1 k ⟨b.toArray⟩ acc (p : Int) [(n : Int)] false) r := by
  rw [List.length_drop] at h
  have rd0 : rd [(n : Int)] 0 = (n : Int) := rfl
  have e16 : wrap64 ((p : Int) + 16) = ((p + 16 : Nat) : Int) := by unfold wrap64; omega
  have e1 : wrap64 (8 * wrap64 (n : Int)) = ((8 * n : Nat) : Int) := by unfold wrap64; omega
  have e2 : wrap64 (((p + 16 : Nat) : Int) + ((8 * n : Nat) : Int)) = ((p + (16 + 8 * n) : Nat) : Int) := by unfold wrap64; omega
  have e3 : wrap64 ((b.length : Int) - (p : Int)) = ((b.drop p).length : Int) := by rw [List.length_drop]; unfold wrap64; omega
  refine Ev.step (f := fun k => (privityref03_DecodeWords.f k ⟨((b.drop p).take (16 + 8 * n)).toArray⟩).bind fun bt269 => (if 1 ≤ (wrap64 ((bt269.1.length : Int) - 1)) then (if (wrap64 ((bt269.1.length : Int) - 1)) ≤ (bt269.1.length : Int) then ((some ((bt269.1.take ((wrap64 ((bt269.1.length : Int) - 1)) : Int).toNat).drop 1 : List Int)).bind fun y273 => ((privityref48_mark.f k y273).bind fun t278 => (if 0 ≤ (wrap64 ((bt269.1.length : Int) - 1)) then (if (wrap64 ((bt269.1.length : Int) - 1)) < (bt269.1.length : Int) then (if t278 = (rd bt269.1 (wrap64 ((bt269.1.length : Int) - 1))) then (if acc.length < 5864062014805 then (privityref48_Decode.l0 k ⟨b.toArray⟩ (acc ++ [y273]) ((p + (16 + 8 * n) : Nat) : Int)) else (none)) else (some (acc, ((b.drop p).length : Int)))) else (none)) else (none)))) else none) else none)) (fun k => by
    simp only [privityref48_Decode.j1, Bool.false_eq_true, if_false, rd0, e16, e1, e2, sz, e3]
    rw [if_pos (by simp), if_pos (by omega), if_pos (by omega), if_pos (by omega), ext_eq, Int.toNat_natCast, Int.toNat_natCast, show p + (16 + 8 * n) - p = 16 + 8 * n from by omega]) ?_
  refine Ev.bind (refDecWords (n + 2) _ (by rw [List.length_take, List.length_drop]; omega) (by omega)) ?_
  have dl : dec (n + 2) ((b.drop p).take (16 + 8 * n)) = ((wn ((b.drop p).take 8) : Int) :: dec n ((b.drop p).drop 8)) ++ [(wn (((b.drop p).drop (8 + 8 * n)).take 8) : Int)] := by
    rw [dec_take _ _ _ (by omega), show n + 2 = (n + 1) + 1 from rfl, dec_add, dec, show 8 * (n + 1) = 8 + 8 * n from by omega]
  rw [dl]
  generalize hx : dec n ((b.drop p).drop 8) = row at *
  have lr : row.length = n := by rw [← hx, dec_length]
  generalize (wn ((b.drop p).take 8) : Int) = x0
  generalize (wn (((b.drop p).drop (8 + 8 * n)).take 8) : Int) = m at *
  have hlen : (((x0 :: row) ++ [m]).length : Int) = ((n + 2 : Nat) : Int) := by simp [lr]; omega
  have e4 : wrap64 (((n + 2 : Nat) : Int) - 1) = ((n + 1 : Nat) : Int) := by unfold wrap64; omega
  have ht : (((x0 :: row) ++ [m]).take (n + 1)).drop 1 = row := by rw [List.take_left' (by simp [lr])]; rfl
  have hd : rd ((x0 :: row) ++ [m]) ((n + 1 : Nat) : Int) = m := by
    rw [rd_nat _ (n + 1) (by simp [lr]), List.getElem_append_right (by simp [lr])]; simp [lr]
  simp only [hlen, e4, Int.toNat_natCast, ht, Option.bind_some, hd]
  refine Ev.congr (f := fun k => (privityref48_mark.f k row).bind fun t278 => if t278 = m then privityref48_Decode.l0 k ⟨b.toArray⟩ (acc ++ [row]) ((p + (16 + 8 * n) : Nat) : Int) else some (acc, ((b.drop p).length : Int))) (fun k => by
    rw [if_pos (by omega), if_pos (by omega)]
    congr 1; funext t
    rw [if_pos (by omega), if_pos (by omega), if_pos ha]) ?_
  exact Ev.bind (mark_ev row (by omega)) hr
theorem rdecode_ev (b : List UInt8) (hb : b.length ≤ 1000000) {c : List UInt8} {rows : List (List Int)} {rest : List UInt8} (h : Dec c rows rest) : ∀ (p : Nat) (acc : List (List Int)), b.drop p = c → p ≤ b.length → acc.length + c.length ≤ 2000000 →
    Ev (fun k => privityref48_Decode.l0 k ⟨b.toArray⟩ acc (p : Int)) (acc ++ rows, (rest.length : Int)) := by
  induction h with
  | @stop c ho =>
    intro p acc hc hp ha
    rw [List.append_nil, ← hc]
    have hlen : (b.drop p).length = b.length - p := List.length_drop
    by_cases h16 : b.length < p + 16
    · exact rd_short b hb acc p hp h16
    · refine rd_go b hb acc p (by omega) _ ?_
      by_cases hn : 16 + 8 * wn ((b.drop p).take 8) ≤ (b.drop p).length
      · rw [decide_eq_false (by simpa using hn)]
        refine rd_one b hb acc (by omega) p _ hn hp _ ?_
        rw [hc] at hn
        unfold one at ho
        rw [if_pos hn] at ho
        rw [hc]
        split at ho
        · cases ho
        · next h4 => exact Ev.congr (fun k => if_neg (fun e => h4 e.symm)) (Ev.now _)
      · rw [decide_eq_true hn]
        exact rd_stop b hb acc p hp _
  | @go c row rows rest ho hd ih =>
    intro p acc hc hp ha
    have hlen : (b.drop p).length = b.length - p := List.length_drop
    obtain ⟨h1, h2⟩ := one_le ho
    have hl1 : 16 + 8 * row.length ≤ b.length - p := by rw [← hlen, hc]; exact h2
    have hr : row = dec (wn (c.take 8)) (c.drop 8) ∧ (wn ((c.drop (8 + 8 * wn (c.take 8))).take 8) : Int) = mk (dec (wn (c.take 8)) (c.drop 8)) := by
      unfold one at ho
      split at ho
      · split at ho
        · next h4 => cases ho; exact ⟨rfl, h4⟩
        · cases ho
      · cases ho
    rw [h1] at h2
    refine rd_go b hb acc p (by rw [← hc] at h2; omega) _ ?_
    rw [decide_eq_false (by rw [hc]; omega)]
    refine rd_one b hb acc (by omega) p _ (by rw [hc]; exact h2) hp _ ?_
    refine Ev.congr (f := fun k => privityref48_Decode.l0 k ⟨b.toArray⟩ (acc ++ [row]) ((p + (16 + 8 * row.length) : Nat) : Int)) (fun k => by rw [hc, if_pos hr.2.symm, ← hr.1, ← h1]) ?_
    have := ih (p + (16 + 8 * row.length)) (acc ++ [row]) (by rw [← List.drop_drop, hc]) (by omega) (by rw [List.length_drop]; simp; omega)
    rwa [List.append_assoc] at this
theorem refDecode_ev {b : List UInt8} {rows : List (List Int)} {rest : List UInt8} (h : Dec b rows rest) (hb : b.length ≤ 1000000) : Ev (fun k => privityref48_Decode.f k ⟨b.toArray⟩) (rows, (rest.length : Int)) := by
  have := rdecode_ev b hb h 0 [] (List.drop_zero) (by omega) (by simp; omega)
  exact this

/-- Rows of moderate size, of words. -/
def Ok (rows : List (List Int)) : Prop := ∀ r ∈ rows, r.length ≤ 1000000 ∧ ∀ x ∈ r, U64 x
theorem rc_bytes (r : List Int) : Enc.enc (rc r) = Enc.upto (IntKind.u64.wrap (r.length : Int)) 8 ++ (Enc.enc r ++ Enc.upto (mk r) 8) := by
  unfold rc; rw [enc_cons, Enc.enc_append, Enc.enc_one]
theorem wn_len (r : List Int) (h : r.length ≤ 1000000) (c : List UInt8) : wn ((Enc.enc (rc r) ++ c).take 8) = r.length := by
  rw [rc_bytes, List.append_assoc, List.take_left' (Enc.upto_length _ _)]
  have := wn_upto _ (wrapU_u64 (r.length : Int))
  rw [wrapU_nat _ (by omega)] at this
  rw [wrapU_nat _ (by omega)]; omega
theorem one_enc (r : List Int) (h : r.length ≤ 1000000) (hu : ∀ x ∈ r, U64 x) (c : List UInt8) : one (Enc.enc (rc r) ++ c) = some r := by
  unfold one
  rw [wn_len r h c, if_pos (by rw [List.length_append, rec_length]; omega)]
  have h1 : (Enc.enc (rc r) ++ c).drop 8 = Enc.enc r ++ (Enc.upto (mk r) 8 ++ c) := by
    rw [rc_bytes, List.append_assoc, List.drop_left' (Enc.upto_length _ _), List.append_assoc]
  have h2 : ((Enc.enc (rc r) ++ c).drop (8 + 8 * r.length)).take 8 = Enc.upto (mk r) 8 := by
    rw [← List.drop_drop, h1, List.drop_left' (by rw [Enc.enc_length]), List.take_left' (Enc.upto_length _ _)]
  rw [h1, h2, dec_enc r _ hu, if_pos (wn_upto _ (mk_u64 r))]
theorem one_sound {b : List UInt8} {r : List Int} (h : one b = some r) : b = Enc.enc (rc r) ++ b.drop (16 + 8 * r.length) ∧ ∀ x ∈ r, U64 x := by
  obtain ⟨h1, h2⟩ := one_le h
  unfold one at h
  rw [← h1, if_pos h2] at h
  split at h
  · next h4 =>
    have hr : dec r.length (b.drop 8) = r := Option.some.inj h
    rw [hr] at h4
    refine ⟨?_, fun x hx => dec_u64 r.length (b.drop 8) x (by rw [hr]; exact hx)⟩
    have e1 : Enc.upto (IntKind.u64.wrap (r.length : Int)) 8 = b.take 8 := by
      have hw := wn8_lt (b.take 8) (by rw [List.length_take]; omega)
      rw [wrapU_nat _ (by omega), h1, upto_wn _ (by rw [List.length_take]; omega)]
    have e2 : Enc.enc r = (b.drop 8).take (8 * r.length) := by
      have := enc_dec r.length (b.drop 8) (by rw [List.length_drop]; omega)
      rwa [hr] at this
    have e3 : Enc.upto (mk r) 8 = (b.drop (8 + 8 * r.length)).take 8 := by
      rw [← h4, upto_wn _ (by rw [List.length_take, List.length_drop]; omega)]
    rw [rc_bytes, e1, e2, e3]
    conv => lhs; rw [← List.take_append_drop (16 + 8 * r.length) b]
    congr 1
    rw [show 16 + 8 * r.length = 8 + (8 * r.length + 8) from by omega, List.take_add, List.take_add, List.drop_drop]
  · cases h
theorem Dec.app {rows : List (List Int)} (hr : Ok rows) {c : List UInt8} {rs : List (List Int)} {rest : List UInt8} (h : Dec c rs rest) : Dec (EJ rows ++ c) (rows ++ rs) rest := by
  induction rows with
  | nil => exact h
  | cons r rows ih =>
    obtain ⟨h1, h2⟩ := hr r (List.mem_cons_self ..)
    rw [EJ_cons, List.append_assoc, List.cons_append]
    refine .go (one_enc r h1 h2 _) ?_
    rw [List.drop_left' (rec_length r)]
    exact ih (fun x hx => hr x (List.mem_cons_of_mem _ hx))
theorem Dec.sound {b : List UInt8} {rows : List (List Int)} {rest : List UInt8} (h : Dec b rows rest) : b = EJ rows ++ rest ∧ ∀ r ∈ rows, ∀ x ∈ r, U64 x := by
  induction h with
  | stop _ => exact ⟨rfl, fun r h => (by cases h)⟩
  | @go b row rows rest ho _ ih =>
    obtain ⟨e, hu⟩ := one_sound ho
    refine ⟨?_, fun r hr => ?_⟩
    · rw [EJ_cons, List.append_assoc, ← ih.1]; exact e
    · rcases List.mem_cons.1 hr with rfl | hr
      · exact hu
      · exact ih.2 r hr
theorem one_short {b : List UInt8} (h : b.length < 16) : one b = none := by unfold one; rw [if_neg (by omega)]
theorem Dec.short {b : List UInt8} (h : b.length < 16) : Dec b [] b := .stop (one_short h)
theorem one_cut (r : List Int) (h : r.length ≤ 1000000) (c : List UInt8) (n : Nat) (hn : n < 16 + 8 * r.length) : one ((Enc.enc (rc r) ++ c).take n) = none := by
  by_cases h8 : n < 16
  · exact one_short (by rw [List.length_take]; omega)
  · unfold one
    rw [List.take_take, Nat.min_eq_left (by omega), wn_len r h c, if_neg (by rw [List.length_take]; omega)]
theorem EJ_split (rows : List (List Int)) (i : Nat) : EJ rows = EJ (rows.take i) ++ EJ (rows.drop i) := by rw [← EJ_append, List.take_append_drop]
/-- A journal that was cut off. -/
theorem Dec.cut {rows : List (List Int)} (hr : Ok rows) (n i : Nat) (hi : i ≤ rows.length) (h1 : (EJ (rows.take i)).length ≤ n) (h2 : i < rows.length → n < (EJ (rows.take (i + 1))).length) :
    Dec ((EJ rows).take n) (rows.take i) (((EJ rows).take n).drop (EJ (rows.take i)).length) := by
  have e : (EJ rows).take n = EJ (rows.take i) ++ (EJ (rows.drop i)).take (n - (EJ (rows.take i)).length) := by
    conv => lhs; rw [EJ_split rows i]
    rw [List.take_append, List.take_of_length_le h1]
  rw [e, List.drop_left' rfl]
  have : rows.take i = rows.take i ++ [] := (List.append_nil _).symm
  conv => arg 2; rw [this]
  refine Dec.app (fun r h => hr r (List.mem_of_mem_take h)) (.stop ?_)
  by_cases hlt : i < rows.length
  · rw [List.drop_eq_getElem_cons hlt, EJ_cons]
    have h3 := h2 hlt
    rw [List.take_succ_eq_append_getElem hlt, EJ_append, List.length_append, show EJ [rows[i]] = Enc.enc (rc rows[i]) from by simp [EJ], rec_length] at h3
    exact one_cut _ (hr _ (List.getElem_mem hlt)).1 _ _ (by omega)
  · rw [List.drop_of_length_le (by omega)]
    exact one_short (by rw [EJ_nil]; simp)
theorem cut_at (rows : List (List Int)) (n : Nat) (d : Nat) : ∀ j, rows.length - j = d → j ≤ rows.length → (EJ (rows.take j)).length ≤ n → ∃ i, j ≤ i ∧ i ≤ rows.length ∧ (EJ (rows.take i)).length ≤ n ∧ (i < rows.length → n < (EJ (rows.take (i + 1))).length) := by
  induction d with
  | zero => intro j hd hj h; exact ⟨j, Nat.le_refl _, hj, h, fun h => by omega⟩
  | succ d ih =>
    intro j hd hj h
    by_cases h2 : (EJ (rows.take (j + 1))).length ≤ n
    · obtain ⟨i, a, b, c, e⟩ := ih (j + 1) (by omega) (by omega) h2
      exact ⟨i, by omega, b, c, e⟩
    · exact ⟨j, Nat.le_refl _, hj, h, fun _ => by omega⟩
theorem Dec.all {rows : List (List Int)} (hr : Ok rows) : Dec (EJ rows) rows [] := by
  have := Dec.app hr (Dec.short (b := []) (by simp))
  rwa [List.append_nil, List.append_nil] at this
theorem EJ_inj {a b : List (List Int)} (ha : Ok a) (hb : Ok b) (h : EJ a = EJ b) : a = b := by
  have h1 := Dec.all ha
  rw [h] at h1
  exact (Dec.one_eq h1 (Dec.all hb)).1

theorem sameLoop (a b : List Int) (hab : a.length = b.length) (hl : a.length ≤ 9223372036854775807) (d : Nat) : ∀ (i : Nat), a.length - i = d → i ≤ a.length → Ev (fun k => privityref05_Same.l0 k a b (i : Int)) (decide (a.drop i = b.drop i)) := by
  induction d with
  | zero =>
    intro i hd hi
    refine Ev.step (fun k => by simp only [privityref05_Same.l0]; rw [if_neg (by omega)]) ?_
    rw [List.drop_of_length_le (by omega), List.drop_of_length_le (by omega)]
    exact Ev.now _
  | succ d ih =>
    intro i hd hi
    have hlt : i < a.length := by omega
    have hlt' : i < b.length := by omega
    rw [List.drop_eq_getElem_cons hlt, List.drop_eq_getElem_cons hlt']
    by_cases he : a[i] = b[i]
    · refine Ev.step (fun k => by simp only [privityref05_Same.l0]; rw [if_pos (by omega), if_pos (by omega), if_pos (by omega), rd_nat _ _ hlt, rd_nat _ _ hlt', if_pos he, wrap_nat hlt hl]) ?_
      have := ih (i + 1) (by omega) (by omega)
      rw [show decide (a[i] :: a.drop (i + 1) = b[i] :: b.drop (i + 1)) = decide (a.drop (i + 1) = b.drop (i + 1)) from by rw [he]; exact decide_eq_decide.2 ⟨fun h => (List.cons.inj h).2, fun h => by rw [h]⟩]
      exact this
    · refine Ev.step (fun k => by simp only [privityref05_Same.l0]; rw [if_pos (by omega), if_pos (by omega), if_pos (by omega), rd_nat _ _ hlt, rd_nat _ _ hlt', if_neg he]) ?_
      rw [show decide (a[i] :: a.drop (i + 1) = b[i] :: b.drop (i + 1)) = false from decide_eq_false fun h => he (List.cons.inj h).1]
      exact Ev.now _
theorem refSame (a b : List Int) (hl : a.length ≤ 9223372036854775807) : Ev (fun k => privityref05_Same.f k a b) (decide (a = b)) := by
  unfold privityref05_Same.f
  by_cases h : a.length = b.length
  · simp only [h, if_true]
    have := sameLoop a b h hl a.length 0 (by omega) (by omega)
    simpa using this
  · have hne : a ≠ b := fun e => h (by rw [e])
    have h' : ¬ ((a.length : Int) = (b.length : Int)) := by omega
    simp only [h', if_false, hne, decide_false]
    exact Ev.now _

theorem rowsLoop (a b : List (List Int)) (hab : a.length = b.length) (hl : a.length ≤ 9223372036854775807) (hr : ∀ r ∈ a, r.length ≤ 9223372036854775807) (d : Nat) : ∀ (i : Nat), a.length - i = d → i ≤ a.length → Ev (fun k => privityref05_SameRows.l0 k a b (i : Int)) (decide (a.drop i = b.drop i)) := by
  induction d with
  | zero =>
    intro i hd hi
    refine Ev.step (fun k => by simp only [privityref05_SameRows.l0]; rw [if_neg (by omega)]) ?_
    rw [List.drop_of_length_le (by omega), List.drop_of_length_le (by omega)]
    exact Ev.now _
  | succ d ih =>
    intro i hd hi
    have h1 : i < a.length := by omega
    have h2 : i < b.length := by omega
    refine Ev.step (fun k => by
      simp only [privityref05_SameRows.l0]
      rw [if_pos (by omega), if_pos (by omega), if_pos (by omega), rdL1 a i h1, rdL1 b i h2, wrap_nat h1 hl]) ?_
    refine Ev.bind (refSame a[i] b[i] (hr _ (List.getElem_mem h1))) ?_
    rw [List.drop_eq_getElem_cons h1, List.drop_eq_getElem_cons h2]
    by_cases he : a[i] = b[i]
    · simp only [he, decide_true, if_true, List.cons.injEq, true_and]
      exact ih (i + 1) (by omega) (by omega)
    · simp only [he, decide_false, Bool.false_eq_true, if_false, List.cons.injEq, false_and]
      exact Ev.now _
theorem same_ev (a b : List (List Int)) (hl : a.length ≤ 9223372036854775807) (hr : ∀ r ∈ a, r.length ≤ 9223372036854775807) : Ev (fun k => privityref48_Same.f k a b) (decide (a = b)) := by
  unfold privityref48_Same.f
  refine Ev.bind (a := decide (a = b)) ?_ (Ev.now _)
  unfold privityref05_SameRows.f
  by_cases h : a.length = b.length
  · have h' : (a.length : Int) = (b.length : Int) := by omega
    simp only [h', if_true]
    have := rowsLoop a b h hl hr a.length 0 (by omega) (by omega)
    rw [List.drop_zero, List.drop_zero] at this
    exact this
  · have hne : a ≠ b := fun e => h (by rw [e])
    have h' : ¬ ((a.length : Int) = (b.length : Int)) := by omega
    simp only [h', if_false, hne, decide_false]
    exact Ev.now _

/-- Rows as an argument has them. -/
def Arg (rows : List (List Int)) : Prop := rows.length ≤ 140737488351232 ∧ ∀ r ∈ rows, r.length ≤ 140737488351232 ∧ ∀ x ∈ r, U64 x
theorem Arg.ok {rows : List (List Int)} (h : Arg rows) (hs : (EJ rows).length ≤ 1000000) : Ok rows := fun r hr => ⟨by have := EJ_row r hr; omega, (h.2 r hr).2⟩
theorem tot_step (E n M : Nat) (hM : M ≤ 100000) (hE : E ≤ M) (hn : n ≤ 140737488351232) : wrap64 (wrap64 ((E : Int) + 16) + wrap64 (8 * (n : Int))) = ((E + (16 + 8 * n) : Nat) : Int) := by
  rw [show wrap64 ((E : Int) + 16) = (E : Int) + 16 from by unfold wrap64; omega, show wrap64 (8 * (n : Int)) = 8 * (n : Int) from by unfold wrap64; omega]
  unfold wrap64; omega
theorem EJ_take_succ (rows : List (List Int)) (i : Nat) (hlt : i < rows.length) : (EJ (rows.take (i + 1))).length = (EJ (rows.take i)).length + (16 + 8 * rows[i].length) := by
  rw [List.take_succ_eq_append_getElem hlt, EJ_append, List.length_append, show EJ [rows[i]] = Enc.enc (rc rows[i]) from by simp [EJ], rec_length]
theorem totLoop (rows : List (List Int)) (ha : Arg rows) (M : Nat) (hM : M ≤ 100000) (d : Nat) : ∀ (i : Nat), rows.length - i = d → i ≤ rows.length →
    ∃ t : Nat, Ev (fun k => privityref48_Total.l0 k rows (M : Int) ((EJ (rows.take i)).length : Int) (i : Int)) (t : Int) ∧ (t = (EJ rows).length ∨ M < t ∧ M < (EJ rows).length) := by
  have h4 : rows.length ≤ 9223372036854775807 := Nat.le_trans ha.1 (by decide)
  induction d with
  | zero =>
    intro i hd hi
    have hn : ¬ (i : Int) < (rows.length : Int) := by omega
    refine ⟨(EJ (rows.take i)).length, Ev.step (fun k => by simp only [privityref48_Total.l0]; rw [if_neg hn]) (Ev.now _), .inl ?_⟩
    rw [List.take_of_length_le (by omega)]
  | succ d ih =>
    intro i hd hi
    have hlt : i < rows.length := by omega
    have p1 : (i : Int) < (rows.length : Int) := by omega
    have p3 : (0 : Int) ≤ (i : Int) := by omega
    have hr := ih (i + 1) (by omega) (by omega)
    rw [EJ_take_succ rows i hlt] at hr
    have h2 := EJ_take rows i
    have h3 := (ha.2 _ (List.getElem_mem hlt)).1
    by_cases hM2 : (EJ (rows.take i)).length ≤ M
    · obtain ⟨t, ht, h⟩ := hr
      have p2 : ((EJ (rows.take i)).length : Int) ≤ (M : Int) := Int.ofNat_le.2 hM2
      refine ⟨t, Ev.step (fun k => ?_) ht, h⟩
      simp only [privityref48_Total.l0]
      rw [if_pos p1, if_pos p2, if_pos p3, rdL1 rows i hlt, wrap_nat hlt h4, tot_step _ _ M hM hM2 h3]
    · have p2 : ¬ ((EJ (rows.take i)).length : Int) ≤ (M : Int) := fun h => hM2 (Int.ofNat_le.1 h)
      exact ⟨(EJ (rows.take i)).length, Ev.step (fun k => by simp only [privityref48_Total.l0]; rw [if_pos p1, if_neg p2]) (Ev.now _), .inr ⟨Nat.lt_of_not_le hM2, Nat.lt_of_lt_of_le (Nat.lt_of_not_le hM2) h2⟩⟩
theorem total_ev (rows : List (List Int)) (ha : Arg rows) (M : Nat) (hM : M ≤ 100000) : ∃ t : Nat, Ev (fun k => privityref48_Total.f k rows (M : Int)) (t : Int) ∧ (t = (EJ rows).length ∨ M < t ∧ M < (EJ rows).length) := by
  obtain ⟨t, ht, h⟩ := totLoop rows ha M hM rows.length 0 (by omega) (by omega)
  exact ⟨t, ht, h⟩
theorem encWords_f (l : List Int) (h : l.length ≤ 1000000) : codec_EncodeWords.f l = some ⟨(Enc.enc l).toArray⟩ := by
  unfold codec_EncodeWords.f
  rw [gate_eq, if_pos (by rw [decide_eq_true_eq]; omega)]
end Go.Proofs.Ytaalmmnjehfimaa.P
