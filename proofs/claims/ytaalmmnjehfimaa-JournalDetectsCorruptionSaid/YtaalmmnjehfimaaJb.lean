/- What is proved: in plain Lean: what a journal's Append, Encode and Decode return, and the reference's, for journals of moderate size. -/
import Derived.Test.YtaalmmnjehfimaaJa
import Derived.Test.YtaalmmnjehfimaaPx6
import Derived.Test.YtaalmmnjehfimaaPx3
import Derived.Test.YtaalmmnjehfimaaPx20
import Derived.Test.YtaalmmnjehfimaaPx17
import Derived.Test.YtaalmmnjehfimaaPx9
import Derived.Test.YtaalmmnjehfimaaPx11
set_option linter.unusedVariables false
set_option linter.unusedSimpArgs false
namespace Go.Proofs.Ytaalmmnjehfimaa.P
open Go.RowKit Go.Proofs.YtaalmmnjehfimaaW.PrintWords Go.Proofs.YtaalmmnjehfimaaW.PrintLast Go.Proofs.YtaalmmnjehfimaaW.PrintMore

/-- The checksum, one word on. -/
def stp (m w : Int) : Int := IntKind.u64.wrap ((IntKind.u64.wrap ((IntKind.u64.wrap (m * 6364136223846793005)) + w)) + 1)
/-- The checksum of a row. -/
def mk (l : List Int) : Int := l.foldl stp (IntKind.u64.wrap (l.length : Int))
theorem stp_u64 (m w : Int) : U64 (stp m w) := wrapU_u64 _
theorem foldl_u64 (l : List Int) : ∀ m, U64 m → U64 (l.foldl stp m) := by
  induction l with
  | nil => intro m h; exact h
  | cons x l ih => intro m _; exact ih _ (stp_u64 m x)
theorem mk_u64 (l : List Int) : U64 (mk l) := foldl_u64 l _ (wrapU_u64 _)

theorem ofLoop (l : List Int) (hl : l.length ≤ 9223372036854775807) (d : Nat) : ∀ (i : Nat) (m : Int), l.length - i = d → i ≤ l.length → Ev (fun k => journal_of.l0 k m l (l.length : Int) (i : Int)) ((l.drop i).foldl stp m) := by
  induction d with
  | zero =>
    intro i m hd hi
    refine Ev.step (fun k => by simp only [journal_of.l0]; rw [if_neg (by omega)]) ?_
    rw [List.drop_of_length_le (by omega)]; exact Ev.now _
  | succ d ih =>
    intro i m hd hi
    have hlt : i < l.length := by omega
    refine Ev.step (fun k => by
      simp only [journal_of.l0, journal_mark_with.f, Option.bind_some]
      rw [if_pos (by omega), if_pos (by omega), if_pos (by omega), rd_nat l i hlt, wrap_nat hlt hl]) ?_
    rw [List.drop_eq_getElem_cons hlt, List.foldl_cons]
    exact ih (i + 1) _ (by omega) (by omega)
theorem of_ev (l : List Int) (hl : l.length ≤ 9223372036854775807) : Ev (fun k => journal_of.f k l) (mk l) := by
  have := ofLoop l hl l.length 0 (IntKind.u64.wrap (l.length : Int)) (by omega) (by omega)
  rw [List.drop_zero] at this
  exact this
theorem rmLoop (l : List Int) (hl : l.length ≤ 9223372036854775807) (d : Nat) : ∀ (i : Nat) (m : Int), l.length - i = d → i ≤ l.length → Ev (fun k => privityref48_mark.l0 k l m (i : Int)) ((l.drop i).foldl stp m) := by
  induction d with
  | zero =>
    intro i m hd hi
    refine Ev.step (fun k => by simp only [privityref48_mark.l0]; rw [if_neg (by omega)]) ?_
    rw [List.drop_of_length_le (by omega)]; exact Ev.now _
  | succ d ih =>
    intro i m hd hi
    have hlt : i < l.length := by omega
    refine Ev.step (fun k => by
      simp only [privityref48_mark.l0]
      rw [if_pos (by omega), if_pos (by omega), rd_nat l i hlt, wrap_nat hlt hl]) ?_
    rw [List.drop_eq_getElem_cons hlt, List.foldl_cons]
    exact ih (i + 1) _ (by omega) (by omega)
theorem mark_ev (l : List Int) (hl : l.length ≤ 9223372036854775807) : Ev (fun k => privityref48_mark.f k l) (mk l) := by
  have := rmLoop l hl l.length 0 (IntKind.u64.wrap (l.length : Int)) (by omega) (by omega)
  rw [List.drop_zero] at this
  exact this

/-- The words of a row's record. -/
def rc (l : List Int) : List Int := IntKind.u64.wrap (l.length : Int) :: (l ++ [mk l])
theorem rc_length (l : List Int) : (rc l).length = l.length + 2 := by simp [rc]
/-- The bytes of rows. -/
def EJ (rows : List (List Int)) : List UInt8 := rows.flatMap fun r => Enc.enc (rc r)
theorem EJ_nil : EJ [] = [] := rfl
theorem EJ_cons (r : List Int) (rows : List (List Int)) : EJ (r :: rows) = Enc.enc (rc r) ++ EJ rows := by simp [EJ]
theorem EJ_append (a b : List (List Int)) : EJ (a ++ b) = EJ a ++ EJ b := by simp [EJ]
theorem rec_length (r : List Int) : (Enc.enc (rc r)).length = 16 + 8 * r.length := by rw [Enc.enc_length, rc_length]; omega
theorem EJ_row {rows : List (List Int)} : ∀ r ∈ rows, 16 + 8 * r.length ≤ (EJ rows).length := by
  induction rows with
  | nil => intro r h; cases h
  | cons x rows ih =>
    intro r h
    rw [EJ_cons, List.length_append, rec_length]
    rcases List.mem_cons.1 h with rfl | h
    · omega
    · have := ih r h; omega
theorem EJ_rows (rows : List (List Int)) : 16 * rows.length ≤ (EJ rows).length := by
  induction rows with
  | nil => simp
  | cons x rows ih => rw [EJ_cons, List.length_append, rec_length, List.length_cons]; omega

theorem bytes_ev (l : List Int) (h : l.length ≤ 1000000) : Ev (fun k => journal_bytes.f k l) ⟨(Enc.enc (rc l)).toArray⟩ := by
  unfold journal_bytes.f
  simp only [Option.bind_some]
  rw [show (fun k => if ([IntKind.u64.wrap (l.length : Int)] : List Int).length + l.length < 17592186044416 then (journal_of.f k l).bind fun t109 => if ([IntKind.u64.wrap (l.length : Int)] ++ l).length < 17592186044416 then (codec_EncodeWords.f ([IntKind.u64.wrap (l.length : Int)] ++ l ++ [t109])).bind fun t113 => some t113 else none else none) = fun k => (journal_of.f k l).bind fun t109 => if ([IntKind.u64.wrap (l.length : Int)] ++ l).length < 17592186044416 then (codec_EncodeWords.f ([IntKind.u64.wrap (l.length : Int)] ++ l ++ [t109])).bind fun t113 => some t113 else none from by funext k; rw [if_pos (by simp; omega)]]
  refine Ev.bind (of_ev l (by omega)) ?_
  rw [if_pos (by simp; omega)]
  unfold codec_EncodeWords.f
  rw [gate_eq, if_pos (by rw [decide_eq_true_eq]; simp; omega)]
  exact Ev.now _
theorem app_eq (a b : List UInt8) : (ByteArray.mk a.toArray) ++ (ByteArray.mk b.toArray) = ByteArray.mk (a ++ b).toArray := by
  apply ByteArray.ext; simp
theorem append_ev (a : List UInt8) (l : List Int) (h : l.length ≤ 1000000) (ha : a.length ≤ 9223372036800000000) : Ev (fun k => journal_Append.f k ⟨a.toArray⟩ l) ⟨(a ++ Enc.enc (rc l)).toArray⟩ := by
  unfold journal_Append.f
  refine Ev.bind (bytes_ev l h) ?_
  rw [if_pos (by rw [sz, sz, rec_length]; omega), app_eq]
  exact Ev.now _
theorem rdL1 (rows : List (List Int)) (i : Nat) (h : i < rows.length) : rd_L1 rows (i : Int) = rows[i] := by simp [rd_L1, h]
theorem EJ_take (rows : List (List Int)) (i : Nat) : (EJ (rows.take i)).length ≤ (EJ rows).length := by
  have : EJ rows = EJ (rows.take i) ++ EJ (rows.drop i) := by rw [← EJ_append, List.take_append_drop]
  rw [this, List.length_append]; omega
theorem encLoop (rows : List (List Int)) (hs : (EJ rows).length ≤ 1000000) (d : Nat) : ∀ i, rows.length - i = d → i ≤ rows.length → Ev (fun k => journal_Encode.l0 k ⟨(EJ (rows.take i)).toArray⟩ rows (rows.length : Int) (i : Int)) ⟨(EJ rows).toArray⟩ := by
  have hr := EJ_rows rows
  induction d with
  | zero =>
    intro i hd hi
    refine Ev.step (fun k => by simp only [journal_Encode.l0]; rw [if_neg (by omega)]) ?_
    rw [List.take_of_length_le (by omega)]; exact Ev.now _
  | succ d ih =>
    intro i hd hi
    have hlt : i < rows.length := by omega
    refine Ev.step (fun k => by
      simp only [journal_Encode.l0]
      rw [if_pos (by omega), if_pos (by omega), if_pos (by omega), rdL1 rows i hlt, wrap_nat hlt (by omega)]) ?_
    have h1 := EJ_row rows[i] (List.getElem_mem hlt)
    have h2 := EJ_take rows i
    refine Ev.bind (append_ev _ _ (by omega) (by omega)) ?_
    have := ih (i + 1) (by omega) (by omega)
    rw [List.take_succ_eq_append_getElem hlt, EJ_append, show EJ [rows[i]] = Enc.enc (rc rows[i]) from by simp [EJ]] at this
    exact this
theorem encode_ev (rows : List (List Int)) (hs : (EJ rows).length ≤ 1000000) : Ev (fun k => journal_Encode.f k rows) ⟨(EJ rows).toArray⟩ := by
  have := encLoop rows hs rows.length 0 (by omega) (by omega)
  exact this

theorem one_ev (l : List Int) (h : l.length ≤ 1000000) : Ev (fun k => privityref48_One.f k l) ⟨(Enc.enc (rc l)).toArray⟩ := by
  unfold privityref48_One.f
  simp only [Option.bind_some]
  refine Ev.congr (f := fun k => (privityref48_mark.f k l).bind fun t241 => if ([IntKind.u64.wrap (l.length : Int)] ++ l).length < 17592186044416 then (privityref03_EncodeWords.f k ([IntKind.u64.wrap (l.length : Int)] ++ l ++ [t241])).bind fun t245 => some t245 else none) (fun k => by rw [if_pos (by simp; omega)]) ?_
  refine Ev.bind (mark_ev l (by omega)) ?_
  refine Ev.congr (f := fun k => (privityref03_EncodeWords.f k (rc l)).bind fun t245 => some t245) (fun k => by rw [if_pos (by simp; omega)]; rfl) ?_
  refine Ev.bind (refWords _ (by rw [rc_length]; omega)) ?_
  exact Ev.now _
theorem rencLoop (rows : List (List Int)) (hs : (EJ rows).length ≤ 1000000) (d : Nat) : ∀ i, rows.length - i = d → i ≤ rows.length → Ev (fun k => privityref48_Encode.l0 k rows ⟨(EJ (rows.take i)).toArray⟩ (i : Int)) ⟨(EJ rows).toArray⟩ := by
  have hr := EJ_rows rows
  induction d with
  | zero =>
    intro i hd hi
    refine Ev.step (fun k => by simp only [privityref48_Encode.l0]; rw [if_neg (by omega)]) ?_
    rw [List.take_of_length_le (by omega)]; exact Ev.now _
  | succ d ih =>
    intro i hd hi
    have hlt : i < rows.length := by omega
    have h1 := EJ_row rows[i] (List.getElem_mem hlt)
    have h2 := EJ_take rows i
    refine Ev.step (fun k => by
      simp only [privityref48_Encode.l0]
      rw [if_pos (by omega), if_pos (by omega), rdL1 rows i hlt, wrap_nat hlt (by omega)]) ?_
    refine Ev.bind (one_ev _ (by omega)) ?_
    refine Ev.congr (f := fun k => privityref48_Encode.l0 k rows ⟨(EJ (rows.take i) ++ Enc.enc (rc rows[i])).toArray⟩ ((i + 1 : Nat) : Int)) (fun k => by rw [if_pos (by rw [sz, sz, rec_length]; omega), app_eq]) ?_
    have := ih (i + 1) (by omega) (by omega)
    rw [List.take_succ_eq_append_getElem hlt, EJ_append, show EJ [rows[i]] = Enc.enc (rc rows[i]) from by simp [EJ]] at this
    exact this
theorem rencode_ev (rows : List (List Int)) (hs : (EJ rows).length ≤ 1000000) : Ev (fun k => privityref48_Encode.f k rows) ⟨(EJ rows).toArray⟩ := by
  have := rencLoop rows hs rows.length 0 (by omega) (by omega)
  exact this

/-- The first record's row, if the bytes begin with a whole one. -/
def one (b : List UInt8) : Option (List Int) :=
  if 16 + 8 * wn (b.take 8) ≤ b.length then
    if (wn ((b.drop (8 + 8 * wn (b.take 8))).take 8) : Int) = mk (dec (wn (b.take 8)) (b.drop 8)) then some (dec (wn (b.take 8)) (b.drop 8)) else none
  else none
theorem dec_add (n : Nat) : ∀ l : List UInt8, dec (n + 1) l = dec n l ++ [(wn ((l.drop (8 * n)).take 8) : Int)] := by
  induction n with
  | zero => intro l; simp [dec]
  | succ n ih => intro l; rw [dec, ih, dec, List.cons_append, List.drop_drop, show 8 + 8 * n = 8 * (n + 1) from by omega]

theorem j0_none (b : List UInt8) (l : List Int) : Ev (fun k => journal_first.j0 k ⟨b.toArray⟩ l true) (([] : List Int), (0 : Int), false) :=
  Ev.step (fun k => by simp only [journal_first.j0, if_true]) (Ev.now _)
theorem first_ev (b : List UInt8) (hb : b.length ≤ 1000000) : ∃ r n, Ev (fun k => journal_first.f k ⟨b.toArray⟩) (r, n, (one b).isSome) ∧ ∀ row, one b = some row → r = row ∧ n = ((16 + 8 * row.length : Nat) : Int) := by
  have hw := wn8_lt (b.take 8) (by rw [List.length_take]; omega)
  have hone : ¬ 16 + 8 * wn (b.take 8) ≤ b.length → one b = none := fun h => by unfold one; rw [if_neg h]
  by_cases h8 : b.length < 8
  · refine ⟨[], 0, ?_, fun row h => ?_⟩
    · rw [hone (by omega)]
      refine Ev.congr (fun k => by simp only [journal_first.f]; rw [if_pos (by rw [sz]; omega)]; rfl) (Ev.now _)
    · rw [hone (by omega)] at h; cases h
  · have d1 : dec 1 (b.take 8) = [(wn (b.take 8) : Int)] := by simp [dec, List.take_take]
    have key : ∀ r : List Int × Int × Bool, Ev (fun k => journal_first.j0 k ⟨b.toArray⟩ [(wn (b.take 8) : Int)] (decide ((wn (b.take 8) : Int) > ((b.length / 8 : Nat) : Int)))) r → Ev (fun k => journal_first.f k ⟨b.toArray⟩) r := by
      intro r h
      refine Ev.congr (f := fun k => (codec_DecodeWords.f k ⟨(b.take 8).toArray⟩).bind fun bt120 => if bt120.2 = 0 then (if 0 < (bt120.1.length : Int) then (journal_first.j0 k ⟨b.toArray⟩ bt120.1 (decide ((rd bt120.1 0) > (IntKind.u64.wrap (wrap64 (((ByteArray.mk b.toArray).size : Int) / 8)))))) else none) else (journal_first.j0 k ⟨b.toArray⟩ bt120.1 true)) (fun k => by
        simp only [journal_first.f]
        rw [if_neg (by rw [sz]; omega), if_pos (by omega), if_pos (by rw [sz]; omega), ext_eq, List.drop_zero]) ?_
      refine Ev.bind (decWords 1 (b.take 8) (by rw [List.length_take]; omega) (by omega)) ?_
      rw [d1]
      simp only [if_true]
      refine Ev.congr (f := fun k => journal_first.j0 k ⟨b.toArray⟩ [(wn (b.take 8) : Int)] (decide ((wn (b.take 8) : Int) > ((b.length / 8 : Nat) : Int)))) (fun k => by
        rw [if_pos (by simp), sz, show wrap64 ((b.length : Int) / 8) = ((b.length / 8 : Nat) : Int) from by unfold wrap64; omega, wrapU_nat _ (by omega)]
        rfl) h
    by_cases h2 : (wn (b.take 8) : Int) > ((b.length / 8 : Nat) : Int)
    · rw [decide_eq_true h2] at key
      refine ⟨[], 0, ?_, fun row h => ?_⟩
      · rw [hone (by omega)]; exact key _ (j0_none b _)
      · rw [hone (by omega)] at h; cases h
    · rw [decide_eq_false h2] at key
      generalize hn : wn (b.take 8) = n at *
      have rd0 : rd [(n : Int)] 0 = (n : Int) := rfl
      have w1 : wrap64 ((wrap64 ((wrap64 (n : Int)) + 2)) * 8) = ((16 + 8 * n : Nat) : Int) := by unfold wrap64; omega
      by_cases h3 : 16 + 8 * n ≤ b.length
      · have dl : dec (n + 1) ((b.drop 8).take (8 * (n + 1))) = dec n (b.drop 8) ++ [(wn ((b.drop (8 + 8 * n)).take 8) : Int)] := by
          rw [dec_take _ _ _ (by omega), dec_add, List.drop_drop]
        have ln := dec_length n (b.drop 8)
        have go : Ev (fun k => journal_first.j0 k ⟨b.toArray⟩ [(n : Int)] false) (dec n (b.drop 8), ((16 + 8 * n : Nat) : Int), ((wn ((b.drop (8 + 8 * n)).take 8) : Int) == mk (dec n (b.drop 8)))) := by
          refine Ev.step (f := fun k => (codec_DecodeWords.f k ⟨((b.drop 8).take (8 * (n + 1))).toArray⟩).bind fun bt126 => if bt126.2 = 0 then (if 0 ≤ (n : Int) then (if (n : Int) ≤ (bt126.1.length : Int) then ((some (bt126.1.take ((n : Int) : Int).toNat : List Int)).bind fun y132 => (if (n : Int) < (bt126.1.length : Int) then ((journal_of.f k y132).bind fun t139 => (some (y132, ((16 + 8 * n : Nat) : Int), ((rd bt126.1 (n : Int)) == t139)))) else none)) else none) else none) else some (([] : List Int), 0, false)) (fun k => by
            simp only [journal_first.j0, Bool.false_eq_true, if_false, rd0, w1]
            rw [if_pos (by simp), if_neg (by rw [sz]; omega), if_pos (by omega), if_pos (by rw [sz]; omega), ext_eq, Int.toNat_natCast, show 16 + 8 * n - 8 = 8 * (n + 1) from by omega]) ?_
          refine Ev.bind (decWords (n + 1) _ (by rw [List.length_take, List.length_drop]; omega) (by omega)) ?_
          rw [dl]
          have hlen : ((dec n (b.drop 8) ++ [(wn ((b.drop (8 + 8 * n)).take 8) : Int)]).length : Int) = (n : Int) + 1 := by rw [List.length_append, ln]; simp
          simp only [if_true, hlen, Option.bind_some]
          refine Ev.congr (f := fun k => (journal_of.f k (dec n (b.drop 8))).bind fun t139 => (some (dec n (b.drop 8), ((16 + 8 * n : Nat) : Int), ((wn ((b.drop (8 + 8 * n)).take 8) : Int) == t139)))) (fun k => by
            rw [if_pos (by omega), if_pos (by omega), if_pos (by omega), Int.toNat_natCast, List.take_left' ln, rd_nat _ n (by rw [List.length_append, ln]; simp), List.getElem_append_right (by omega)]
            simp [ln]) ?_
          refine Ev.bind (of_ev _ (by omega)) ?_
          exact Ev.now _
        refine ⟨dec n (b.drop 8), ((16 + 8 * n : Nat) : Int), ?_, ?_⟩
        · have hs : (one b).isSome = ((wn ((b.drop (8 + 8 * n)).take 8) : Int) == mk (dec n (b.drop 8))) := by
            unfold one
            rw [hn, if_pos h3]
            by_cases h4 : (wn ((b.drop (8 + 8 * n)).take 8) : Int) = mk (dec n (b.drop 8))
            · rw [if_pos h4, h4]; simp
            · rw [if_neg h4]; simpa using h4
          rw [hs]; exact key _ go
        · intro row h
          unfold one at h
          rw [hn, if_pos h3] at h
          split at h
          · cases h; rw [ln]; exact ⟨rfl, rfl⟩
          · cases h
      · refine ⟨[], 0, ?_, fun row h => ?_⟩
        · rw [hone h3]
          refine key _ (Ev.step (fun k => by
            simp only [journal_first.j0, Bool.false_eq_true, if_false, rd0, w1]
            rw [if_pos (by simp), if_pos (by rw [sz]; omega)]; rfl) (Ev.now _))
        · rw [hone h3] at h; cases h

/-- What bytes decode to: rows, and what is left. -/
inductive Dec : List UInt8 → List (List Int) → List UInt8 → Prop
  | stop {b : List UInt8} : one b = none → Dec b [] b
  | go {b : List UInt8} {row : List Int} {rows : List (List Int)} {rest : List UInt8} : one b = some row → Dec (b.drop (16 + 8 * row.length)) rows rest → Dec b (row :: rows) rest
theorem one_le {b : List UInt8} {row : List Int} (h : one b = some row) : row.length = wn (b.take 8) ∧ 16 + 8 * row.length ≤ b.length := by
  unfold one at h
  split at h
  · split at h
    · cases h; rw [dec_length]; exact ⟨rfl, by assumption⟩
    · cases h
  · cases h
theorem Dec.ex (d : Nat) : ∀ b : List UInt8, b.length ≤ d → ∃ rows rest, Dec b rows rest := by
  induction d with
  | zero =>
    intro b h
    refine ⟨[], b, .stop ?_⟩
    unfold one; rw [if_neg (by omega)]
  | succ d ih =>
    intro b h
    cases ho : one b with
    | none => exact ⟨_, _, .stop ho⟩
    | some row =>
      obtain ⟨rows, rest, hd⟩ := ih (b.drop (16 + 8 * row.length)) (by have := (one_le ho).2; rw [List.length_drop]; omega)
      exact ⟨_, _, .go ho hd⟩
theorem Dec.one_eq {b : List UInt8} {r1 r2 : List (List Int)} {s1 s2 : List UInt8} (h1 : Dec b r1 s1) (h2 : Dec b r2 s2) : r1 = r2 ∧ s1 = s2 := by
  induction h1 generalizing r2 s2 with
  | stop ho =>
    cases h2 with
    | stop _ => exact ⟨rfl, rfl⟩
    | go ho' _ => rw [ho] at ho'; cases ho'
  | go ho _ ih =>
    cases h2 with
    | stop ho' => rw [ho] at ho'; cases ho'
    | go ho' hd =>
      rw [ho] at ho'; cases ho'
      obtain ⟨rfl, rfl⟩ := ih hd
      exact ⟨rfl, rfl⟩

theorem decode_ev {b : List UInt8} {rows : List (List Int)} {rest : List UInt8} (h : Dec b rows rest) (hb : b.length ≤ 1000000) : ∀ acc : List (List Int), acc.length + b.length ≤ 1000000 → Ev (fun k => journal_Decode.l0 k ⟨b.toArray⟩ acc) (acc ++ rows, (rest.length : Int)) := by
  induction h with
  | @stop b ho =>
    intro acc ha
    obtain ⟨r, n, h1, h2⟩ := first_ev b hb
    rw [ho] at h1
    refine Ev.step (f := fun k => (journal_first.f k ⟨b.toArray⟩).bind fun bt140 => (if bt140.2.2 = true then (if acc.length < 5864062014805 then (if 0 ≤ bt140.2.1 then (if bt140.2.1 ≤ ((ByteArray.mk b.toArray).size : Int) then (journal_Decode.l0 k ((ByteArray.mk b.toArray).extract (bt140.2.1 : Int).toNat (ByteArray.mk b.toArray).size) (acc ++ [bt140.1])) else (none)) else (none)) else (none)) else (some (acc, ((ByteArray.mk b.toArray).size : Int))))) (fun k => by simp only [journal_Decode.l0]) ?_
    refine Ev.bind h1 ?_
    simp only [Option.isSome_none, Bool.false_eq_true, if_false, sz, List.append_nil]
    exact Ev.now _
  | @go b row rows rest ho hd ih =>
    intro acc ha
    have hl := (one_le ho).2
    obtain ⟨r, n, h1, h2⟩ := first_ev b hb
    obtain ⟨rfl, rfl⟩ := h2 row ho
    rw [ho] at h1
    refine Ev.step (f := fun k => (journal_first.f k ⟨b.toArray⟩).bind fun bt140 => (if bt140.2.2 = true then (if acc.length < 5864062014805 then (if 0 ≤ bt140.2.1 then (if bt140.2.1 ≤ ((ByteArray.mk b.toArray).size : Int) then (journal_Decode.l0 k ((ByteArray.mk b.toArray).extract (bt140.2.1 : Int).toNat (ByteArray.mk b.toArray).size) (acc ++ [bt140.1])) else (none)) else (none)) else (none)) else (some (acc, ((ByteArray.mk b.toArray).size : Int))))) (fun k => by simp only [journal_Decode.l0]) ?_
    refine Ev.bind h1 ?_
    refine Ev.congr (f := fun k => journal_Decode.l0 k ⟨(b.drop (16 + 8 * r.length)).toArray⟩ (acc ++ [r])) (fun k => by
      simp only [Option.isSome_some, if_true]
      rw [if_pos (by omega), if_pos (by omega), if_pos (by rw [sz]; omega), ext_eq, Int.toNat_natCast, sz, List.take_of_length_le (by rw [List.length_drop]; omega)]) ?_
    have := ih (by rw [List.length_drop]; omega) (acc ++ [r]) (by rw [List.length_drop]; simp; omega)
    rwa [List.append_assoc] at this
theorem jdecode_ev {b : List UInt8} {rows : List (List Int)} {rest : List UInt8} (h : Dec b rows rest) (hb : b.length ≤ 1000000) : Ev (fun k => journal_Decode.f k ⟨b.toArray⟩) (rows, (rest.length : Int)) := by
  have := decode_ev h hb [] (by simpa using hb)
  exact this

end Go.Proofs.Ytaalmmnjehfimaa.P
