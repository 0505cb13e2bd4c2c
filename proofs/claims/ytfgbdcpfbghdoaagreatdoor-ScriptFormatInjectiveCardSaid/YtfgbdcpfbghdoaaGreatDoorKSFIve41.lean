/- What is proved here: a part of the proof of ScriptFormatInjective: Slw. No conditions beside those that each theorem states. -/
import Derived.Test.YtfgbdcpfbghdoaaGreatDoorKSFIve40
import Derived.KernelRfl
section
set_option linter.unusedVariables false
set_option linter.unusedSimpArgs false
namespace Go.Proofs.YtfgbdcpfbghdoaaGreatDoor.P
open Go.RowKit Go.Proofs.YtfgbdcpfbghdoaaGreatDoorW.PrintWords Go.Proofs.YtfgbdcpfbghdoaaGreatDoorW.PrintLast Go.Proofs.YtfgbdcpfbghdoaaGreatDoorW.PrintMore
theorem bareUpto_mk (l : List UInt8) : ∀ n, n ≤ l.length → bareUpto (mkB l) n = (l.take n).all bareB := by
  intro n
  induction n with
  | zero => intro _; simp [bareUpto]
  | succ n ih =>
    intro h
    have hlt : n < l.length := h
    rw [bareUpto_succ, ih (by omega), List.take_succ_eq_append_getElem hlt, List.all_append]
    have hb : bt (mkB l) (n : Int) = (l[n].toNat : Int) := bt_nat l n hlt
    rw [hb]
    simp [bareB]
theorem plainF_mk (l : List UInt8) : plainF (mkB l) = (l != [] && l.all bareB) := by
  unfold plainF
  rw [mkB_toList, mkB_size, bareUpto_mk l _ (Nat.le_refl _), List.take_length]
theorem pieceL_mk (l : List UInt8) : pieceL (mkB l) = if (l != [] && l.all bareB) = true then l else 34 :: (escL l ++ [34]) := by
  unfold pieceL
  rw [plainF_mk, mkB_list]
theorem escL_cons (c : UInt8) (l : List UInt8) : escL (c :: l) = esc1 c ++ escL l := by simp [escL]
theorem openL_escL (l : List UInt8) : openL (escL l) = some l := by
  induction l with
  | nil => rfl
  | cons c r ih =>
    rw [escL_cons]
    rcases rep_cases c with ⟨h, hr⟩ | ⟨h, hr⟩ | ⟨h, hr⟩ | ⟨h1, h2, h3, hr⟩
    · subst h
      show openL (94 :: 110 :: escL r) = _
      rw [openL, if_pos rfl, if_pos rfl, ih]; rfl
    · subst h
      show openL (94 :: 113 :: escL r) = _
      rw [openL, if_pos rfl, if_neg (by decide), if_pos rfl, ih]; rfl
    · subst h
      show openL (94 :: 99 :: escL r) = _
      rw [openL, if_pos rfl, if_neg (by decide), if_neg (by decide), if_pos rfl, ih]; rfl
    · have : esc1 c = [c] := by simp [esc1, hr]
      rw [this, List.singleton_append, openL_cons c _ h3, ih]; rfl
theorem escL_no (x : UInt8) (hx : x = 34 ∨ x = 10) (l : List UInt8) : x ∉ escL l := by
  induction l with
  | nil => simp [escL]
  | cons c r ih =>
    rw [escL_cons, List.mem_append]
    rintro (h | h)
    · rcases rep_cases c with ⟨h0, hr⟩ | ⟨h0, hr⟩ | ⟨h0, hr⟩ | ⟨h1, h2, h3, hr⟩ <;> simp [esc1, hr] at h
      · rcases hx with rfl | rfl <;> revert h <;> decide
      · rcases hx with rfl | rfl <;> revert h <;> decide
      · rcases hx with rfl | rfl <;> revert h <;> decide
      · rcases hx with rfl | rfl
        · exact h2 h.symm
        · exact h1 h.symm
    · exact ih h
theorem bareB_ne {c : UInt8} (h : bareB c = true) : c ≠ 34 ∧ c ≠ 32 ∧ c ≠ 10 := by
  refine ⟨?_, ?_, ?_⟩ <;> (rintro rfl; revert h; decide)
theorem dsp_ne {c : UInt8} (h : c ≠ 32) (r : List UInt8) : dsp (c :: r) = c :: r := by rw [dsp, if_neg h]
theorem wordOf_bare : ∀ (w r : List UInt8), w.all bareB = true → restOk r = true → wordOf (w ++ r) = (w, r)
  | [], r, _, h => by
    cases r with
    | nil => rfl
    | cons c r =>
      have : c = 32 := by simpa [restOk] using h
      subst this
      simp [wordOf]
  | c :: w, r, hw, h => by
    rw [List.all_cons, Bool.and_eq_true] at hw
    rw [List.cons_append, wordOf, if_neg (bareB_ne hw.1).2.1, wordOf_bare w r hw.2 h]
theorem toks_plain {w r : List UInt8} (hw : (w != [] && w.all bareB) = true) (hr : restOk r = true) (n : Nat) : toks (n + 1) (w ++ r) = (toks n r).map ((true, w) :: ·) := by
  cases w with
  | nil => simp at hw
  | cons c w =>
    have ha : (c :: w).all bareB = true := by simpa using hw
    have hc := bareB_ne (by simpa using (List.all_eq_true.1 ha) c (by simp) : bareB c = true)
    rw [toks, List.cons_append, dsp_ne hc.2.1]
    dsimp only
    rw [if_neg hc.1, ← List.cons_append, wordOf_bare _ _ ha hr, if_pos ha]
theorem toks_quoted (l r : List UInt8) (hr : restOk r = true) (n : Nat) : toks (n + 1) (34 :: (escL l ++ [34]) ++ r) = (toks n r).map ((false, l) :: ·) := by
  rw [toks, show (34 :: (escL l ++ [34]) ++ r : List UInt8) = 34 :: (escL l ++ 34 :: r) by simp, dsp_ne (by decide)]
  dsimp only
  rw [if_pos rfl, cutQ_app r _ (escL_no 34 (.inl rfl) l)]
  dsimp only
  rw [openL_escL]
  dsimp only
  rw [if_pos hr]
theorem toks_blank (r : List UInt8) (n : Nat) : toks n (32 :: r) = toks n r := by
  cases n with
  | zero => rfl
  | succ n => rw [toks, toks, show dsp (32 :: r) = dsp r by rw [dsp, if_pos rfl]]
theorem rest_words (ws : List ByteArray) : restOk (ws.flatMap wordL) = true := by
  cases ws with
  | nil => rfl
  | cons w r => rfl
theorem toks_words : ∀ (ws : List ByteArray) (n : Nat), ws.length < n → toks n (ws.flatMap wordL) = some (ws.map (fun w => (plainF w, w.data.toList)))
  | [], n, h => by
    obtain ⟨n, rfl⟩ : ∃ m, n = m + 1 := ⟨n - 1, by simp at h; omega⟩
    rfl
  | w :: ws, n, h => by
    obtain ⟨n, rfl⟩ : ∃ m, n = m + 1 := ⟨n - 1, by simp at h; omega⟩
    have ih := toks_words ws n (by simp at h; omega)
    have hr := rest_words ws
    rw [List.flatMap_cons, wordL, List.cons_append, toks_blank]
    have hp : pieceL w = if plainF w = true then w.data.toList else 34 :: (escL w.data.toList ++ [34]) := rfl
    have hm := plainF_mk w.data.toList
    rw [mkB_of] at hm
    rw [hp]
    cases hf : plainF w
    · rw [if_neg (by simp), toks_quoted _ _ hr, ih, Option.map_some, List.map_cons, hf]
    · rw [if_pos rfl, toks_plain (hm ▸ hf) hr, ih, Option.map_some, List.map_cons, hf]
theorem lowI_bare {x : Int} (h : lowI x = true) : bareI x = true ∧ x ≠ 35 := by
  simp only [lowI, Bool.and_eq_true, decide_eq_true_eq] at h
  refine ⟨?_, by omega⟩
  simp only [bareI, Bool.and_eq_true, decide_eq_true_eq, bne_iff_ne, ne_eq]
  omega
theorem lowUpto_mk (l : List UInt8) : ∀ n, n ≤ l.length → lowUpto (mkB l) n = (l.take n).all (fun c => lowI (c.toNat : Int)) := by
  intro n
  induction n with
  | zero => intro _; simp [lowUpto]
  | succ n ih =>
    intro h
    have hlt : n < l.length := h
    rw [lowUpto_succ, ih (by omega), List.take_succ_eq_append_getElem hlt, List.all_append]
    have hb : bt (mkB l) (n : Int) = (l[n].toNat : Int) := bt_nat l n hlt
    rw [hb]
    simp
theorem verb_plain {v : ByteArray} (h : verbF v = true) : (v.data.toList != [] && v.data.toList.all bareB) = true ∧ ∃ c r, v.data.toList = c :: r ∧ c ≠ 35 ∧ c ≠ 32 := by
  have hm := lowUpto_mk v.data.toList v.data.toList.length (Nat.le_refl _)
  rw [mkB_of, List.take_length, dl v] at hm
  simp only [verbF, Bool.and_eq_true, decide_eq_true_eq] at h
  rw [h.1] at hm
  have h1 := dl v
  cases hl : v.data.toList with
  | nil => rw [hl] at h1; simp at h1; omega
  | cons c r =>
    rw [hl] at hm
    have hall : (c :: r).all bareB = true := by
      rw [List.all_eq_true]
      intro x hx
      exact (lowI_bare (List.all_eq_true.1 hm.symm x hx)).1
    have hc := List.all_eq_true.1 hm.symm c (by simp)
    refine ⟨by rw [hall]; rfl, c, r, rfl, ?_, (bareB_ne (List.all_eq_true.1 hall c (by simp))).2.1⟩
    rintro rfl
    exact (lowI_bare hc).2 rfl
def bodyC (x : S36) : List UInt8 := x.f0.data.toList ++ x.f1.flatMap wordL
theorem lineC_body (x : S36) : lineC x = bodyC x ++ [10] := rfl
theorem map_mkB (ws : List ByteArray) : (ws.map (fun w => (plainF w, w.data.toList))).map (fun t => mkB t.2) = ws := by
  rw [List.map_map]
  conv => rhs; rw [← List.map_id ws]
  exact List.map_congr_left (fun w _ => mkB_of w)
theorem words_count : ∀ ws : List ByteArray, ws.length ≤ (ws.flatMap wordL).length
  | [] => Nat.le_refl _
  | w :: ws => by
    have := words_count ws
    rw [List.flatMap_cons, List.length_append, wordL]
    simp only [List.length_cons]
    omega
theorem lineP_body {x : S36} (h : mayC x = true) : lineP (bodyC x) = .cmd x := by
  have hv : verbF x.f0 = true := by
    unfold mayC mayF at h
    rw [Bool.and_eq_true] at h
    exact h.1
  obtain ⟨hp, c, r, hc, h35, h32⟩ := verb_plain hv
  have hn : isNote (bodyC x) = false := by
    unfold isNote bodyC
    rw [hc, List.cons_append, dsp_ne h32]
    have : ¬ (35 : UInt8) = c := fun e => h35 e.symm
    simp [List.isPrefixOf, this]
  have hlen : x.f1.length < (bodyC x).length := by
    have := words_count x.f1
    unfold bodyC
    rw [List.length_append, hc, List.length_cons]
    omega
  have ht : toks ((bodyC x).length + 1) (bodyC x) = some ((true, x.f0.data.toList) :: x.f1.map (fun w => (plainF w, w.data.toList))) := by
    have e : bodyC x = x.f0.data.toList ++ x.f1.flatMap wordL := rfl
    generalize hN : (bodyC x).length = N at hlen ⊢
    rw [e, toks_plain hp (rest_words x.f1), toks_words x.f1 N hlen]; rfl
  unfold lineP
  rw [hn, ht, if_neg (by simp)]
  have hcmd : cmdOf (true, x.f0.data.toList) (x.f1.map (fun w => (plainF w, w.data.toList))) = x := by
    unfold cmdOf
    exact cmd_ext (mkB_of _) (map_mkB _)
  dsimp only
  rw [hcmd, if_pos]
  exact h
theorem body_no (x : S36) (h : mayC x = true) : (10 : UInt8) ∉ bodyC x := by
  have hv : verbF x.f0 = true := by
    unfold mayC mayF at h
    rw [Bool.and_eq_true] at h
    exact h.1
  obtain ⟨hp, -⟩ := verb_plain hv
  have nb : ∀ l : List UInt8, l.all bareB = true → (10 : UInt8) ∉ l := fun l hl hm => (bareB_ne (List.all_eq_true.1 hl 10 hm)).2.2 rfl
  unfold bodyC
  rw [List.mem_append]
  rintro (h | h)
  · rw [Bool.and_eq_true] at hp
    exact nb _ hp.2 h
  · obtain ⟨w, hw, hm⟩ := List.mem_flatMap.1 h
    unfold wordL at hm
    rcases List.mem_cons.1 hm with hm | hm
    · exact absurd hm (by decide)
    · have hpf := plainF_mk w.data.toList
      rw [mkB_of] at hpf
      unfold pieceL at hm
      split at hm
      · next hf => rw [hf] at hpf; have := hpf.symm; rw [Bool.and_eq_true] at this; exact nb _ this.2 hm
      · rcases List.mem_cons.1 hm with hm | hm
        · exact absurd hm (by decide)
        · rcases List.mem_append.1 hm with hm | hm
          · exact escL_no 10 (.inr rfl) _ hm
          · exact absurd hm (by decide)
theorem spl_format : ∀ l : List S36, l.all mayC = true → spl 10 false (formatL l) = l.map bodyC ++ [[]]
  | [], _ => rfl
  | x :: r, h => by
    rw [List.all_cons, Bool.and_eq_true] at h
    have e : formatL (x :: r) = bodyC x ++ 10 :: formatL r := by simp [formatL, lineC_body]
    rw [e, spl_app 10 _ _ (body_no x h.1), spl_format r h.2]
    rfl
theorem parseL_bodies : ∀ (l : List S36) (n : Nat) (acc : List S36), l.all mayC = true → parseL (l.map bodyC ++ [[]]) n acc = (acc ++ l, 0, 0)
  | [], n, acc, _ => by
    show parseL [[]] n acc = _
    rw [parseL]
    show parseL [] (n + 1) acc = _
    rw [parseL, List.append_nil]
  | x :: r, n, acc, h => by
    rw [List.all_cons, Bool.and_eq_true] at h
    rw [List.map_cons, List.cons_append, parseL, lineP_body h.1]
    show parseL (r.map bodyC ++ [[]]) (n + 1) (acc ++ [x]) = _
    rw [parseL_bodies r _ _ h.2]
    simp
theorem parse_format (l : List S36) (h : l.all mayC = true) : parseT (formatL l) = (l, 0, 0) := by
  unfold parseT
  rw [spl_format l h, parseL_bodies l 0 [] h]
  rfl
end Go.Proofs.YtfgbdcpfbghdoaaGreatDoor.P
end
