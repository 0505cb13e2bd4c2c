/- What is proved here: a part of the proof of ScriptConcatenation: Slw, Saw. No conditions beside those that each theorem states. -/
import Derived.Test.YtfgbdcpfbghdoaaGreatDoorKSCon35
import Derived.KernelRfl
import Derived.Test.YtfgbdcpfbghdoaaGreatDoorKSCon26
section
set_option linter.unusedVariables false
set_option linter.unusedSimpArgs false
namespace Go.Proofs.YtfgbdcpfbghdoaaGreatDoor.P
open Go.RowKit Go.Proofs.YtfgbdcpfbghdoaaGreatDoorW.PrintWords Go.Proofs.YtfgbdcpfbghdoaaGreatDoorW.PrintLast Go.Proofs.YtfgbdcpfbghdoaaGreatDoorW.PrintMore
theorem bareUpto_mk (l : List UInt8) : ∀ n, n ≤ l.length → bareUpto (mkB l) n = (l.take n).all bareB := by
  intro n
  induction n with
  | zero => intro _; simp [bareUpto]
  | succ n ih =>
    intro h
    have hlt : n < l.length := h
    rw [bareUpto_succ, ih (by omega), List.take_succ_eq_append_getElem hlt, List.all_append]
    have hb : bt (mkB l) (n : Int) = (l[n].toNat : Int) := bt_nat l n hlt
    rw [hb]
    simp [bareB]
theorem plainF_mk (l : List UInt8) : plainF (mkB l) = (l != [] && l.all bareB) := by
  unfold plainF
  rw [mkB_toList, mkB_size, bareUpto_mk l _ (Nat.le_refl _), List.take_length]
theorem pieceL_mk (l : List UInt8) : pieceL (mkB l) = if (l != [] && l.all bareB) = true then l else 34 :: (escL l ++ [34]) := by
  unfold pieceL
  rw [plainF_mk, mkB_list]
theorem lineP_may {l : List UInt8} {x : S36} (h : lineP l = .cmd x) : mayC x = true := by
  unfold lineP at h
  split at h
  · cases h
  · split at h
    · cases h
    · cases h
    · split at h
      · next hc => cases h; rw [Bool.and_eq_true] at hc; exact hc.2
      · cases h
theorem parseL_acc : ∀ L : List (List UInt8), (∃ l, l.all mayC = true ∧ ∀ n acc, parseL L n acc = (acc ++ l, 0, 0)) ∨ (∃ m : Nat, ∀ n acc, parseL L n acc = ([], ((n + m : Nat) : Int), 3))
  | [] => .inl ⟨[], rfl, fun n acc => by rw [parseL, List.append_nil]⟩
  | s :: r => by
    have ih := parseL_acc r
    cases hl : lineP s with
    | skip =>
      rcases ih with ⟨l, hm, h⟩ | ⟨m, h⟩
      · exact .inl ⟨l, hm, fun n acc => by rw [parseL, hl]; exact h _ _⟩
      · exact .inr ⟨m + 1, fun n acc => by rw [parseL, hl]; show parseL r (n + 1) acc = _; rw [h, show n + 1 + m = n + (m + 1) by omega]⟩
    | cmd x =>
      rcases ih with ⟨l, hm, h⟩ | ⟨m, h⟩
      · exact .inl ⟨x :: l, by rw [List.all_cons, lineP_may hl, hm]; rfl, fun n acc => by rw [parseL, hl]; show parseL r (n + 1) (acc ++ [x]) = _; rw [h]; simp⟩
      · exact .inr ⟨m + 1, fun n acc => by rw [parseL, hl]; show parseL r (n + 1) (acc ++ [x]) = _; rw [h, show n + 1 + m = n + (m + 1) by omega]⟩
    | bad => exact .inr ⟨1, fun n acc => by rw [parseL, hl]⟩
theorem parseL_append : ∀ (A B : List (List UInt8)) (n : Nat) (acc l : List S36), (∀ n acc, parseL A n acc = (acc ++ l, 0, 0)) → parseL (A ++ B) n acc = parseL B (n + A.length) (acc ++ l)
  | [], B, n, acc, l, h => by
    have := h 0 []
    rw [parseL] at this
    have : l = [] := by simpa using (congrArg Prod.fst this).symm
    subst this
    simp
  | s :: r, B, n, acc, l, h => by
    rw [List.cons_append, parseL, List.length_cons]
    cases hl : lineP s with
    | skip =>
      have h2 : ∀ n acc, parseL r n acc = (acc ++ l, 0, 0) := by
        intro n acc
        rcases parseL_acc r with ⟨l', _, h'⟩ | ⟨m, h'⟩
        · have e := h 0 acc
          rw [parseL, hl] at e
          dsimp only at e
          rw [h' 1 acc] at e
          rw [h' n acc]
          exact e
        · have e := h 0 acc
          rw [parseL, hl] at e
          dsimp only at e
          rw [h' 1 acc] at e
          exact absurd (congrArg (fun x => x.2.2) e) (by simp)
      show parseL (r ++ B) (n + 1) acc = _
      rw [parseL_append r B (n + 1) acc l h2, show n + 1 + r.length = n + (r.length + 1) by omega]
    | cmd x =>
      obtain ⟨l', rfl, h2⟩ : ∃ l', l = x :: l' ∧ ∀ n acc, parseL r n acc = (acc ++ l', 0, 0) := by
        rcases parseL_acc r with ⟨l', _, h'⟩ | ⟨m, h'⟩
        · have e := h 0 []
          rw [parseL, hl] at e
          dsimp only at e
          rw [h' 1 _] at e
          refine ⟨l', ?_, h'⟩
          have := congrArg Prod.fst e
          simpa using this.symm
        · have e := h 0 []
          rw [parseL, hl] at e
          dsimp only at e
          rw [h' 1 _] at e
          exact absurd (congrArg (fun x => x.2.2) e) (by simp)
      show parseL (r ++ B) (n + 1) (acc ++ [x]) = _
      rw [parseL_append r B (n + 1) (acc ++ [x]) l' h2, show n + 1 + r.length = n + (r.length + 1) by omega]
      simp
    | bad =>
      have e := h 0 []
      rw [parseL, hl] at e
      exact absurd (congrArg (fun x => x.2.2) e) (by simp)
theorem parseL_append_bad : ∀ (A B : List (List UInt8)) (n : Nat) (acc : List S36) (m : Nat), (∀ n acc, parseL A n acc = ([], ((n + m : Nat) : Int), 3)) → parseL (A ++ B) n acc = ([], ((n + m : Nat) : Int), 3)
  | [], B, n, acc, m, h => by
    have := h 0 []
    rw [parseL] at this
    exact absurd (congrArg (fun x => x.2.2) this) (by simp)
  | s :: r, B, n, acc, m, h => by
    rw [List.cons_append, parseL]
    have gen : ∀ acc', (∀ n acc, parseL (s :: r) n acc = ([], ((n + m : Nat) : Int), 3)) → (∀ n, parseL (s :: r) n acc = parseL r (n + 1) acc') → parseL (r ++ B) (n + 1) acc' = ([], ((n + m : Nat) : Int), 3) := by
      intro acc' hA hs
      rcases parseL_acc r with ⟨l', _, h'⟩ | ⟨m', h'⟩
      · have e := hA 0 acc
        rw [hs, h' 1 _] at e
        exact absurd (congrArg (fun x => x.2.2) e) (by simp)
      · have e := hA n acc
        rw [hs, h'] at e
        rw [parseL_append_bad r B (n + 1) acc' m' h']
        exact e
    cases hl : lineP s with
    | skip => exact gen acc h (fun n => by rw [parseL, hl])
    | cmd x => exact gen (acc ++ [x]) h (fun n => by rw [parseL, hl])
    | bad =>
      have e := h n acc
      rw [parseL, hl] at e
      exact e
theorem spl_append (c : UInt8) (r : List UInt8) : ∀ l : List UInt8, spl c false (l ++ c :: r) = spl c false l ++ spl c false r
  | [] => by simp [spl]
  | b :: l => by
    have ih := spl_append c r l
    obtain ⟨S, hS⟩ : ∃ S, spl c false r = S := ⟨_, rfl⟩
    rw [hS] at ih ⊢
    rw [List.cons_append]
    unfold spl
    by_cases h : b = c
    · rw [if_pos h, if_pos h, ih]; rfl
    · rw [if_neg h, if_neg h, ih]
      cases hs : spl c false l with
      | nil => exact absurd hs (spl_ne c false l)
      | cons p q => rfl
end Go.Proofs.YtfgbdcpfbghdoaaGreatDoor.P
end
section
set_option linter.unusedVariables false
set_option linter.unusedSimpArgs false
namespace Go.Proofs.YtfgbdcpfbghdoaaGreatDoor.P
open Go.RowKit Go.Proofs.YtfgbdcpfbghdoaaGreatDoorW.PrintWords Go.Proofs.YtfgbdcpfbghdoaaGreatDoorW.PrintLast Go.Proofs.YtfgbdcpfbghdoaaGreatDoorW.PrintMore
def aw1 : List UInt8 := [108, 105, 101, 32, 50, 32, 34, 97, 32, 94, 113, 32, 98, 34, 32, 120, 35, 121, 10, 35, 32, 97, 32, 110, 111, 116, 101, 10]
def aw2 : List UInt8 := [97, 10, 108, 105, 101, 32, 34, 97, 34, 98]
def awC : S36 := ⟨mkB [108, 105, 101], [mkB [50], mkB [97, 32, 34, 32, 98], mkB [120, 35, 121]]⟩
set_option maxRecDepth 100000 in
theorem aw_one : parseT aw1 = ([awC], 0, 0) := by kernel_rfl
set_option maxRecDepth 100000 in
theorem aw_two : parseT aw2 = ([], 2, 3) := by kernel_rfl
theorem aw_may : ([awC] : List S36).all mayC = true := by kernel_rfl
theorem aw_text : formatL [awC] = [108, 105, 101, 32, 50, 32, 34, 97, 32, 94, 113, 32, 98, 34, 32, 120, 35, 121, 10] := by
  show ([108, 105, 101] ++ (32 :: pieceL (mkB [50]) ++ (32 :: pieceL (mkB [97, 32, 34, 32, 98]) ++ (32 :: pieceL (mkB [120, 35, 121]) ++ []))) ++ [10]) ++ [] = _
  rw [pieceL_mk, pieceL_mk, pieceL_mk]
  kernel_rfl
theorem format_f {l : List S36} (h : l.all mayC = true) (hl : l.length ≤ 100000) : script_Format.f l = some (mkB (formatL l), 0) := by
  unfold script_Format.f
  rw [if_pos, if_pos h]
  · rfl
  · refine ⟨hl, List.all_eq_true.2 fun x hx => ?_⟩
    have := (may_le (List.all_eq_true.1 h x hx)).1
    simp; omega
theorem awake_ev : Ev (fun k => privitylaw53_awake.f k) true := by
  have e1 := parse_ev aw1 (by decide)
  have e2 := parse_ev aw2 (by decide)
  rw [aw_one] at e1
  rw [aw_two] at e2
  have e3 := format_f aw_may (by decide)
  rw [aw_text] at e3
  unfold privitylaw53_awake.f
  refine Ev.bind e1 ?_
  · dsimp only
    rw [e3]
    simp only [Option.bind_some]
    refine Ev.bind e2 ?_
    have t1 : ((rd_T36 [awC] 0).f0).toList = ([108, 105, 101] : List UInt8) := mkB_toList _
    have t2 : (rdOf ByteArray.empty ((rd_T36 [awC] 0).f1) 1).toList = ([97, 32, 34, 32, 98] : List UInt8) := mkB_toList _
    have t3 : (((rd_T36 [awC] 0).f1).length : Int) = 3 := rfl
    simp only [t1, t2, t3, mkB_toList]
    exact Ev.now _
theorem privitylaw53_awake.calls (k : Nat) (r : Bool) (w : World) (h : privitylaw53_awake.f k = some r) :
    Calls Tryz.prog 8 #[] w fun e w' => e = .returned (.bool r) ∧ Below w.heap.size w w' := by
  obtain ⟨K, hK⟩ := awake_ev
  have h1 := hK (max K k) (Nat.le_max_left _ _)
  have h2 := at_rounds (g := fun k => privitylaw53_awake.f k) (fun k => privitylaw53_awake.mono k) (Nat.le_max_right K k) h
  exact privitylaw53_awake.callsT k r w (Option.some.inj (h2.symm.trans h1)) h
end Go.Proofs.YtfgbdcpfbghdoaaGreatDoor.P
end
