/- What is proved here: a part of the proof of ScriptFormatInjective: Spe. No conditions beside those that each theorem states. -/
import Derived.Test.YtfgbdcpfbghdoaaGreatDoorKSFIve35
section
set_option linter.unusedVariables false
set_option linter.unusedSimpArgs false
namespace Go.Proofs.YtfgbdcpfbghdoaaGreatDoor.P
open Go.RowKit Go.Proofs.YtfgbdcpfbghdoaaGreatDoorW.PrintWords Go.Proofs.YtfgbdcpfbghdoaaGreatDoorW.PrintLast Go.Proofs.YtfgbdcpfbghdoaaGreatDoorW.PrintMore
def firstOf : List (Bool × List UInt8) → Bool
  | [] => false
  | t :: _ => t.1
def resP (acc : List ByteArray) (first : Bool) : Option (List (Bool × List UInt8)) → List ByteArray × Bool × Bool
  | none => ([], false, false)
  | some ts => (acc ++ ts.map (fun t => mkB t.2), first || (acc.isEmpty && firstOf ts), true)
theorem scan_go (acc : List ByteArray) (first : Bool) (hacc : acc.length < 8796093022208) : ∀ (b a : List UInt8), (a ++ b).length ≤ 1000000 → ∀ r,
    ((wordOf b).1.all bareB = true → Ev (fun k => script_pieces.l0 k (mkB (wordOf b).2) (acc ++ [mkB (a ++ (wordOf b).1)]) first) r) → ((wordOf b).1.all bareB = false → r = ([], false, false)) →
    Ev (fun k => script_pieces.l1 k (mkB (a ++ b)) acc first ((a ++ b).length : Int) (a.length : Int)) r := by
  intro b
  induction b with
  | nil =>
    intro a hl r h1 h2
    rw [List.append_nil] at *
    refine Ev.step (fun k => ?_) (h1 rfl)
    simp only [script_pieces.l1]
    rw [if_neg (by omega), if_pos hacc]
    show _ = script_pieces.l0 k (mkB []) (acc ++ [mkB (a ++ [])]) first
    rw [List.append_nil]; rfl
  | cons c r ih =>
    intro a hl res h1 h2
    have hlt : a.length < (a ++ c :: r).length := by simp
    have hb : bt (mkB (a ++ c :: r)) (a.length : Int) = (c.toNat : Int) := by
      unfold mkB
      rw [bt_nat _ _ hlt]; simp
    by_cases h : c = 32
    · subst h
      have hw : wordOf ((32 : UInt8) :: r) = ([], 32 :: r) := by rw [wordOf, if_pos rfl]
      rw [hw] at h1
      refine Ev.step (fun k => ?_) (h1 rfl)
      simp only [script_pieces.l1]
      rw [if_pos (by omega), if_pos (by omega), if_pos (by rw [mkB_size]; omega), hb, if_pos ((n32 32).2 rfl), if_pos (by rw [mkB_size]; omega), if_pos hacc, Int.toNat_natCast, mkB_size]
      unfold mkB
      rw [ext_eq, ext_eq]
      have e1 : (a ++ (32 : UInt8) :: r).drop a.length = 32 :: r := List.drop_left
      rw [e1, List.take_of_length_le (by simp)]
      simp
    · have hw : wordOf (c :: r) = (c :: (wordOf r).1, (wordOf r).2) := by rw [wordOf, if_neg h]
      rw [hw] at h1 h2
      have hstep : ∀ k, script_pieces.l1 (k + 1) (mkB (a ++ c :: r)) acc first ((a ++ c :: r).length : Int) (a.length : Int) = (if bareB c = true then script_pieces.l1 k (mkB (a ++ c :: r)) acc first ((a ++ c :: r).length : Int) ((a.length + 1 : Nat) : Int) else some ([], false, false)) := by
        intro k
        simp only [script_pieces.l1]
        rw [if_pos (by omega), if_pos (by omega), if_pos (by rw [mkB_size]; omega), hb, if_neg (fun e => h ((n32 c).1 e)), bare_f, wrap_nat hlt (by omega)]
        rfl
      cases hc : bareB c
      · have : res = ([], false, false) := h2 (by simp [hc])
        rw [this]
        refine Ev.step (f := fun _ => some ([], false, false)) (fun k => ?_) (Ev.now _)
        rw [hstep, hc, if_neg (by simp)]
      · have key := ih (a ++ [c]) (by simpa using hl) res (fun hh => by
          have := h1 (by simp only [List.all_cons, hc, hh]; rfl)
          simpa using this) (fun hh => h2 (by simp only [List.all_cons, hc, hh]; rfl))
        rw [show a ++ [c] ++ r = a ++ c :: r by simp, show (a ++ [c]).length = a.length + 1 by simp] at key
        refine Ev.step (fun k => ?_) key
        rw [hstep, hc, if_pos rfl]
theorem pieces_go : ∀ (n : Nat) (s : List UInt8) (acc : List ByteArray) (first : Bool), s.length < n → s.length ≤ 1000000 → acc.length + s.length ≤ 2000000 →
    Ev (fun k => script_pieces.l0 k (mkB s) acc first) (resP acc first (toks n s)) := by
  intro n
  induction n with
  | zero => intro s acc first h; omega
  | succ n ih =>
    intro s acc first hn hl ha
    have hd := dsp_le s
    refine Ev.step (fun k => by simp only [script_pieces.l0]; rw [trim_ev]) ?_
    rw [toks]
    cases hs : dsp s with
    | nil =>
      have e1 : resP acc first (some []) = (acc, first, true) := by simp [resP, firstOf]
      dsimp only
      rw [e1]
      refine Ev.congr (f := fun _ => some (acc, first, true)) (fun k => ?_) (Ev.now _)
      show (if (mkB []).toList = ([] : List UInt8) then some (acc, first, true) else _) = _
      rw [mkB_toList, if_pos rfl]
    | cons c r =>
      rw [hs, List.length_cons] at hd
      have hsz : ((mkB (c :: r)).size : Int) = (r.length : Int) + 1 := by rw [mkB_size, List.length_cons]; rfl
      by_cases h34 : c = 34
      · subst h34
        have e0 : ∀ k, (if (mkB (34 :: r)).toList = ([] : List UInt8) then (some (acc, first, true)) else (if 0 < ((mkB (34 :: r)).size : Int) then (if (bt (mkB (34 :: r)) 0) = 34 then (if 1 ≤ ((mkB (34 :: r)).size : Int) then ((strings_Cut.f ((mkB (34 :: r)).extract 1 (mkB (34 :: r)).size) (⟨#[34]⟩ : ByteArray)).bind fun bt102 => ((script_opened.f bt102.1).bind fun bt105 => (if bt102.2.2 = true then (if bt105.2 = true then (if bt102.2.1.toList = ([] : List UInt8) then (if acc.length < 8796093022208 then (script_pieces.l0 k bt102.2.1 (acc ++ [bt105.1]) first) else (none)) else (if 0 < (bt102.2.1.size : Int) then (if (bt bt102.2.1 0) = 32 then (if acc.length < 8796093022208 then (script_pieces.l0 k bt102.2.1 (acc ++ [bt105.1]) first) else (none)) else (some (([] : List ByteArray), false, false))) else (none))) else (some (([] : List ByteArray), false, false))) else (some (([] : List ByteArray), false, false))))) else (none)) else (if first = true then (script_pieces.j1 k (mkB (34 :: r)) acc true) else (script_pieces.j1 k (mkB (34 :: r)) acc ((acc.length : Int) == 0)))) else (none))) =
            (match cutQ r with
              | none => some ([], false, false)
              | some p => match openL p.1 with
                | none => some ([], false, false)
                | some w => if restOk p.2 = true then script_pieces.l0 k (mkB p.2) (acc ++ [mkB w]) first else some ([], false, false)) := by
          intro k
          rw [mkB_toList, if_neg (by simp), if_pos (by omega), bt_zero, if_pos ((n34 34).2 rfl), if_pos (by omega), ext_one]
          unfold strings_Cut.f
          rw [if_pos ⟨rfl, by rw [mkB_size]; omega⟩, cutAt_ev]
          cases hq : cutQ r with
          | none =>
            simp only [Option.bind_some]
            unfold script_opened.f
            rw [if_pos (by rw [mkB_size]; omega)]
            simp
          | some p =>
            obtain ⟨i, t⟩ := p
            have hit : r = i ++ 34 :: t := by
              rcases cut_or 34 r with h | ⟨a, t', rfl, h⟩
              · rw [cutQ_no r h] at hq; cases hq
              · rw [cutQ_app t' a h] at hq; cases hq; rfl
            have hil : i.length ≤ r.length := by rw [hit]; simp
            simp only [Option.bind_some]
            unfold script_opened.f
            rw [if_pos (by rw [mkB_size]; omega), openF_ev]
            cases ho : openL i with
            | none => simp
            | some w =>
              simp only [Option.bind_some, if_true]
              cases t with
              | nil => rw [mkB_toList, if_pos rfl, if_pos (by omega)]; simp [restOk]
              | cons d t =>
                rw [mkB_toList, if_neg (by simp), if_pos (by rw [mkB_size, List.length_cons]; omega), bt_zero]
                by_cases h32 : d = 32
                · subst h32; rw [if_pos ((n32 32).2 rfl), if_pos (by omega)]; simp [restOk]
                · rw [if_neg (fun e => h32 ((n32 d).1 e))]; simp [restOk, h32]
        refine Ev.congr (fun k => e0 k) ?_
        simp only [if_true]
        cases hq : cutQ r with
        | none => exact Ev.now _
        | some p =>
          obtain ⟨i, t⟩ := p
          have hit : r = i ++ 34 :: t := by
            rcases cut_or 34 r with h | ⟨a, t', rfl, h⟩
            · rw [cutQ_no r h] at hq; cases hq
            · rw [cutQ_app t' a h] at hq; cases hq; rfl
          have htl : t.length < r.length := by rw [hit]; simp; omega
          dsimp only
          cases ho : openL i with
          | none => exact Ev.now _
          | some w =>
            dsimp only
            cases hr : restOk t
            · rw [if_neg (by simp)]
              refine Ev.congr (f := fun _ => some ([], false, false)) (fun k => ?_) (Ev.now _)
              rw [if_neg (by simp)]
            · have h1 := ih t (acc ++ [mkB w]) first (by omega) (by omega) (by simp; omega)
              rw [if_pos rfl]
              have e1 : resP (acc ++ [mkB w]) first (toks n t) = resP acc first ((toks n t).map ((false, w) :: ·)) := by
                cases toks n t <;> simp [resP, firstOf]
              rw [e1] at h1
              refine Ev.congr (fun k => ?_) h1
              rw [if_pos rfl]
      · have e0 : ∀ k, (if (mkB (c :: r)).toList = ([] : List UInt8) then (some (acc, first, true)) else (if 0 < ((mkB (c :: r)).size : Int) then (if (bt (mkB (c :: r)) 0) = 34 then (if 1 ≤ ((mkB (c :: r)).size : Int) then ((strings_Cut.f ((mkB (c :: r)).extract 1 (mkB (c :: r)).size) (⟨#[34]⟩ : ByteArray)).bind fun bt102 => ((script_opened.f bt102.1).bind fun bt105 => (if bt102.2.2 = true then (if bt105.2 = true then (if bt102.2.1.toList = ([] : List UInt8) then (if acc.length < 8796093022208 then (script_pieces.l0 k bt102.2.1 (acc ++ [bt105.1]) first) else (none)) else (if 0 < (bt102.2.1.size : Int) then (if (bt bt102.2.1 0) = 32 then (if acc.length < 8796093022208 then (script_pieces.l0 k bt102.2.1 (acc ++ [bt105.1]) first) else (none)) else (some (([] : List ByteArray), false, false))) else (none))) else (some (([] : List ByteArray), false, false))) else (some (([] : List ByteArray), false, false))))) else (none)) else (if first = true then (script_pieces.j1 k (mkB (c :: r)) acc true) else (script_pieces.j1 k (mkB (c :: r)) acc ((acc.length : Int) == 0)))) else (none))) =
            script_pieces.j1 k (mkB (c :: r)) acc (first || acc.isEmpty) := by
          intro k
          rw [mkB_toList, if_neg (by simp), if_pos (by omega), bt_zero, if_neg (fun e => h34 ((n34 c).1 e))]
          cases first
          · rw [if_neg (by simp)]
            congr 1
            cases acc <;> simp
            omega
          · rw [if_pos rfl]; rfl
        refine Ev.congr (fun k => e0 k) ?_
        refine Ev.step (fun k => by simp only [script_pieces.j1]; rfl) ?_
        dsimp only
        rw [if_neg h34]
        have hw := wordOf_app (c :: r)
        have hwl : (wordOf (c :: r)).1.length + (wordOf (c :: r)).2.length = r.length + 1 := by rw [← List.length_append, ← hw, List.length_cons]
        have key := scan_go acc (first || acc.isEmpty) (by omega) (c :: r) [] (by simp; omega)
        simp only [List.nil_append] at key
        rw [mkB_size]
        refine key _ (fun hall => ?_) (fun hall => ?_)
        · rw [if_pos hall]
          by_cases h32 : c = 32
          · exfalso
            exact dsp_head s r (by rw [hs, h32])
          · have hw1 : 1 ≤ (wordOf (c :: r)).1.length := by rw [wordOf, if_neg h32]; simp
            have h1 := ih (wordOf (c :: r)).2 (acc ++ [mkB (wordOf (c :: r)).1]) (first || acc.isEmpty) (by omega) (by omega) (by simp; omega)
            have e1 : resP (acc ++ [mkB (wordOf (c :: r)).1]) (first || acc.isEmpty) (toks n (wordOf (c :: r)).2) = resP acc first ((toks n (wordOf (c :: r)).2).map ((true, (wordOf (c :: r)).1) :: ·)) := by
              cases toks n (wordOf (c :: r)).2 <;> simp [resP, firstOf]
            rw [e1] at h1
            exact h1
        · rw [if_neg (by rw [hall]; simp)]; rfl
theorem pieces_ev (s : List UInt8) (hl : s.length ≤ 1000000) : Ev (fun k => script_pieces.f k (mkB s)) (resP [] false (toks (s.length + 1) s)) :=
  pieces_go (s.length + 1) s [] false (by omega) hl (by simp; omega)
end Go.Proofs.YtfgbdcpfbghdoaaGreatDoor.P
end
