/- What is proved here: a part of the proof of ScriptParse: Srx. No conditions beside those that each theorem states. -/
import Derived.Test.YtfgbdcpfbghdoaaGreatDoorKSPse41
import Derived.Test.YtfgbdcpfbghdoaaGreatDoorKSPse31
section
set_option linter.unusedVariables false
set_option linter.unusedSimpArgs false
namespace Go.Proofs.YtfgbdcpfbghdoaaGreatDoor.P
open Go.RowKit Go.Proofs.YtfgbdcpfbghdoaaGreatDoorW.PrintWords Go.Proofs.YtfgbdcpfbghdoaaGreatDoorW.PrintLast Go.Proofs.YtfgbdcpfbghdoaaGreatDoorW.PrintMore
abbrev LR := ByteArray × List ByteArray × Bool × Bool
theorem line_trim (x6 : Bool) (v : ByteArray) (ws : List ByteArray) (res : LR) : ∀ s : List UInt8, Ev (fun k => privityref53_line.j2 k (mkB (dsp s)) x6 v ws) res → Ev (fun k => privityref53_line.l1 k (mkB s) x6 v ws) res
  | [], h => by
    have hs := mkB_size []
    rw [List.length_nil] at hs
    have c1 : ¬ ((mkB []).size : Int) > 0 := by omega
    exact Ev.step (fun k => by simp only [privityref53_line.l1]; rw [if_neg c1]; rfl) h
  | c :: r, h => by
    have hs := mkB_size (c :: r)
    rw [List.length_cons] at hs
    have c1 : ((mkB (c :: r)).size : Int) > 0 := by omega
    have c2 : 0 < ((mkB (c :: r)).size : Int) := by omega
    have c3 : 1 ≤ ((mkB (c :: r)).size : Int) := by omega
    by_cases hc : c = 32
    · subst hc
      have hd : dsp ((32 : UInt8) :: r) = dsp r := by rw [dsp, if_pos rfl]
      rw [hd] at h
      have ih := line_trim x6 v ws res r h
      exact Ev.step (fun k => by simp only [privityref53_line.l1]; rw [if_pos c1, if_pos c2, bt_zero, if_pos ((n32 32).2 rfl), if_pos c3, ext_one]) ih
    · have hd : dsp (c :: r) = c :: r := by rw [dsp, if_neg hc]
      rw [hd] at h
      exact Ev.step (fun k => by simp only [privityref53_line.l1]; rw [if_pos c1, if_pos c2, bt_zero, if_neg (fun e => hc ((n32 c).1 e))]) h
def after (k : Nat) (x6 : Bool) (v : ByteArray) (ws : List ByteArray) (bt172 : ByteArray × Bool × ByteArray × Bool) : Option LR :=
  if x6 = true then (if bt172.2.1 = true then ((privityref53_Verb.f k bt172.1).bind fun t176 => (privityref53_line.j4 k x6 bt172.1 bt172.2.2.1 (!t176) v ws)) else (privityref53_line.j4 k x6 bt172.1 bt172.2.2.1 true v ws)) else (privityref53_line.j4 k x6 bt172.1 bt172.2.2.1 false v ws)
theorem j3_piece (k : Nat) (x0 : ByteArray) (x6 : Bool) (v : ByteArray) (ws : List ByteArray) : privityref53_line.j3 (k + 1) x0 x6 false v ws = (privityref53_piece.f k x0).bind fun bt172 => (if bt172.2.2.2 = true then (if bt172.2.2.1.toList = ([] : List UInt8) then after k x6 v ws bt172 else (if 0 < (bt172.2.2.1.size : Int) then (if (bt bt172.2.2.1 0) = 32 then after k x6 v ws bt172 else privityref53_line.j4 k x6 bt172.1 bt172.2.2.1 true v ws) else none)) else privityref53_line.j4 k x6 bt172.1 bt172.2.2.1 true v ws) := by
  rw [privityref53_line.j3, if_neg (by simp)]
  rfl
theorem piece_good {k : Nat} {x6 : Bool} {v : ByteArray} {ws : List ByteArray} {w : ByteArray} {is : Bool} {rest : List UInt8} (h : restOk rest = true) :
    (if ((w, is, mkB rest, true) : ByteArray × Bool × ByteArray × Bool).2.2.2 = true then (if (mkB rest).toList = ([] : List UInt8) then after k x6 v ws (w, is, mkB rest, true) else (if 0 < ((mkB rest).size : Int) then (if (bt (mkB rest) 0) = 32 then after k x6 v ws (w, is, mkB rest, true) else privityref53_line.j4 k x6 w (mkB rest) true v ws) else none)) else privityref53_line.j4 k x6 w (mkB rest) true v ws) = after k x6 v ws (w, is, mkB rest, true) := by
  rw [if_pos rfl]
  cases rest with
  | nil => rw [mkB_toList, if_pos rfl]
  | cons c r =>
    have hs := mkB_size (c :: r)
    rw [List.length_cons] at hs
    have c1 : 0 < ((mkB (c :: r)).size : Int) := by omega
    have hc : c = 32 := by simpa [restOk] using h
    rw [mkB_toList, if_neg (by simp), if_pos c1, bt_zero, if_pos ((n32 c).2 hc)]
theorem piece_bad {k : Nat} {x6 : Bool} {v : ByteArray} {ws : List ByteArray} {w : ByteArray} {is ok : Bool} {rest : List UInt8} (h : ok = false ∨ restOk rest = false) :
    (if ((w, is, mkB rest, ok) : ByteArray × Bool × ByteArray × Bool).2.2.2 = true then (if (mkB rest).toList = ([] : List UInt8) then after k x6 v ws (w, is, mkB rest, ok) else (if 0 < ((mkB rest).size : Int) then (if (bt (mkB rest) 0) = 32 then after k x6 v ws (w, is, mkB rest, ok) else privityref53_line.j4 k x6 w (mkB rest) true v ws) else none)) else privityref53_line.j4 k x6 w (mkB rest) true v ws) = privityref53_line.j4 k x6 w (mkB rest) true v ws := by
  rcases h with rfl | h
  · rw [if_neg (by simp)]
  · cases ok
    · rw [if_neg (by simp)]
    · rw [if_pos rfl]
      cases rest with
      | nil => simp [restOk] at h
      | cons c r =>
        have hs := mkB_size (c :: r)
        rw [List.length_cons] at hs
        have c1 : 0 < ((mkB (c :: r)).size : Int) := by omega
        have hc : ¬ c = 32 := by simpa [restOk] using h
        rw [mkB_toList, if_neg (by simp), if_pos c1, bt_zero, if_neg (fun e => hc ((n32 c).1 e))]
theorem j4_bad (x6 : Bool) (w x9 v : ByteArray) (ws : List ByteArray) : Ev (fun k => privityref53_line.j4 k x6 w x9 true v ws) (v, ws, false, false) :=
  Ev.step (f := fun _ => some (v, ws, false, false)) (fun k => by rw [privityref53_line.j4, if_pos rfl]) (Ev.now _)
theorem j3_ev (c : UInt8) (r : List UInt8) (hl : (c :: r).length ≤ 1000000) (x6 : Bool) (v : ByteArray) (ws : List ByteArray) (res : LR) (p : ByteArray × Bool × List UInt8 × Bool) (hp : (if c = 34 then quoteR r else bareR (c :: r)) = (p.1, p.2.1, mkB p.2.2.1, p.2.2.2))
    (hres : if p.2.2.2 = true ∧ restOk p.2.2.1 = true then Ev (fun k => after k x6 v ws (p.1, p.2.1, mkB p.2.2.1, true)) res else res = (v, ws, false, false)) :
    Ev (fun k => privityref53_line.j3 k (mkB (c :: r)) x6 false v ws) res := by
  have h1 := refPiece c r hl
  rw [hp] at h1
  obtain ⟨w, is, rest, ok⟩ := p
  refine Ev.step (fun k => j3_piece k _ x6 v ws) (Ev.bind h1 ?_)
  by_cases h : ok = true ∧ restOk rest = true
  · rw [if_pos h] at hres
    obtain ⟨rfl, h2⟩ := h
    exact Ev.congr (fun k => piece_good h2) hres
  · rw [if_neg h] at hres
    rw [hres]
    refine Ev.congr (fun k => piece_bad ?_) (j4_bad x6 w (mkB rest) v ws)
    cases ok
    · exact .inl rfl
    · exact .inr (by simpa using h)
theorem piece_tok (c : UInt8) (r : List UInt8) : ∃ p : ByteArray × Bool × List UInt8 × Bool, (if c = 34 then quoteR r else bareR (c :: r)) = (p.1, p.2.1, mkB p.2.2.1, p.2.2.2) ∧
    (if c = 34 then p.2.1 = false ∧ (match cutQ r with
        | none => p.2.2.2 = false
        | some q => match openL q.1 with
          | none => p.2.2.2 = false
          | some w => p.1 = mkB w ∧ p.2.2.1 = q.2 ∧ p.2.2.2 = true)
     else p.2.1 = true ∧ p.1 = mkB (run (c :: r)).1 ∧ p.2.2.1 = (run (c :: r)).2 ∧ p.2.2.2 = decide (((run (c :: r)).1.length : Int) > 0)) := by
  by_cases h : c = 34
  · rw [if_pos h]
    unfold quoteR
    cases hq : cutQ r with
    | none => exact ⟨(⟨#[]⟩, false, [], false), rfl, by rw [if_pos h]; exact ⟨rfl, rfl⟩⟩
    | some q =>
      refine ⟨((openR q.1).1, false, q.2, (openR q.1).2), rfl, ?_⟩
      rw [if_pos h]
      refine ⟨rfl, ?_⟩
      dsimp only
      unfold openR
      cases openL q.1 with
      | none => rfl
      | some w => exact ⟨rfl, rfl, rfl⟩
  · rw [if_neg h]
    exact ⟨((mkB (run (c :: r)).1), true, (run (c :: r)).2, decide (((run (c :: r)).1.length : Int) > 0)), rfl, by rw [if_neg h]; exact ⟨rfl, rfl, rfl, rfl⟩⟩
theorem rest_go : ∀ (n : Nat) (s : List UInt8) (v : ByteArray) (ws : List ByteArray), s.length < n → s.length ≤ 1000000 → v.size ≤ 1000000 → ws.length + s.length ≤ 1000000 →
    ∃ res : LR, Ev (fun k => privityref53_line.l0 k (mkB s) false v ws) res ∧ (match toks n s with
      | none => res.2.2.2 = false
      | some ts => res = (v, ws ++ ts.map (fun t => mkB t.2), true, mayF v (ws ++ ts.map (fun t => mkB t.2)))) := by
  intro n
  induction n with
  | zero => intro s v ws h; omega
  | succ n ih =>
    intro s v ws hn hl hv hw
    have hd := dsp_le s
    have start : ∀ res : LR, Ev (fun k => privityref53_line.j2 k (mkB (dsp s)) false v ws) res → Ev (fun k => privityref53_line.l0 k (mkB s) false v ws) res := fun res h =>
      Ev.step (fun k => by rw [privityref53_line.l0]) (line_trim false v ws res s h)
    rw [toks]
    cases hs : dsp s with
    | nil =>
      rw [hs] at start
      refine ⟨(v, ws, true, mayF v ws), start _ ?_, by simp⟩
      refine Ev.step (fun k => by rw [privityref53_line.j2, mkB_toList, if_pos rfl]) ?_
      refine Ev.step (fun k => by rw [privityref53_line.j3, if_pos rfl, if_neg (by simp)]) (Ev.bind (refRight v ws hv (by omega)) ?_)
      exact Ev.now _
    | cons c r =>
      rw [hs] at start
      rw [hs, List.length_cons] at hd
      have hcl : (c :: r).length ≤ 1000000 := by rw [List.length_cons]; omega
      have toJ3 : ∀ res : LR, Ev (fun k => privityref53_line.j3 k (mkB (c :: r)) false false v ws) res → Ev (fun k => privityref53_line.l0 k (mkB s) false v ws) res := fun res h =>
        start res (Ev.step (fun k => by rw [privityref53_line.j2, mkB_toList, if_neg (by simp), if_neg (by simp)]) h)
      obtain ⟨p, hp, hpp⟩ := piece_tok c r
      have go : p.2.2.2 = true → restOk p.2.2.1 = true → p.2.2.1.length < r.length + 1 → ∃ res : LR, Ev (fun k => privityref53_line.l0 k (mkB s) false v ws) res ∧ (match toks n p.2.2.1 with
          | none => res.2.2.2 = false
          | some ts => res = (v, (ws ++ [p.1]) ++ ts.map (fun t => mkB t.2), true, mayF v ((ws ++ [p.1]) ++ ts.map (fun t => mkB t.2)))) := by
        intro h1 h2 h3
        obtain ⟨res, he, hm⟩ := ih p.2.2.1 v (ws ++ [p.1]) (by omega) (by omega) hv (by simp; omega)
        refine ⟨res, toJ3 res (j3_ev c r hcl false v ws res p hp ?_), hm⟩
        rw [if_pos ⟨h1, h2⟩]
        have hw8 : ws.length < 8796093022208 := by omega
        refine Ev.congr (f := fun k => privityref53_line.j4 k false p.1 (mkB p.2.2.1) false v ws) (fun k => by unfold after; rw [if_neg (by simp)]) ?_
        exact Ev.step (fun k => by rw [privityref53_line.j4, if_neg (by simp), if_neg (by simp), if_pos hw8]) he
      have stop : ¬ (p.2.2.2 = true ∧ restOk p.2.2.1 = true) → ∃ res : LR, Ev (fun k => privityref53_line.l0 k (mkB s) false v ws) res ∧ res.2.2.2 = false := fun h =>
        ⟨(v, ws, false, false), toJ3 _ (j3_ev c r hcl false v ws _ p hp (by rw [if_neg h])), rfl⟩
      dsimp only
      by_cases h34 : c = 34
      · rw [if_pos h34] at hpp ⊢
        obtain ⟨_, hq⟩ := hpp
        cases hcq : cutQ r with
        | none => rw [hcq] at hq; exact stop (fun h => by rw [hq] at h; exact absurd h.1 (by simp))
        | some q =>
          have hql := congrArg List.length (cutQ_some hcq).1
          simp only [List.length_append, List.length_cons] at hql
          rw [hcq] at hq; dsimp only at hq ⊢
          cases ho : openL q.1 with
          | none => rw [ho] at hq; exact stop (fun h => by rw [hq] at h; exact absurd h.1 (by simp))
          | some w =>
            rw [ho] at hq; dsimp only at hq ⊢
            obtain ⟨e1, e2, e3⟩ := hq
            cases hr : restOk q.2
            · rw [if_neg (by simp)]
              exact stop (fun h => by rw [e2, hr] at h; exact absurd h.2 (by simp))
            · rw [if_pos rfl]
              obtain ⟨res, he, hm⟩ := go e3 (by rw [e2]; exact hr) (by rw [e2]; omega)
              refine ⟨res, he, ?_⟩
              rw [e2] at hm
              cases ht : toks n q.2 with
              | none => rw [ht] at hm; exact hm
              | some ts => rw [ht] at hm; rw [hm, e1]; simp
      · rw [if_neg h34] at hpp ⊢
        obtain ⟨_, e1, e2, e3⟩ := hpp
        have h32 : c ≠ 32 := fun e => dsp_head s r (by rw [hs, e])
        have hrw := run_word (c :: r)
        have hwl := congrArg List.length (wordOf_app (c :: r))
        simp only [List.length_append, List.length_cons] at hwl
        have hw1 : 1 ≤ (wordOf (c :: r)).1.length := by rw [wordOf, if_neg h32]; simp
        by_cases hall : (wordOf (c :: r)).1.all bareB = true
        · rw [if_pos hall] at hrw ⊢
          obtain ⟨hr1, hr2⟩ := hrw
          obtain ⟨res, he, hm⟩ := go (by rw [e3, hr1]; exact decide_eq_true (by omega)) (by rw [e2]; exact hr2) (by rw [e2, hr1]; omega)
          refine ⟨res, he, ?_⟩
          rw [e2, hr1] at hm
          cases ht : toks n (wordOf (c :: r)).2 with
          | none => rw [ht] at hm; exact hm
          | some ts => rw [ht] at hm; rw [hm, e1, hr1]; simp
        · rw [if_neg hall] at hrw ⊢
          exact stop (fun h => by rw [e2, hrw] at h; exact absurd h.2 (by simp))
end Go.Proofs.YtfgbdcpfbghdoaaGreatDoor.P
end
