/- What is proved here: a part of the proof of ScriptParse: Sry. No conditions beside those that each theorem states. -/
import Derived.Test.YtfgbdcpfbghdoaaGreatDoorKSPse42
import Derived.Test.YtfgbdcpfbghdoaaGreatDoorKSPse32
section
set_option linter.unusedVariables false
set_option linter.unusedSimpArgs false
namespace Go.Proofs.YtfgbdcpfbghdoaaGreatDoor.P
open Go.RowKit Go.Proofs.YtfgbdcpfbghdoaaGreatDoorW.PrintWords Go.Proofs.YtfgbdcpfbghdoaaGreatDoorW.PrintLast Go.Proofs.YtfgbdcpfbghdoaaGreatDoorW.PrintMore
def LineOk (s : List UInt8) (res : LR) : Prop := match lineP s with
  | .skip => res.2.2 = (false, true)
  | .cmd x => res = (x.f0, x.f1, true, true)
  | .bad => res.2.2.2 = false
theorem refLine (s : List UInt8) (hl : s.length ≤ 900000) : ∃ res : LR, Ev (fun k => privityref53_line.f k (mkB s)) res ∧ LineOk s res := by
  have hd := dsp_le s
  have start : ∀ res : LR, Ev (fun k => privityref53_line.j2 k (mkB (dsp s)) true ⟨#[]⟩ []) res → Ev (fun k => privityref53_line.f k (mkB s)) res := fun res h =>
    Ev.congr (f := fun k => privityref53_line.l0 k (mkB s) true ⟨#[]⟩ []) (fun k => rfl) (Ev.step (fun k => by rw [privityref53_line.l0]) (line_trim true ⟨#[]⟩ [] res s h))
  unfold LineOk lineP isNote
  rw [toks]
  cases hs : dsp s with
  | nil =>
    rw [hs] at start
    refine ⟨(⟨#[]⟩, [], false, true), start _ ?_, by simp⟩
    refine Ev.step (fun k => by rw [privityref53_line.j2, mkB_toList, if_pos rfl]) ?_
    exact Ev.step (f := fun _ => some (⟨#[]⟩, [], false, true)) (fun k => by rw [privityref53_line.j3, if_pos rfl, if_pos rfl]; rfl) (Ev.now _)
  | cons c r =>
    rw [hs] at start
    rw [hs, List.length_cons] at hd
    have hz := mkB_size (c :: r)
    rw [List.length_cons] at hz
    have c1 : 0 < ((mkB (c :: r)).size : Int) := by omega
    have hcl : (c :: r).length ≤ 1000000 := by rw [List.length_cons]; omega
    have h2 : ∀ k, privityref53_line.j2 (k + 1) (mkB (c :: r)) true ⟨#[]⟩ [] = privityref53_line.j3 k (mkB (c :: r)) true ((c.toNat : Int) == 35) ⟨#[]⟩ [] := fun k => by
      rw [privityref53_line.j2, mkB_toList, if_neg (by simp), if_pos rfl, if_pos c1, bt_zero]
    by_cases h35 : c = 35
    · subst h35
      refine ⟨(⟨#[]⟩, [], false, true), start _ (Ev.step h2 ?_), by simp⟩
      exact Ev.step (f := fun _ => some (⟨#[]⟩, [], false, true)) (fun k => by rw [show (((35 : UInt8).toNat : Int) == 35) = true from rfl, privityref53_line.j3, if_pos rfl, if_pos rfl]; rfl) (Ev.now _)
    · have hnote : ([35] : List UInt8).isPrefixOf (c :: r) = false := by
        show ((35 : UInt8) == c && ([] : List UInt8).isPrefixOf r) = false
        rw [beq_eq_false_iff_ne.2 (fun e => h35 e.symm)]; rfl
      have hne : ((c.toNat : Int) == 35) = false := beq_eq_false_iff_ne.2 (fun e => h35 ((n35 c).1 e))
      have toJ3 : ∀ res : LR, Ev (fun k => privityref53_line.j3 k (mkB (c :: r)) true false ⟨#[]⟩ []) res → Ev (fun k => privityref53_line.f k (mkB s)) res := fun res h =>
        start res (Ev.step (fun k => by rw [h2, hne]) h)
      obtain ⟨p, hp, hpp⟩ := piece_tok c r
      have bad : ∀ Q : LR → Prop, Q (⟨#[]⟩, [], false, false) → (p.2.2.2 = true ∧ restOk p.2.2.1 = true → Ev (fun k => after k true ⟨#[]⟩ [] (p.1, p.2.1, mkB p.2.2.1, true)) (⟨#[]⟩, [], false, false)) → ∃ res : LR, Ev (fun k => privityref53_line.f k (mkB s)) res ∧ Q res := fun Q hQ h =>
        ⟨_, toJ3 _ (j3_ev c r hcl true ⟨#[]⟩ [] _ p hp (by
          by_cases hg : p.2.2.2 = true ∧ restOk p.2.2.1 = true
          · rw [if_pos hg]; exact h hg
          · rw [if_neg hg])), hQ⟩
      rw [hnote, if_neg (by simp)]
      dsimp only
      by_cases h34 : c = 34
      · rw [if_pos h34] at hpp ⊢
        obtain ⟨e0, _⟩ := hpp
        refine bad _ ?_ (fun _ => ?_)
        · have key : ∀ o : Option (List (Bool × List UInt8)), (∀ ts, o = some ts → ∃ t ts', ts = t :: ts' ∧ t.1 = false) → (match (match o with
                | none => LineR.bad
                | some [] => .skip
                | some (t :: ts) => if t.1 && mayF (cmdOf t ts).f0 (cmdOf t ts).f1 then .cmd (cmdOf t ts) else .bad) with
              | .skip => ((⟨#[]⟩, [], false, false) : LR).2.2 = (false, true)
              | .cmd x => ((⟨#[]⟩, [], false, false) : LR) = (x.f0, x.f1, true, true)
              | .bad => ((⟨#[]⟩, [], false, false) : LR).2.2.2 = false) := by
            intro o ho
            cases o with
            | none => rfl
            | some ts =>
              obtain ⟨t, ts', rfl, h⟩ := ho ts rfl
              dsimp only
              rw [h, Bool.false_and, if_neg (by simp)]
          refine key _ (fun ts hts => ?_)
          cases hq : cutQ r with
          | none => rw [hq] at hts; cases hts
          | some q =>
            rw [hq] at hts; dsimp only at hts
            cases ho : openL q.1 with
            | none => rw [ho] at hts; cases hts
            | some w =>
              rw [ho] at hts; dsimp only at hts
              split at hts
              · obtain ⟨ts', _, rfl⟩ := Option.map_eq_some_iff.1 hts
                exact ⟨_, _, rfl, rfl⟩
              · cases hts
        · refine Ev.congr (f := fun k => privityref53_line.j4 k true p.1 (mkB p.2.2.1) true ⟨#[]⟩ []) (fun k => ?_) (j4_bad _ _ _ _ _)
          unfold after
          rw [if_pos rfl, if_neg (by rw [e0]; simp)]
      · rw [if_neg h34] at hpp ⊢
        obtain ⟨e0, e1, e2, e3⟩ := hpp
        have h32 : c ≠ 32 := fun e => dsp_head s r (by rw [hs, e])
        have hrw := run_word (c :: r)
        have hwl := congrArg List.length (wordOf_app (c :: r))
        simp only [List.length_append, List.length_cons] at hwl
        have hw1 : 1 ≤ (wordOf (c :: r)).1.length := by rw [wordOf, if_neg h32]; simp
        by_cases hall : (wordOf (c :: r)).1.all bareB = true
        · rw [if_pos hall] at hrw ⊢
          obtain ⟨hr1, hr2⟩ := hrw
          have hps : p.1.size ≤ 1000000 := by rw [e1, hr1, mkB_size]; omega
          have hg : p.2.2.2 = true ∧ restOk p.2.2.1 = true := ⟨by rw [e3, hr1]; exact decide_eq_true (by omega), by rw [e2]; exact hr2⟩
          have hv := refVerb p.1 hps
          cases hvf : verbF p.1
          · rw [hvf] at hv
            refine bad _ ?_ (fun _ => ?_)
            · cases ht : toks s.length (wordOf (c :: r)).2 with
              | none => rfl
              | some ts =>
                have : mayF (cmdOf (true, (wordOf (c :: r)).1) ts).f0 (cmdOf (true, (wordOf (c :: r)).1) ts).f1 = false := by
                  show mayF (mkB (wordOf (c :: r)).1) _ = false
                  rw [← hr1, ← e1]; unfold mayF; rw [hvf]; rfl
                dsimp only [Option.map_some]
                rw [this, Bool.and_false, if_neg (by simp)]
            · refine Ev.congr (fun k => ?_) (Ev.bind hv (f := fun k t => privityref53_line.j4 k true p.1 (mkB p.2.2.1) (!t) ⟨#[]⟩ []) (j4_bad true p.1 (mkB p.2.2.1) ⟨#[]⟩ []))
              unfold after
              rw [if_pos rfl, if_pos e0]
          · rw [hvf] at hv
            obtain ⟨res, he, hm⟩ := rest_go s.length p.2.2.1 p.1 [] (by rw [e2, hr1]; omega) (by rw [e2, hr1]; omega) hps (by rw [e2, hr1]; simp; omega)
            refine ⟨res, toJ3 res (j3_ev c r hcl true ⟨#[]⟩ [] res p hp ?_), ?_⟩
            · rw [if_pos hg]
              refine Ev.congr (fun k => ?_) (Ev.bind hv (f := fun k t => privityref53_line.j4 k true p.1 (mkB p.2.2.1) (!t) ⟨#[]⟩ []) (Ev.step (fun k => by rw [privityref53_line.j4, if_neg (by simp), if_pos rfl]) he))
              unfold after
              rw [if_pos rfl, if_pos e0]
            · rw [e2, hr1] at hm
              cases ht : toks s.length (wordOf (c :: r)).2 with
              | none => rw [ht] at hm; exact hm
              | some ts =>
                rw [ht] at hm
                dsimp only [Option.map_some] at hm ⊢
                rw [e1, hr1, List.nil_append] at hm
                rw [Bool.true_and]
                show (match (if mayF (mkB (wordOf (c :: r)).1) (ts.map (fun t => mkB t.2)) = true then LineR.cmd (cmdOf (true, (wordOf (c :: r)).1) ts) else .bad) with | .skip => _ | .cmd x => _ | .bad => _)
                cases hmf : mayF (mkB (wordOf (c :: r)).1) (ts.map (fun t => mkB t.2))
                · rw [if_neg (by simp)]; rw [hm, hmf]
                · rw [if_pos rfl]; rw [hm, hmf]; rfl
        · rw [if_neg hall] at hrw ⊢
          refine bad _ rfl (fun hg => ?_)
          rw [e2, hrw] at hg
          exact absurd hg.2 (by simp)
theorem nl_scan (a rest : List UInt8) (ha : (10 : UInt8) ∉ a) (hr : rest = [] ∨ ∃ t, rest = 10 :: t) (hl : (a ++ rest).length ≤ 1000000) (acc : List S36) (at_ : Int) (res : List S36 × Int × Int)
    (h : Ev (fun k => privityref53_Parse.j2 k (mkB (a ++ rest)) acc at_ (a.length : Int)) res) : ∀ (d i : Nat), a.length - i = d → i ≤ a.length → Ev (fun k => privityref53_Parse.l1 k (mkB (a ++ rest)) acc at_ (i : Int)) res := by
  intro d
  induction d with
  | zero =>
    intro i hd hi
    obtain rfl : i = a.length := by omega
    have hs := mkB_size (a ++ rest)
    rcases hr with rfl | ⟨t, rfl⟩
    · have c1 : ¬ (a.length : Int) < ((mkB (a ++ [])).size : Int) := by rw [List.append_nil] at *; omega
      exact Ev.step (fun k => by rw [privityref53_Parse.l1, if_neg c1]) h
    · have hlt : a.length < (a ++ 10 :: t).length := by simp
      have c1 : (a.length : Int) < ((mkB (a ++ 10 :: t)).size : Int) := by omega
      have c2 : 0 ≤ (a.length : Int) := by omega
      have hb : bt (mkB (a ++ 10 :: t)) (a.length : Int) = 10 := by
        have h1 := bt_nat (a ++ 10 :: t) a.length hlt
        have h2 : (a ++ 10 :: t)[a.length] = 10 := by simp
        rw [h2] at h1; exact h1
      exact Ev.step (fun k => by rw [privityref53_Parse.l1, if_pos c1, if_pos c2, if_pos hb]) h
  | succ d ih =>
    intro i hd hi
    have hs := mkB_size (a ++ rest)
    rw [List.length_append] at hs
    have hia : i < a.length := by omega
    have hlt : i < (a ++ rest).length := by simp; omega
    have c1 : (i : Int) < ((mkB (a ++ rest)).size : Int) := by omega
    have c2 : 0 ≤ (i : Int) := by omega
    have m1 : (a ++ rest).length ≤ 9223372036854775807 := by omega
    have hx := ih (i + 1) (by omega) (by omega)
    have hb : bt (mkB (a ++ rest)) (i : Int) = ((a ++ rest)[i].toNat : Int) := bt_nat _ _ hlt
    have hn : ¬ bt (mkB (a ++ rest)) (i : Int) = 10 := by
      rw [hb]
      have h2 : (a ++ rest)[i] = a[i] := List.getElem_append_left hia
      rw [h2]
      exact fun e => ha (by rw [← (n10 _).1 e]; exact List.getElem_mem hia)
    exact Ev.step (fun k => by rw [privityref53_Parse.l1, if_pos c1, if_pos c2, if_neg hn, wrap_nat hlt m1]) hx
theorem refParse_go : ∀ (m : Nat) (s : List UInt8) (acc : List S36) (n : Nat), s.length < m → s.length ≤ 500000 → acc.length + s.length ≤ 2000000 → n + s.length ≤ 2000000 →
    Ev (fun k => privityref53_Parse.l0 k (mkB s) acc ((n + 1 : Nat) : Int)) (parseL (spl 10 false s) n acc) := by
  intro m
  induction m with
  | zero => intro s acc n h; omega
  | succ m ih =>
    intro s acc n hm hl ha hn
    obtain ⟨a, rest, hs, hna, hrest⟩ : ∃ a rest, s = a ++ rest ∧ (10 : UInt8) ∉ a ∧ (rest = [] ∨ ∃ t, rest = 10 :: t) := by
      rcases cut_or 10 s with h | ⟨a, t, rfl, h⟩
      · exact ⟨s, [], by simp, h, .inl rfl⟩
      · exact ⟨a, 10 :: t, rfl, h, .inr ⟨t, rfl⟩⟩
    subst hs
    have hla : a.length ≤ 900000 := by rw [List.length_append] at hl; omega
    have hsz := mkB_size (a ++ rest)
    rw [List.length_append] at hsz
    have c1 : 0 ≤ (a.length : Int) := by omega
    have c2 : (a.length : Int) ≤ ((mkB (a ++ rest)).size : Int) := by omega
    have hacc : acc.length < 3518437208883 := by omega
    have e1 : (mkB (a ++ rest)).extract 0 (a.length : Int).toNat = mkB a := by unfold mkB; rw [ext_eq]; simp
    obtain ⟨lr, he, hline⟩ := refLine a hla
    have hpl : parseL (spl 10 false (a ++ rest)) n acc = (match lineP a with
        | .skip => parseL (spl 10 false (a ++ rest)).tail (n + 1) acc
        | .cmd x => parseL (spl 10 false (a ++ rest)).tail (n + 1) (acc ++ [x])
        | .bad => ([], ((n + 1 : Nat) : Int), 3)) := by
      rcases hrest with rfl | ⟨t, rfl⟩
      · rw [List.append_nil, spl_no 10 false a hna]; rfl
      · rw [spl_app 10 t a hna]; rfl
    refine Ev.step (f := fun k => privityref53_Parse.l1 k (mkB (a ++ rest)) acc ((n + 1 : Nat) : Int) 0) (fun k => by rw [privityref53_Parse.l0]) (nl_scan a rest hna hrest (by omega) acc ((n + 1 : Nat) : Int) _ ?_ _ 0 rfl (Nat.zero_le _))
    refine Ev.step (fun k => by rw [privityref53_Parse.j2, if_pos c1, if_pos c2, e1]) (Ev.bind he ?_)
    -- what follows the line
    have next : ∀ acc' : List S36, acc'.length ≤ acc.length + 1 → Ev (fun k => (if (a.length : Int) = ((mkB (a ++ rest)).size : Int) then (some (acc', 0, 0)) else (if 0 ≤ (wrap64 ((a.length : Int) + 1)) then (if (wrap64 ((a.length : Int) + 1)) ≤ ((mkB (a ++ rest)).size : Int) then (privityref53_Parse.l0 k ((mkB (a ++ rest)).extract ((wrap64 ((a.length : Int) + 1)) : Int).toNat (mkB (a ++ rest)).size) acc' (wrap64 (((n + 1 : Nat) : Int) + 1))) else (none)) else (none)))) (parseL (spl 10 false (a ++ rest)).tail (n + 1) acc') := by
      intro acc' hacc'
      rcases hrest with rfl | ⟨t, rfl⟩
      · have c3 : (a.length : Int) = ((mkB (a ++ [])).size : Int) := by rw [List.length_nil] at hsz; omega
        refine Ev.congr (f := fun _ => some (acc', 0, 0)) (fun k => by rw [if_pos c3]) ?_
        rw [List.append_nil, spl_no 10 false a hna]
        exact Ev.now _
      · rw [List.length_cons] at hsz
        have hlt : a.length < (a ++ 10 :: t).length := by simp
        have c3 : ¬ (a.length : Int) = ((mkB (a ++ 10 :: t)).size : Int) := by omega
        have c4 : 0 ≤ ((a.length + 1 : Nat) : Int) := by omega
        have c5 : ((a.length + 1 : Nat) : Int) ≤ ((mkB (a ++ 10 :: t)).size : Int) := by omega
        have m1 : (a ++ 10 :: t).length ≤ 9223372036854775807 := by omega
        have hw2 : wrap64 (((n + 1 : Nat) : Int) + 1) = ((n + 1 + 1 : Nat) : Int) := wrap64_nat (n + 1) (by omega)
        have e2 : (mkB (a ++ 10 :: t)).extract ((a.length + 1 : Nat) : Int).toNat (mkB (a ++ 10 :: t)).size = mkB t := by
          rw [mkB_size]
          unfold mkB
          rw [ext_eq]
          have : (a ++ 10 :: t).drop ((a.length + 1 : Nat) : Int).toNat = t := by
            rw [show ((a.length + 1 : Nat) : Int).toNat = (a ++ [(10 : UInt8)]).length by rw [Int.toNat_natCast]; simp, show a ++ (10 : UInt8) :: t = (a ++ [10]) ++ t by simp, List.drop_left]
          rw [this, List.take_of_length_le (by simp; omega)]
        have hlen : (a ++ 10 :: t).length = a.length + t.length + 1 := by simp; omega
        have hx := ih t acc' (n + 1) (by omega) (by omega) (by omega) (by omega)
        refine Ev.congr (fun k => ?_) (by rw [spl_app 10 t a hna]; exact hx)
        rw [if_neg c3, wrap_nat hlt m1, if_pos c4, if_pos c5, e2, hw2]
    obtain ⟨v, ws, tells, ok⟩ := lr
    unfold LineOk at hline
    rw [hpl]
    cases hlp : lineP a with
    | skip =>
      rw [hlp] at hline
      obtain ⟨rfl, rfl⟩ : tells = false ∧ ok = true := by simpa using hline
      refine Ev.congr (fun k => ?_) (next acc (by omega))
      rw [if_pos rfl, if_neg (by simp)]
    | cmd x =>
      rw [hlp] at hline
      obtain ⟨rfl, rfl, rfl, rfl⟩ : v = x.f0 ∧ ws = x.f1 ∧ tells = true ∧ ok = true := by simpa using hline
      refine Ev.congr (fun k => ?_) (next (acc ++ [x]) (by simp))
      rw [if_pos rfl, if_pos rfl, if_pos hacc]
      rfl
    | bad =>
      rw [hlp] at hline
      obtain rfl : ok = false := by simpa using hline
      refine Ev.congr (f := fun _ => some ([], ((n + 1 : Nat) : Int), 3)) (fun k => ?_) (Ev.now _)
      rw [if_neg (by simp)]
theorem refParse (s : List UInt8) (hl : s.length ≤ 500000) : Ev (fun k => privityref53_Parse.f k (mkB s)) (parseT s) :=
  refParse_go (s.length + 1) s [] 0 (by omega) hl (by simp; omega) (by omega)
end Go.Proofs.YtfgbdcpfbghdoaaGreatDoor.P
end
