/- What is proved here: a part of the proof of ScriptFormatInjective: Spf. No conditions beside those that each theorem states. -/
import Derived.Test.YtfgbdcpfbghdoaaGreatDoorKSFIve36
import Derived.Test.YtfgbdcpfbghdoaaGreatDoorKSFIve22
import Derived.Test.YtfgbdcpfbghdoaaGreatDoorKSFIve21
section
set_option linter.unusedVariables false
set_option linter.unusedSimpArgs false
namespace Go.Proofs.YtfgbdcpfbghdoaaGreatDoor.P
open Go.RowKit Go.Proofs.YtfgbdcpfbghdoaaGreatDoorW.PrintWords Go.Proofs.YtfgbdcpfbghdoaaGreatDoorW.PrintLast Go.Proofs.YtfgbdcpfbghdoaaGreatDoorW.PrintMore
inductive LineR where
  | skip
  | cmd (x : S36)
  | bad
def isNote (l : List UInt8) : Bool := ([35] : List UInt8).isPrefixOf (dsp l)
def cmdOf (t : Bool × List UInt8) (ts : List (Bool × List UInt8)) : S36 := ⟨mkB t.2, ts.map (fun t => mkB t.2)⟩
def lineP (l : List UInt8) : LineR :=
  if isNote l then .skip else match toks (l.length + 1) l with
    | none => .bad
    | some [] => .skip
    | some (t :: ts) => if t.1 && mayF (cmdOf t ts).f0 (cmdOf t ts).f1 then .cmd (cmdOf t ts) else .bad
def parseL : List (List UInt8) → Nat → List S36 → List S36 × Int × Int
  | [], _, acc => (acc, 0, 0)
  | l :: r, n, acc => match lineP l with
    | .skip => parseL r (n + 1) acc
    | .cmd x => parseL r (n + 1) (acc ++ [x])
    | .bad => ([], ((n + 1 : Nat) : Int), 3)
def parseT (s : List UInt8) : List S36 × Int × Int := parseL (spl 10 false s) 0 []
theorem openL_len : ∀ (l w : List UInt8), openL l = some w → w.length ≤ l.length := by
  intro l
  induction hn : l.length using Nat.strongRecOn generalizing l with
  | _ n ih =>
    intro w h
    match l, hn, h with
    | [], _, h => simp [openL] at h; subst h; simp
    | [c], hn, h =>
      rw [openL] at h
      split at h
      · cases h
      · cases h; simpa using Nat.le_of_eq hn
    | c :: d :: r, hn, h =>
      simp only [List.length_cons] at hn
      by_cases h94 : c = 94
      · rw [openL, if_pos h94] at h
        have key : ∀ x : UInt8, (openL r).map (x :: ·) = some w → w.length ≤ n := by
          intro x hx
          obtain ⟨y, hy, rfl⟩ := Option.map_eq_some_iff.1 hx
          have := ih r.length (by omega) r rfl y hy
          simp only [List.length_cons]; omega
        split at h
        · exact key _ h
        · split at h
          · exact key _ h
          · split at h
            · exact key _ h
            · cases h
      · rw [openL_cons c _ h94] at h
        obtain ⟨y, hy, rfl⟩ := Option.map_eq_some_iff.1 h
        have := ih (d :: r).length (by simp only [List.length_cons]; omega) (d :: r) rfl y hy
        simp only [List.length_cons] at *; omega
theorem cutQ_some {r : List UInt8} {p : List UInt8 × List UInt8} (hq : cutQ r = some p) : r = p.1 ++ 34 :: p.2 ∧ (34 : UInt8) ∉ p.1 := by
  rcases cut_or 34 r with h | ⟨a, t', rfl, h⟩
  · rw [cutQ_no r h] at hq; cases hq
  · rw [cutQ_app t' a h] at hq; cases hq; exact ⟨rfl, h⟩
theorem toks_len : ∀ (n : Nat) (s : List UInt8) (ts : List (Bool × List UInt8)), toks n s = some ts → (∀ t ∈ ts, t.2.length ≤ s.length) ∧ ts.length ≤ s.length := by
  intro n
  induction n with
  | zero => intro s ts h; simp [toks] at h
  | succ n ih =>
    intro s ts h
    have hd := dsp_le s
    rw [toks] at h
    cases hs : dsp s with
    | nil => rw [hs] at h; simp at h; subst h; simp
    | cons c r =>
      rw [hs] at h hd
      simp only [List.length_cons] at hd
      dsimp only at h
      by_cases h34 : c = 34
      · rw [if_pos h34] at h
        cases hq : cutQ r with
        | none => rw [hq] at h; cases h
        | some p =>
          obtain ⟨hit, _⟩ := cutQ_some hq
          have hit' := congrArg List.length hit
          simp only [List.length_append, List.length_cons] at hit'
          rw [hq] at h; dsimp only at h
          cases ho : openL p.1 with
          | none => rw [ho] at h; cases h
          | some w =>
            have hw := openL_len _ _ ho
            rw [ho] at h; dsimp only at h
            split at h
            · obtain ⟨ts', ht, rfl⟩ := Option.map_eq_some_iff.1 h
              obtain ⟨h1, h2⟩ := ih _ _ ht
              refine ⟨fun t htm => ?_, by simp only [List.length_cons]; omega⟩
              rcases List.mem_cons.1 htm with rfl | htm
              · show w.length ≤ _; omega
              · have := h1 t htm; omega
            · cases h
      · rw [if_neg h34] at h
        split at h
        · have hw := congrArg List.length (wordOf_app (c :: r))
          simp only [List.length_append, List.length_cons] at hw
          have h32 : c ≠ 32 := fun e => dsp_head s r (by rw [hs, e])
          have hw1 : 1 ≤ (wordOf (c :: r)).1.length := by rw [wordOf, if_neg h32]; simp
          obtain ⟨ts', ht, rfl⟩ := Option.map_eq_some_iff.1 h
          obtain ⟨h1, h2⟩ := ih _ _ ht
          refine ⟨fun t htm => ?_, by simp only [List.length_cons]; omega⟩
          rcases List.mem_cons.1 htm with rfl | htm
          · show (wordOf (c :: r)).1.length ≤ _; omega
          · have := h1 t htm; omega
        · cases h
theorem mayEv (v : ByteArray) (ws : List ByteArray) (hv : v.size ≤ 140737488355328) : Ev (fun k => script_may.f k v ws) (mayF v ws) := ⟨50, fun k hk => may_ev v ws hv k hk⟩
theorem rdB (L : List (List UInt8)) (i : Nat) (h : i < L.length) : rdOf ByteArray.empty (L.map mkB) (i : Int) = mkB L[i] := by
  simp [rdOf, List.getD_eq_getElem?_getD, List.getElem?_map, List.getElem?_eq_getElem h]
theorem parse_go (L : List (List UInt8)) (hL : L.length ≤ 1000000) (hl : ∀ l ∈ L, l.length ≤ 1000000) : ∀ (d i : Nat) (acc : List S36), L.length - i = d → i ≤ L.length → acc.length + (L.length - i) ≤ 2000000 →
    Ev (fun k => script_Parse.l0 k acc (L.map mkB) (L.length : Int) (i : Int)) (parseL (L.drop i) i acc) := by
  intro d
  induction d with
  | zero =>
    intro i acc hd hi ha
    rw [List.drop_of_length_le (by omega)]
    exact Ev.step (f := fun _ => some (acc, 0, 0)) (fun k => by simp only [script_Parse.l0]; rw [if_neg (by omega)]) (Ev.now _)
  | succ d ih =>
    intro i acc hd hi ha
    have hlt : i < L.length := by omega
    have hw : wrap64 ((i : Int) + 1) = ((i + 1 : Nat) : Int) := wrap64_nat i (by omega)
    have hll := hl L[i] (List.getElem_mem hlt)
    rw [List.drop_eq_getElem_cons hlt, parseL, lineP]
    have hstep : ∀ k, script_Parse.l0 (k + 1) acc (L.map mkB) (L.length : Int) (i : Int) = (if isNote L[i] = true then script_Parse.l0 k acc (L.map mkB) (L.length : Int) ((i + 1 : Nat) : Int) else ((script_pieces.f k (mkB L[i])).bind fun bt129 => (if bt129.2.2 = true then (script_Parse.j1 k acc (i : Int) bt129.1 bt129.2.1 bt129.2.2 (L.map mkB) (L.length : Int) (i : Int) ((bt129.1.length : Int) == 0)) else (script_Parse.j1 k acc (i : Int) bt129.1 bt129.2.1 bt129.2.2 (L.map mkB) (L.length : Int) (i : Int) false)))) := by
      intro k
      simp only [script_Parse.l0]
      rw [if_pos (by omega), if_pos (by omega), if_pos (by rw [List.length_map]; omega), rdB L i hlt, trim_ev]
      simp only [Option.bind_some]
      unfold strings_HasPrefix.f
      rw [mkB_list, hw]
      rfl
    cases hnote : isNote L[i]
    · rw [if_neg (by simp)]
      refine Ev.step (fun k => by rw [hstep, hnote, if_neg (by simp)]) (Ev.bind (pieces_ev L[i] hll) ?_)
      cases ht : toks (L[i].length + 1) L[i] with
      | none =>
        dsimp only [resP]
        refine Ev.congr (fun k => if_neg (by simp)) ?_
        refine Ev.step (fun k => by simp only [script_Parse.j1]; rw [if_neg (by simp), if_neg (by simp)]) ?_
        refine Ev.step (f := fun _ => some (([] : List S36), ((i + 1 : Nat) : Int), 3)) (fun k => by simp only [script_Parse.j2, if_true, hw]) (Ev.now _)
      | some ts =>
        obtain ⟨hlen, hcnt⟩ := toks_len _ _ _ ht
        cases ts with
        | nil =>
          dsimp only [resP, firstOf]
          refine Ev.congr (fun k => if_pos rfl) ?_
          have h1 := ih (i + 1) acc (by omega) (by omega) (by omega)
          refine Ev.step (fun k => ?_) h1
          simp only [script_Parse.j1]
          rw [if_pos (by simp), hw]
        | cons t ts =>
          dsimp only [resP, firstOf]
          refine Ev.congr (fun k => if_pos rfl) ?_
          have hne : (((([] : List ByteArray) ++ (t :: ts).map (fun t => mkB t.2)).length : Int) == 0) = false := by
            simp; omega
          refine Ev.step (fun k => by simp only [script_Parse.j1, hne, if_true, Bool.false_eq_true, if_false]; rfl) ?_
          simp only [List.nil_append, List.map_cons, List.isEmpty_nil, Bool.true_and, Bool.false_or]
          cases hb : t.1
          · rw [Bool.false_and, if_neg (by simp)]
            exact Ev.step (f := fun _ => some (([] : List S36), ((i + 1 : Nat) : Int), 3)) (fun k => by simp only [script_Parse.j2, Bool.not_false, if_true, hw]) (Ev.now _)
          · rw [Bool.true_and]
            have hr0 : rdOf ByteArray.empty (mkB t.2 :: ts.map (fun t => mkB t.2)) 0 = mkB t.2 := by simp [rdOf]
            have hsz : (mkB t.2).size ≤ 140737488355328 := by
              rw [mkB_size]; have := hlen t (List.mem_cons_self ..); omega
            refine Ev.step (fun k => by
              simp only [script_Parse.j2]
              rw [if_neg (by simp), if_pos (by simp only [List.length_cons]; omega), if_pos (by simp only [List.length_cons]; omega)]
              simp only [Option.bind_some, List.drop_succ_cons, List.drop_zero]
              rw [hr0]) (Ev.bind (mayEv _ _ hsz) ?_)
            show Ev _ (match (if mayF (mkB t.2) (ts.map (fun t => mkB t.2)) = true then LineR.cmd (cmdOf t ts) else .bad) with | .skip => _ | .cmd x => _ | .bad => _)
            cases hm : mayF (mkB t.2) (ts.map (fun t => mkB t.2))
            · rw [if_neg (by simp)]
              refine Ev.congr (f := fun _ => some (([] : List S36), ((i + 1 : Nat) : Int), 3)) (fun k => ?_) (Ev.now _)
              rw [if_neg (by simp), hw]
            · rw [if_pos rfl]
              have h1 := ih (i + 1) (acc ++ [cmdOf t ts]) (by omega) (by omega) (by simp; omega)
              refine Ev.congr (fun k => ?_) h1
              rw [if_pos rfl, if_pos (by omega), hw]
              rfl
    · rw [if_pos rfl]
      have h1 := ih (i + 1) acc (by omega) (by omega) (by omega)
      exact Ev.step (fun k => by rw [hstep, hnote, if_pos rfl]) h1
theorem spl_sizes (c : UInt8) : ∀ l : List UInt8, (spl c false l).length ≤ l.length + 1 ∧ ∀ x ∈ spl c false l, x.length ≤ l.length
  | [] => by simp [spl]
  | b :: r => by
    obtain ⟨h1, h2⟩ := spl_sizes c r
    unfold spl
    by_cases h : b = c
    · rw [if_pos h]
      refine ⟨by simp only [List.length_cons]; omega, fun x hx => ?_⟩
      rcases List.mem_cons.1 hx with rfl | hx
      · simp
      · have := h2 x hx; simp only [List.length_cons]; omega
    · rw [if_neg h]
      split
      · exact ⟨by simp, fun x hx => by simp at hx; subst hx; simp⟩
      · next p q hpq =>
        rw [hpq] at h1 h2
        refine ⟨by simp only [List.length_cons] at *; omega, fun x hx => ?_⟩
        rcases List.mem_cons.1 hx with rfl | hx
        · have := h2 p (List.mem_cons_self ..); simp only [List.length_cons]; omega
        · have := h2 x (List.mem_cons_of_mem _ hx); simp only [List.length_cons]; omega
theorem parse_ev (s : List UInt8) (hl : s.length ≤ 500000) : Ev (fun k => script_Parse.f k (mkB s)) (parseT s) := by
  obtain ⟨h1, h2⟩ := spl_sizes 10 s
  have h3 := parse_go (spl 10 false s) (by omega) (fun l hx => by have := h2 l hx; omega) _ 0 [] rfl (Nat.zero_le _) (by simp; omega)
  refine Ev.congr (fun k => ?_) h3
  unfold script_Parse.f strings_Split.f
  rw [if_pos ⟨by rw [mkB_size]; omega, rfl⟩]
  have h4 := pieces_spl (mkB s) 10 false
  rw [mkB_list] at h4
  rw [show piecesB (mkB s) ⟨#[10]⟩ 0 = (spl 10 false s).map mkB from h4]
  simp only [Option.bind_some, List.length_map]
  rfl
end Go.Proofs.YtfgbdcpfbghdoaaGreatDoor.P
end
