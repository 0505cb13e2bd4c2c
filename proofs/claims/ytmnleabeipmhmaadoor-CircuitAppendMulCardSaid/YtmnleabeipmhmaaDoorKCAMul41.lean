/- What is proved here: a part of the proof of CircuitAppendMul: Cpt, Csl. No conditions beside those that each theorem states. -/
import Derived.Test.YtmnleabeipmhmaaDoorKCAMul40
import Derived.Test.YtmnleabeipmhmaaDoorKCAMul30
section
set_option linter.unusedVariables false
set_option linter.unusedSimpArgs false
namespace Go.Proofs.YtmnleabeipmhmaaDoor.P
open Go.RowKit Go.Proofs.YtmnleabeipmhmaaDoorW.PrintWords Go.Proofs.YtmnleabeipmhmaaDoorW.PrintLast Go.Proofs.YtmnleabeipmhmaaDoorW.PrintMore
def parseNums : List (List UInt8) → Option (List Int)
  | [] => some []
  | x :: r => if (parseD x).2 = 0 then (parseNums r).map (((parseD x).1 : Int) :: ·) else none
theorem parseAll_mk : ∀ ws : List (List UInt8), zcz (ws.map mkB) = parseNums ws
  | [] => rfl
  | x :: r => by
    simp only [List.map_cons, zcz, parseNums, mkB_list, parseAll_mk r]
def splitP (l : List UInt8) : List UInt8 × List Int × Bool := match spl 32 false l with
  | [] => ([], [], false)
  | p :: r => match parseNums r with
    | some ns => (p, ns, true)
    | none => ([], [], false)
theorem split_mk (l : List UInt8) : splitF (mkB l) = (mkB (splitP l).1, (splitP l).2.1, (splitP l).2.2) := by
  unfold splitF splitP
  have h := pieces_spl (mkB l) 32 false
  rw [mkB_list] at h
  simp only [Bool.false_eq_true, if_false] at h
  rw [h]
  cases hs : spl 32 false l with
  | nil => exact absurd hs (spl_ne _ _ _)
  | cons p r =>
    simp only [List.map_cons, splitL, parseAll_mk]
    cases parseNums r <;> rfl
def madeP (P : Int) (word : List UInt8) (l : List Int) (at_ : Int) : S43 × Bool := match forms.find? (fun f => f.word == word) with
  | some f => madeG f P l at_
  | none => (z43, false)
theorem made_mk (P : Int) (word : List UInt8) (l : List Int) (at_ : Int) : madeF P (mkB word) l at_ = madeP P word l at_ := by
  unfold madeF madeP
  have : (fun f : Form => !wordNe f (mkB word)) = (fun f => f.word == word) := by
    funext f
    simp [wordNe, mkB_toList]
  rw [this]
  cases forms.find? (fun f => f.word == word) <;> rfl
def lineP (s : St) (l : List UInt8) : Option St :=
  if (splitP l).2.2 = true ∧ s.is = false then
    if s.begun = true then
      if (splitP l).1 = [111, 117, 116] then
        if (splitP l).2.1.length ≤ 1000 then (outsF s.gs.length (splitP l).2.1 s.os).map (fun os => { s with os := os, is := true }) else none
      else if (madeP s.P (splitP l).1 (splitP l).2.1 s.gs.length).2 = true ∧ s.gs.length < 20000 then some { s with gs := s.gs ++ [(madeP s.P (splitP l).1 (splitP l).2.1 s.gs.length).1] } else none
    else if (splitP l).1 = [112, 114, 105, 109, 101] then
      match (splitP l).2.1 with
      | [x] => if (expF x != 0) = true then some { s with P := x, begun := true } else none
      | _ => none
    else none
  else none
theorem line_mk (s : St) (l : List UInt8) : lineF s (mkB l) = lineP s l := by
  unfold lineF lineP
  rw [split_mk]
  simp only [mkB_toList, made_mk]
  rfl
def runB : List (List UInt8) → Nat → St → Except Nat St
  | [], _, s => .ok s
  | x :: r, i, s => match lineP s x with
    | some s' => runB r (i + 1) s'
    | none => .error (i + 1)
theorem cut_mk (l : List UInt8) (h : 10 ∉ l) : cutN (mkB (l ++ [10])) = (mkB l, true) := by
  have he : endsN (mkB (l ++ [10])) = true := by
    unfold endsN
    rw [mkB_list]
    exact List.isSuffixOf_iff_suffix.2 ⟨l, rfl⟩
  unfold cutN
  rw [if_pos he]
  congr 1
  unfold mkB
  rw [ext_eq, sz]
  simp
theorem cut_no (l : List UInt8) (h : 10 ∉ l) : (cutN (mkB l)).2 = false := by
  have he : endsN (mkB l) = false := by
    unfold endsN
    rw [mkB_list]
    cases hb : ([10] : List UInt8).isSuffixOf l with
    | false => rfl
    | true =>
      obtain ⟨t, ht⟩ := List.isSuffixOf_iff_suffix.1 hb
      exact absurd (by rw [← ht]; simp) h
  unfold cutN
  rw [if_neg (by rw [he]; decide)]
def zcw : List UInt8 → List (List UInt8) × List UInt8
  | [] => ([], [])
  | b :: r => if b = 10 then ([] :: (zcw r).1, (zcw r).2) else
      match (zcw r).1 with
      | [] => ([], b :: (zcw r).2)
      | p :: q => ((b :: p) :: q, (zcw r).2)
theorem bodies_spl : ∀ l : List UInt8, spl 10 true l = (zcw l).1.map (· ++ [10]) ++ [(zcw l).2] ∧ spl 10 false l = (zcw l).1 ++ [(zcw l).2] ∧ (∀ x ∈ (zcw l).1, (10 : UInt8) ∉ x) ∧ (10 : UInt8) ∉ (zcw l).2
  | [] => by simp [spl, zcw]
  | b :: r => by
    obtain ⟨h1, h2, h3, h4⟩ := bodies_spl r
    unfold spl zcw
    by_cases h : b = 10
    · subst h
      simp only [if_true]
      refine ⟨by rw [h1]; simp, by rw [h2]; simp, ?_, h4⟩
      intro x hx
      rcases List.mem_cons.1 hx with hx | hx
      · subst hx; simp
      · exact h3 x hx
    · simp only [if_neg h]
      rw [h1, h2]
      cases hb : (zcw r).1 with
      | nil =>
        simp only [List.map_nil, List.nil_append]
        refine ⟨by first | rfl | trivial, by first | rfl | trivial, fun x hx => (by cases hx), ?_⟩
        simp only [List.mem_cons, not_or]
        exact ⟨fun e => h e.symm, h4⟩
      | cons p q =>
        rw [hb] at h3
        simp only [List.map_cons, List.cons_append]
        refine ⟨by first | rfl | trivial, by first | rfl | trivial, ?_, h4⟩
        intro x hx
        rcases List.mem_cons.1 hx with hx | hx
        · subst hx
          simp only [List.mem_cons, not_or]
          exact ⟨fun e => h e.symm, h3 p (List.mem_cons_self ..)⟩
        · exact h3 x (List.mem_cons_of_mem _ hx)
theorem go_bodies : ∀ (bs : List (List UInt8)) (tl : List UInt8) (i : Nat) (s : St), (∀ x ∈ bs, (10 : UInt8) ∉ x) → (10 : UInt8) ∉ tl →
    goF ((bs.map (· ++ [10]) ++ [tl]).map mkB) i s = (match runB bs i s with
      | .ok s' => if tl = [] then .ok s' else .error (i + bs.length + 1)
      | .error k => .error k)
  | [], tl, i, s, _, ht => by
    simp only [List.map_nil, List.nil_append, List.map_cons, runB, goF, mkB_toList, List.length_nil, Nat.add_zero]
    by_cases h : tl = []
    · rw [if_pos h, if_pos h]
    · rw [if_neg h, if_neg h, if_neg (by rw [cut_no tl ht]; decide)]
  | x :: r, tl, i, s, hb, ht => by
    have hx : (10 : UInt8) ∉ x := hb x (List.mem_cons_self ..)
    simp only [List.map_cons, List.cons_append, runB, goF, mkB_toList, cut_mk x hx, line_mk]
    rw [if_neg (by simp), if_pos trivial]
    cases lineP s x with
    | none => rfl
    | some s' =>
      simp only
      rw [go_bodies r tl (i + 1) s' (fun y hy => hb y (List.mem_cons_of_mem _ hy)) ht]
      simp only [List.length_cons]
      rw [show i + 1 + r.length + 1 = i + (r.length + 1) + 1 by omega]
def parseP (l : List UInt8) : Int × List S43 × List Int × Int × Int :=
  match runB (zcw l).1 0 St0 with
  | .error k => (0, [], [], (k : Int), 3)
  | .ok s => if (zcw l).2 = [] ∧ s.is = true then (s.P, s.gs, s.os, 0, 0) else (0, [], [], (((zcw l).1.length + 1 : Nat) : Int), 3)
theorem parse_mk (l : List UInt8) : parseF (mkB l) = parseP l := by
  have hp := pieces_spl (mkB l) 10 true
  rw [mkB_list] at hp
  simp only [if_true] at hp
  obtain ⟨h1, _, h3, h4⟩ := bodies_spl l
  unfold parseF parseP
  rw [hp, h1, go_bodies _ _ _ _ h3 h4]
  cases runB (zcw l).1 0 St0 with
  | error k => rfl
  | ok s =>
    simp only [List.length_map, List.length_append, List.length_cons, List.length_nil]
    by_cases ht : (zcw l).2 = []
    · rw [if_pos ht]
      simp only [endF, ht, true_and]
    · rw [if_neg ht, if_neg (fun h => ht h.1)]
      simp only [endF, Nat.zero_add]
theorem parse_c (l : List UInt8) (h : l.length < 4294967281) : zbt.f ⟨l.toArray⟩ = some (parseP l) := by
  unfold zbt.f
  rw [gate_eq, if_pos (by rw [sz]; simpa using h)]
  exact congrArg some (parse_mk l)
end Go.Proofs.YtmnleabeipmhmaaDoor.P
end
section
set_option linter.unusedVariables false
set_option linter.unusedSimpArgs false
namespace Go.Proofs.YtmnleabeipmhmaaDoor.P
open Go.RowKit Go.Proofs.YtmnleabeipmhmaaDoorW.PrintWords Go.Proofs.YtmnleabeipmhmaaDoorW.PrintLast Go.Proofs.YtmnleabeipmhmaaDoorW.PrintMore
open Lib (decDigits)
theorem spl_join (c : UInt8) : ∀ l : List UInt8, ∃ p r, spl c false l = p :: r ∧ l = p ++ r.flatMap (c :: ·)
  | [] => ⟨[], [], rfl, rfl⟩
  | b :: l => by
    obtain ⟨p, r, h1, h2⟩ := spl_join c l
    unfold spl
    by_cases h : b = c
    · rw [if_pos h]
      refine ⟨[], spl c false l, by simp, ?_⟩
      rw [h1, h]
      simp only [List.nil_append, List.flatMap_cons]
      rw [h2]; simp
    · rw [if_neg h, h1]
      exact ⟨b :: p, r, rfl, by rw [h2]; simp⟩
theorem parseNums_inv : ∀ (ws : List (List UInt8)) (ns : List Int), parseNums ws = some ns → ws = ns.map (fun n => decDigits n.toNat) ∧ U64 ns
  | [], ns, h => by cases h; exact ⟨rfl, fun x hx => by cases hx⟩
  | x :: r, ns, h => by
    simp only [parseNums] at h
    split at h
    · next h0 =>
      rw [Option.map_eq_some_iff] at h
      obtain ⟨m, hm, rfl⟩ := h
      obtain ⟨h1, h2⟩ := parseNums_inv r m hm
      obtain ⟨h3, h4⟩ := parse_exact x h0
      refine ⟨?_, ?_⟩
      · simp only [List.map_cons, Int.toNat_natCast]
        rw [h4, ← h1]
      · intro y hy
        rcases List.mem_cons.1 hy with hy | hy
        · subst hy; exact ⟨by omega, by omega⟩
        · exact h2 y hy
    · cases h
theorem split_inv (l w : List UInt8) (ns : List Int) (h : splitP l = (w, ns, true)) : l = lineT w ns ∧ U64 ns := by
  unfold splitP at h
  obtain ⟨p, r, h1, h2⟩ := spl_join 32 l
  rw [h1] at h
  simp only at h
  cases hp : parseNums r with
  | none => rw [hp] at h; simp at h
  | some m =>
    rw [hp] at h
    simp only [Prod.mk.injEq, and_true] at h
    obtain ⟨rfl, rfl⟩ := h
    obtain ⟨h3, h4⟩ := parseNums_inv r m hp
    refine ⟨?_, h4⟩
    rw [h2, h3, lineT]
    congr 1
    rw [List.flatMap_map]
    rfl
def textB (bs : List (List UInt8)) : List UInt8 := bs.flatMap (· ++ [10])
theorem text_bodies : ∀ l : List UInt8, l = textB (zcw l).1 ++ (zcw l).2
  | [] => rfl
  | b :: r => by
    have ih := text_bodies r
    unfold zcw
    by_cases h : b = 10
    · rw [if_pos h]
      subst h
      conv => lhs; rw [ih]
      simp [textB]
    · rw [if_neg h]
      cases hb : (zcw r).1 with
      | nil =>
        rw [hb] at ih
        conv => lhs; rw [ih]
        simp [textB]
      | cons p q =>
        rw [hb] at ih
        conv => lhs; rw [ih]
        simp [textB]
end Go.Proofs.YtmnleabeipmhmaaDoor.P
end
