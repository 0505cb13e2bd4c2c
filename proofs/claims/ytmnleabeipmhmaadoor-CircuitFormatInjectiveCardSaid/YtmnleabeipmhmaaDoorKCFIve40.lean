/- What is proved here: a part of the proof of CircuitFormatInjective: Csl. No conditions beside those that each theorem states. -/
import Derived.Test.YtmnleabeipmhmaaDoorKCFIve39
import Derived.Test.YtmnleabeipmhmaaDoorKCFIve24
section
set_option linter.unusedVariables false
set_option linter.unusedSimpArgs false
namespace Go.Proofs.YtmnleabeipmhmaaDoor.P
open Go.RowKit Go.Proofs.YtmnleabeipmhmaaDoorW.PrintWords Go.Proofs.YtmnleabeipmhmaaDoorW.PrintLast Go.Proofs.YtmnleabeipmhmaaDoorW.PrintMore
open Lib (decDigits)
theorem spl_no (c : UInt8) (keep : Bool) : ∀ l : List UInt8, c ∉ l → spl c keep l = [l]
  | [], _ => rfl
  | b :: r, h => by
    simp only [List.mem_cons, not_or] at h
    unfold spl
    rw [if_neg (fun e => h.1 e.symm), spl_no c keep r h.2]
theorem spl_app (c : UInt8) (r : List UInt8) : ∀ l : List UInt8, c ∉ l → spl c false (l ++ c :: r) = l :: spl c false r
  | [], _ => by simp [spl]
  | b :: l, h => by
    simp only [List.mem_cons, not_or] at h
    rw [List.cons_append]
    conv => lhs; unfold spl
    rw [if_neg (fun e => h.1 e.symm), spl_app c r l h.2]
theorem spl_join (c : UInt8) : ∀ l : List UInt8, ∃ p r, spl c false l = p :: r ∧ l = p ++ r.flatMap (c :: ·)
  | [] => ⟨[], [], rfl, rfl⟩
  | b :: l => by
    obtain ⟨p, r, h1, h2⟩ := spl_join c l
    unfold spl
    by_cases h : b = c
    · rw [if_pos h]
      refine ⟨[], spl c false l, by simp, ?_⟩
      rw [h1, h]
      simp only [List.nil_append, List.flatMap_cons]
      rw [h2]; simp
    · rw [if_neg h, h1]
      exact ⟨b :: p, r, rfl, by rw [h2]; simp⟩
theorem dd_noblank (u : Nat) (c : UInt8) (h : c.toNat < 48) : c ∉ decDigits u := by
  intro hm
  have hd := dd_digits u
  unfold Fmt.digitsB at hd
  rw [List.all_eq_true] at hd
  have := hd c hm
  simp only [Fmt.isDigit, Bool.and_eq_true, decide_eq_true_eq] at this
  omega
theorem spl_line (ns : List Int) : ∀ w : List UInt8, (32 : UInt8) ∉ w → spl 32 false (zca w ns) = w :: ns.map (fun n => decDigits n.toNat) := by
  induction ns with
  | nil => intro w h; simp only [zca, List.flatMap_nil, List.append_nil, List.map_nil]; exact spl_no 32 false w h
  | cons n r ih =>
    intro w h
    have e : zca w (n :: r) = w ++ 32 :: zca (decDigits n.toNat) r := by simp [zca, numT]
    rw [e, spl_app 32 _ w h, ih _ (dd_noblank _ 32 (by decide))]
    rfl
theorem parseNums_dec : ∀ ns : List Int, U64 ns → zci (ns.map (fun n => decDigits n.toNat)) = some ns
  | [], _ => rfl
  | n :: r, h => by
    have h1 := h n (List.mem_cons_self ..)
    simp only [List.map_cons, zci]
    rw [parse_dd n.toNat (by omega), if_pos rfl, parseNums_dec r (fun x hx => h x (List.mem_cons_of_mem _ hx))]
    simp only [Option.map_some]
    rw [Int.toNat_of_nonneg h1.1]
theorem parseNums_inv : ∀ (ws : List (List UInt8)) (ns : List Int), zci ws = some ns → ws = ns.map (fun n => decDigits n.toNat) ∧ U64 ns
  | [], ns, h => by cases h; exact ⟨rfl, fun x hx => by cases hx⟩
  | x :: r, ns, h => by
    simp only [zci] at h
    split at h
    · next h0 =>
      rw [Option.map_eq_some_iff] at h
      obtain ⟨m, hm, rfl⟩ := h
      obtain ⟨h1, h2⟩ := parseNums_inv r m hm
      obtain ⟨h3, h4⟩ := parse_exact x h0
      refine ⟨?_, ?_⟩
      · simp only [List.map_cons, Int.toNat_natCast]
        rw [h4, ← h1]
      · intro y hy
        rcases List.mem_cons.1 hy with hy | hy
        · subst hy; exact ⟨by omega, by omega⟩
        · exact h2 y hy
    · cases h
theorem split_line (w : List UInt8) (ns : List Int) (hw : (32 : UInt8) ∉ w) (hn : U64 ns) : zcj (zca w ns) = (w, ns, true) := by
  unfold zcj
  rw [spl_line ns w hw]
  simp only [parseNums_dec ns hn]
theorem split_inv (l w : List UInt8) (ns : List Int) (h : zcj l = (w, ns, true)) : l = zca w ns ∧ U64 ns := by
  unfold zcj at h
  obtain ⟨p, r, h1, h2⟩ := spl_join 32 l
  rw [h1] at h
  simp only at h
  cases hp : zci r with
  | none => rw [hp] at h; simp at h
  | some m =>
    rw [hp] at h
    simp only [Prod.mk.injEq, and_true] at h
    obtain ⟨rfl, rfl⟩ := h
    obtain ⟨h3, h4⟩ := parseNums_inv r m hp
    refine ⟨?_, h4⟩
    rw [h2, h3, zca]
    congr 1
    rw [List.flatMap_map]
    rfl
def textB (bs : List (List UInt8)) : List UInt8 := bs.flatMap (· ++ [10])
theorem bodies_app (r : List UInt8) : ∀ l : List UInt8, (10 : UInt8) ∉ l → zbx (l ++ 10 :: r) = (l :: (zbx r).1, (zbx r).2)
  | [], _ => by simp [zbx]
  | b :: l, h => by
    simp only [List.mem_cons, not_or] at h
    rw [List.cons_append]
    conv => lhs; unfold zbx
    rw [if_neg (fun e => h.1 e.symm), bodies_app r l h.2]
theorem bodies_text (t : List UInt8) : ∀ bs : List (List UInt8), (∀ x ∈ bs, (10 : UInt8) ∉ x) → zbx (textB bs ++ t) = (bs ++ (zbx t).1, (zbx t).2)
  | [], _ => by simp [textB]
  | x :: r, h => by
    have e : textB (x :: r) ++ t = x ++ 10 :: (textB r ++ t) := by simp [textB]
    rw [e, bodies_app _ x (h x (List.mem_cons_self ..)), bodies_text t r (fun y hy => h y (List.mem_cons_of_mem _ hy))]
    rfl
theorem text_bodies : ∀ l : List UInt8, l = textB (zbx l).1 ++ (zbx l).2
  | [] => rfl
  | b :: r => by
    have ih := text_bodies r
    unfold zbx
    by_cases h : b = 10
    · rw [if_pos h]
      subst h
      conv => lhs; rw [ih]
      simp [textB]
    · rw [if_neg h]
      cases hb : (zbx r).1 with
      | nil =>
        rw [hb] at ih
        conv => lhs; rw [ih]
        simp [textB]
      | cons p q =>
        rw [hb] at ih
        conv => lhs; rw [ih]
        simp [textB]
end Go.Proofs.YtmnleabeipmhmaaDoor.P
end
