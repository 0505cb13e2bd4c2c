/- What is proved: the contracts of the function literals of intersection.Program at this seat's translation. -/
import Derived.Test.YtlbjedokfbdnbaaDoorBld
import Derived.Deep.QuietTactic
import Derived.BigQuiet
import Derived.StillTailTactics
import Derived.Lib.Hide
set_option linter.unusedVariables false
set_option linter.unusedSimpArgs false
namespace Go.Proofs.YtlbjedokfbdnbaaDoor.Isc
open Go.RowKit

def decL (i : Nat) : List UInt8 := Lib.decDigits i
theorem decL_le {i : Nat} (h : i < 100) : (decL i).length ≤ 2 := by
  have : ∀ i, i < 100 → (decL i).length ≤ 2 := by decide +kernel
  exact this i h
theorem itoa (i : Nat) (hi : i < 100) (w : World) :
    Calls Tryd.prog 16 #[.int .i64 i] w fun e w' => e = .returned (.string ⟨(decL i).toArray⟩) ∧ w' = w := Tryd.strconv_Itoa_small i hi w

def metL (i : Nat) : List UInt8 := 109 :: decL i
set_option maxRecDepth 100000 in
theorem met (N i : Nat) (hi : i < 100) (w : World) (hN : w.cell? ⟨N, 0, none⟩ = some (.func (.func 16) #[] #[])) :
    Calls Tryd.prog 19 #[.int .i64 i, .pointer (some ⟨N, 0, none⟩)] w fun e w' => e = .returned (.string ⟨(metL i).toArray⟩) ∧ w' = w := by
  have h2 := decL_le hi
  have h3 : ¬ 9223372036854775807 < 1 + (decL i).length := by omega
  go_enter Tryd.func19, Tryd.ntmps19
  go_wp2_with (go_at_call 16; refine (itoa i hi _).mono ?_; rintro e w' ⟨rfl, rfl⟩)
  go_ret
  exact ⟨congrArg (fun s => Ending.returned (.string s)) (by apply ByteArray.ext; simp [metL]), rfl⟩

def isL (i k : Nat) : List UInt8 := [120, 91] ++ decL i ++ [93, 32, 61, 61, 32, 121, 91] ++ decL k ++ [93]
set_option maxRecDepth 100000 in
theorem isEq (N I i k : Nat) (hi : i < 100) (hk : k < 100) (w : World) (hN : w.cell? ⟨N, 0, none⟩ = some (.func (.func 16) #[] #[])) (hI : w.cell? ⟨I, 0, none⟩ = some (.int .i64 i)) :
    Calls Tryd.prog 20 #[.int .i64 k, .pointer (some ⟨N, 0, none⟩), .pointer (some ⟨I, 0, none⟩)] w fun e w' => e = .returned (.string ⟨(isL i k).toArray⟩) ∧ ∃ n, w' = w.drewN n := by
  have h2 := decL_le hi
  have h4 := decL_le hk
  go_enter Tryd.func20, Tryd.ntmps20
  go_wp2_with fail
  go_quiet ((go_at_call 16; exact Calls.quiet_of_same (itoa _ (by omega) _)))
  go_wp2_with fail
  all_goals (go_ret; exact ⟨congrArg (fun s => Ending.returned (.string s)) (by apply ByteArray.ext; simp [isL]), _, rfl⟩)

/-- A balanced expression over the places from .. from + n - 1. -/
def halvesL (sg : List UInt8) (one : Nat → List UInt8) (n : Nat) (fr : Nat) : List UInt8 :=
  if h : n ≤ 1 then one fr else [40] ++ halvesL sg one ((fr + (fr + n)) / 2 - fr) fr ++ sg ++ halvesL sg one (fr + n - (fr + (fr + n)) / 2) ((fr + (fr + n)) / 2) ++ [41]
termination_by n
decreasing_by all_goals omega
theorem halvesL_le (sg : List UInt8) (hs : sg.length ≤ 3) (one : Nat → List UInt8) (n : Nat) : ∀ fr : Nat, 1 ≤ n → (∀ k, fr ≤ k → k < fr + n → (one k).length ≤ 30) → (halvesL sg one n fr).length + 5 ≤ 35 * n := by
  induction n using Nat.strongRecOn with
  | ind n ih =>
    intro fr hn ho
    rw [halvesL]
    split
    · next h => have := ho fr (by omega) (by omega); omega
    · next h =>
      have h1 := ih ((fr + (fr + n)) / 2 - fr) (by omega) fr (by omega) (fun k a b => ho k a (by omega))
      have h2 := ih (fr + n - (fr + (fr + n)) / 2) (by omega) ((fr + (fr + n)) / 2) (by omega) (fun k a b => ho k (by omega) (by omega))
      simp only [List.length_append, List.length_singleton]
      omega
theorem half_eq (fr n : Nat) (h : 1 ≤ n) (hb : fr + n ≤ 1000) : wrap64 ((wrap64 ((fr : Int) + ((fr + n : Nat) : Int))).tdiv 2) = (((fr + (fr + n)) / 2 : Nat) : Int) := by
  have h1 : wrap64 ((fr : Int) + ((fr + n : Nat) : Int)) = ((fr + (fr + n) : Nat) : Int) := by unfold wrap64; omega
  have h2 : (((fr + (fr + n) : Nat) : Int)).tdiv 2 = (((fr + (fr + n)) / 2 : Nat) : Int) := rfl
  rw [h1, h2]; unfold wrap64; omega

set_option maxHeartbeats 2000000 in
set_option maxRecDepth 100000 in
theorem halvesMet (H N : Nat) (sg : List UInt8) (hs : sg.length ≤ 3) (n : Nat) : ∀ (fr : Nat) (w : World), 1 ≤ n → fr + n ≤ 100 → w.cell? ⟨H, 0, none⟩ = some (.func (.func 18) #[] #[.pointer (some ⟨H, 0, none⟩)]) →
    w.cell? ⟨N, 0, none⟩ = some (.func (.func 16) #[] #[]) → 
    Calls Tryd.prog 18 #[.int .i64 fr, .int .i64 ((fr + n : Nat) : Int), .string ⟨sg.toArray⟩, .func (.func 19) #[] #[.pointer (some ⟨N, 0, none⟩)], .pointer (some ⟨H, 0, none⟩)] w
      fun e w' => e = .returned (.string ⟨(halvesL sg (metL) n fr).toArray⟩) ∧ ∃ m, w' = w.drewN m := by
  induction n using Nat.strongRecOn with
  | ind n ih =>
    intro fr w hn hb hH hN 
    by_cases h1 : n = 1
    · subst h1
      rw [halvesL, dif_pos (Nat.le_refl 1)]
      go_enter Tryd.func18, Tryd.ntmps18
      have hd : (wrap64 (((fr + 1 : Nat) : Int) - (fr : Int)) == 1) = true := beq_iff_eq.2 (by unfold wrap64; omega)
      go_wp2_with (go_at_call 19; refine (met N fr (by omega) _ (by simpa using hN)).mono ?_; rintro e w' ⟨rfl, rfl⟩)
      go_ret
      exact ⟨rfl, 0, rfl⟩
    · have hm := half_eq fr n hn (by omega)
      have hm1 : (fr + (fr + n)) / 2 = fr + ((fr + (fr + n)) / 2 - fr) := by omega
      have hm2 : fr + n = (fr + (fr + n)) / 2 + (fr + n - (fr + (fr + n)) / 2) := by omega
      have L1 := halvesL_le sg hs (metL) ((fr + (fr + n)) / 2 - fr) fr (by omega) (fun k a b => by have := decL_le (i := k) (by omega); simp [metL]; omega)
      have L2 := halvesL_le sg hs (metL) (fr + n - (fr + (fr + n)) / 2) ((fr + (fr + n)) / 2) (by omega) (fun k a b => by have := decL_le (i := k) (by omega); simp [metL]; omega)
      have ih1 := fun w' => ih ((fr + (fr + n)) / 2 - fr) (by omega) fr w' (by omega) (by omega)
      have ih2 := fun w' => ih (fr + n - (fr + (fr + n)) / 2) (by omega) ((fr + (fr + n)) / 2) w' (by omega) (by omega)
      rw [← hm1] at ih1
      rw [← hm2] at ih2
      have hd : (wrap64 (((fr + n : Nat) : Int) - (fr : Int)) == 1) = false := beq_eq_false_iff_ne.2 (by unfold wrap64; omega)
      have hfin : (halvesL sg (metL) n fr) = [40] ++ halvesL sg (metL) ((fr + (fr + n)) / 2 - fr) fr ++ sg ++ halvesL sg (metL) (fr + n - (fr + (fr + n)) / 2) ((fr + (fr + n)) / 2) ++ [41] := by rw [halvesL, dif_neg (by omega)]
      rw [hfin]
      have L3 : (halvesL sg (metL) ((fr + (fr + n)) / 2 - fr) fr).length ≤ 4000 := by omega
      have L4 : (halvesL sg (metL) (fr + n - (fr + (fr + n)) / 2) ((fr + (fr + n)) / 2)).length ≤ 4000 := by omega
      clear hfin L1 L2 ih hm1 hm2
      generalize halvesL sg (metL) ((fr + (fr + n)) / 2 - fr) fr = s1 at *
      generalize halvesL sg (metL) (fr + n - (fr + (fr + n)) / 2) ((fr + (fr + n)) / 2) = s2 at *
      have hmid : (fr + (fr + n)) / 2 ≤ 100 := by omega
      generalize (fr + (fr + n)) / 2 = mid at *
      have hto : fr + n ≤ 100 := hb
      generalize fr + n = to at *
      have HM := Lib.hid hm
      clear hm
      go_enter Tryd.func18, Tryd.ntmps18
      go_wp2_with fail
      rw [HM.out]
      have IH1 := Lib.hid ih1
      have IH2 := Lib.hid ih2
      clear ih1 ih2
      go_quiet ((first | (go_at_call 18; with_reducible exact Calls.quiet_of (IH1.out _ ((World.cell?_drewN _ _ _).trans hH) ((World.cell?_drewN _ _ _).trans hN))) | (go_at_call 18; with_reducible exact Calls.quiet_of (IH2.out _ ((World.cell?_drewN _ _ _).trans hH) ((World.cell?_drewN _ _ _).trans hN)))))
      go_wp2_with fail
      all_goals (go_ret; exact ⟨congrArg (fun s => Ending.returned (.string s)) (by apply ByteArray.ext; simp), _, rfl⟩)

set_option maxHeartbeats 2000000 in
set_option maxRecDepth 100000 in
theorem halvesIs (H N I i : Nat) (hi : i < 100) (sg : List UInt8) (hs : sg.length ≤ 3) (n : Nat) : ∀ (fr : Nat) (w : World), 1 ≤ n → fr + n ≤ 100 → w.cell? ⟨H, 0, none⟩ = some (.func (.func 18) #[] #[.pointer (some ⟨H, 0, none⟩)]) →
    w.cell? ⟨N, 0, none⟩ = some (.func (.func 16) #[] #[]) → w.cell? ⟨I, 0, none⟩ = some (.int .i64 i) →
    Calls Tryd.prog 18 #[.int .i64 fr, .int .i64 ((fr + n : Nat) : Int), .string ⟨sg.toArray⟩, .func (.func 20) #[] #[.pointer (some ⟨N, 0, none⟩), .pointer (some ⟨I, 0, none⟩)], .pointer (some ⟨H, 0, none⟩)] w
      fun e w' => e = .returned (.string ⟨(halvesL sg (isL i) n fr).toArray⟩) ∧ ∃ m, w' = w.drewN m := by
  induction n using Nat.strongRecOn with
  | ind n ih =>
    intro fr w hn hb hH hN hI
    by_cases h1 : n = 1
    · subst h1
      rw [halvesL, dif_pos (Nat.le_refl 1)]
      go_enter Tryd.func18, Tryd.ntmps18
      have hd : (wrap64 (((fr + 1 : Nat) : Int) - (fr : Int)) == 1) = true := beq_iff_eq.2 (by unfold wrap64; omega)
      go_wp2_with (go_at_call 20; refine (isEq N I i fr hi (by omega) _ (by simpa using hN) (by simpa using hI)).mono ?_; rintro e w' ⟨rfl, m, rfl⟩)
      go_ret
      exact ⟨rfl, m, rfl⟩
    · have hm := half_eq fr n hn (by omega)
      have hm1 : (fr + (fr + n)) / 2 = fr + ((fr + (fr + n)) / 2 - fr) := by omega
      have hm2 : fr + n = (fr + (fr + n)) / 2 + (fr + n - (fr + (fr + n)) / 2) := by omega
      have L1 := halvesL_le sg hs (isL i) ((fr + (fr + n)) / 2 - fr) fr (by omega) (fun k a b => by have := decL_le (i := k) (by omega); have := decL_le hi; simp [isL]; omega)
      have L2 := halvesL_le sg hs (isL i) (fr + n - (fr + (fr + n)) / 2) ((fr + (fr + n)) / 2) (by omega) (fun k a b => by have := decL_le (i := k) (by omega); have := decL_le hi; simp [isL]; omega)
      have ih1 := fun w' => ih ((fr + (fr + n)) / 2 - fr) (by omega) fr w' (by omega) (by omega)
      have ih2 := fun w' => ih (fr + n - (fr + (fr + n)) / 2) (by omega) ((fr + (fr + n)) / 2) w' (by omega) (by omega)
      rw [← hm1] at ih1
      rw [← hm2] at ih2
      have hd : (wrap64 (((fr + n : Nat) : Int) - (fr : Int)) == 1) = false := beq_eq_false_iff_ne.2 (by unfold wrap64; omega)
      have hfin : (halvesL sg (isL i) n fr) = [40] ++ halvesL sg (isL i) ((fr + (fr + n)) / 2 - fr) fr ++ sg ++ halvesL sg (isL i) (fr + n - (fr + (fr + n)) / 2) ((fr + (fr + n)) / 2) ++ [41] := by rw [halvesL, dif_neg (by omega)]
      rw [hfin]
      have L3 : (halvesL sg (isL i) ((fr + (fr + n)) / 2 - fr) fr).length ≤ 4000 := by omega
      have L4 : (halvesL sg (isL i) (fr + n - (fr + (fr + n)) / 2) ((fr + (fr + n)) / 2)).length ≤ 4000 := by omega
      clear hfin L1 L2 ih hm1 hm2
      generalize halvesL sg (isL i) ((fr + (fr + n)) / 2 - fr) fr = s1 at *
      generalize halvesL sg (isL i) (fr + n - (fr + (fr + n)) / 2) ((fr + (fr + n)) / 2) = s2 at *
      have hmid : (fr + (fr + n)) / 2 ≤ 100 := by omega
      generalize (fr + (fr + n)) / 2 = mid at *
      have hto : fr + n ≤ 100 := hb
      generalize fr + n = to at *
      have HM := Lib.hid hm
      clear hm
      go_enter Tryd.func18, Tryd.ntmps18
      go_wp2_with fail
      rw [HM.out]
      have IH1 := Lib.hid ih1
      have IH2 := Lib.hid ih2
      clear ih1 ih2
      go_quiet ((first | (go_at_call 18; with_reducible exact Calls.quiet_of (IH1.out _ ((World.cell?_drewN _ _ _).trans hH) ((World.cell?_drewN _ _ _).trans hN) ((World.cell?_drewN _ _ _).trans hI))) | (go_at_call 18; with_reducible exact Calls.quiet_of (IH2.out _ ((World.cell?_drewN _ _ _).trans hH) ((World.cell?_drewN _ _ _).trans hN) ((World.cell?_drewN _ _ _).trans hI)))))
      go_wp2_with fail
      all_goals (go_ret; exact ⟨congrArg (fun s => Ending.returned (.string s)) (by apply ByteArray.ext; simp), _, rfl⟩)

end Go.Proofs.YtlbjedokfbdnbaaDoor.Isc
