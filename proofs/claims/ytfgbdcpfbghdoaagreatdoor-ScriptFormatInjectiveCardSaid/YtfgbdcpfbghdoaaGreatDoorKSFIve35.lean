/- What is proved here: a part of the proof of ScriptFormatInjective: Spt. No conditions beside those that each theorem states. -/
import Derived.Test.YtfgbdcpfbghdoaaGreatDoorKSFIve34
import Derived.Test.YtfgbdcpfbghdoaaGreatDoorKSFIve16
import Derived.Test.YtfgbdcpfbghdoaaGreatDoorKSFIve14
import Derived.Test.YtfgbdcpfbghdoaaGreatDoorKSFIve29
import Derived.Test.YtfgbdcpfbghdoaaGreatDoorKSFIve17
section
set_option linter.unusedVariables false
set_option linter.unusedSimpArgs false
namespace Go.Proofs.YtfgbdcpfbghdoaaGreatDoor.P
open Go.RowKit Go.Proofs.YtfgbdcpfbghdoaaGreatDoorW.PrintWords Go.Proofs.YtfgbdcpfbghdoaaGreatDoorW.PrintLast Go.Proofs.YtfgbdcpfbghdoaaGreatDoorW.PrintMore
def dsp : List UInt8 → List UInt8
  | [] => []
  | c :: r => if c = 32 then dsp r else c :: r
def bareB (c : UInt8) : Bool := bareI (c.toNat : Int)
def cutQ : List UInt8 → Option (List UInt8 × List UInt8)
  | [] => none
  | c :: r => if c = 34 then some ([], r) else (cutQ r).map (fun p => (c :: p.1, p.2))
def restOk : List UInt8 → Bool
  | [] => true
  | c :: _ => c == 32
def wordOf : List UInt8 → List UInt8 × List UInt8
  | [] => ([], [])
  | c :: r => if c = 32 then ([], c :: r) else (c :: (wordOf r).1, (wordOf r).2)
def toks : Nat → List UInt8 → Option (List (Bool × List UInt8))
  | 0, _ => none
  | n + 1, s => match dsp s with
    | [] => some []
    | c :: r =>
      if c = 34 then
        match cutQ r with
        | none => none
        | some p => match openL p.1 with
          | none => none
          | some w => if restOk p.2 then (toks n p.2).map ((false, w) :: ·) else none
      else if (wordOf (c :: r)).1.all bareB then (toks n (wordOf (c :: r)).2).map ((true, (wordOf (c :: r)).1) :: ·) else none
theorem dsp_le : ∀ l : List UInt8, (dsp l).length ≤ l.length
  | [] => Nat.le_refl _
  | c :: r => by
    unfold dsp
    split
    · have := dsp_le r; simp only [List.length_cons]; omega
    · exact Nat.le_refl _
theorem dsp_head : ∀ (l r : List UInt8), dsp l ≠ 32 :: r
  | [], _ => by simp [dsp]
  | c :: l, r => by
    unfold dsp
    split
    · exact dsp_head l r
    · next h => intro e; exact h (List.cons.inj e).1
theorem cutQ_no : ∀ l : List UInt8, (34 : UInt8) ∉ l → cutQ l = none
  | [], _ => rfl
  | c :: r, h => by
    simp only [List.mem_cons, not_or] at h
    rw [cutQ, if_neg (fun e => h.1 e.symm), cutQ_no r h.2]; rfl
theorem cutQ_app (t : List UInt8) : ∀ a : List UInt8, (34 : UInt8) ∉ a → cutQ (a ++ 34 :: t) = some (a, t)
  | [], _ => by simp [cutQ]
  | c :: a, h => by
    simp only [List.mem_cons, not_or] at h
    rw [List.cons_append, cutQ, if_neg (fun e => h.1 e.symm), cutQ_app t a h.2]; rfl
theorem wordOf_app : ∀ l : List UInt8, l = (wordOf l).1 ++ (wordOf l).2
  | [] => rfl
  | c :: r => by
    unfold wordOf
    split
    · rfl
    · show c :: r = c :: ((wordOf r).1 ++ (wordOf r).2)
      rw [← wordOf_app r]
theorem index_no (c : UInt8) : ∀ l : List UInt8, c ∉ l → Lib.indexByte l c = -1
  | [], _ => rfl
  | b :: r, h => by
    simp only [List.mem_cons, not_or] at h
    have h1 := index_cons b c r
    rw [Lib.index_one, Lib.index_one, index_no c r h.2, if_neg (fun e => h.1 e.symm), if_pos rfl] at h1
    exact h1
theorem index_app (c : UInt8) (t : List UInt8) : ∀ a : List UInt8, c ∉ a → Lib.indexByte (a ++ c :: t) c = (a.length : Int)
  | [], _ => by
    have h1 := index_cons c c t
    rw [Lib.index_one, Lib.index_one, if_pos rfl] at h1
    exact h1
  | b :: a, h => by
    simp only [List.mem_cons, not_or] at h
    have h1 := index_cons b c (a ++ c :: t)
    rw [Lib.index_one, Lib.index_one, index_app c t a h.2, if_neg (fun e => h.1 e.symm), if_neg (by omega)] at h1
    rw [List.cons_append, h1, List.length_cons]; omega
theorem bt_zero (c : UInt8) (r : List UInt8) : bt (mkB (c :: r)) 0 = (c.toNat : Int) := bt_nat (c :: r) 0 (by simp)
theorem ext_one (c : UInt8) (r : List UInt8) : (mkB (c :: r)).extract 1 (mkB (c :: r)).size = mkB r := by
  rw [mkB_size]; unfold mkB; rw [ext_eq]; simp
theorem n32 (c : UInt8) : ((c.toNat : Int) = 32) ↔ c = 32 := ⟨fun h => UInt8.toNat_inj.1 (show c.toNat = 32 by omega), fun h => by subst h; rfl⟩
theorem n34 (c : UInt8) : ((c.toNat : Int) = 34) ↔ c = 34 := ⟨fun h => UInt8.toNat_inj.1 (show c.toNat = 34 by omega), fun h => by subst h; rfl⟩
theorem n99 (c : UInt8) : ((c.toNat : Int) = 99) ↔ c = 99 := ⟨fun h => UInt8.toNat_inj.1 (show c.toNat = 99 by omega), fun h => by subst h; rfl⟩
theorem trimByte_ev (l : List UInt8) : ∀ k, l.length + 1 ≤ k → strings_trimLeftByte.l0 k (mkB l) 32 = some (mkB (dsp l)) := by
  induction l with
  | nil =>
    intro k hk
    obtain ⟨k, rfl⟩ : ∃ k', k = k' + 1 := ⟨k - 1, by omega⟩
    rw [strings_trimLeftByte.l0, mkB_size, if_neg (by simp)]; rfl
  | cons c r ih =>
    intro k hk
    obtain ⟨k, rfl⟩ : ∃ k', k = k' + 1 := ⟨k - 1, by omega⟩
    simp only [List.length_cons] at hk
    rw [strings_trimLeftByte.l0, if_pos (by rw [mkB_size, List.length_cons]; omega), if_pos (by rw [mkB_size, List.length_cons]; omega), bt_zero, ext_one]
    by_cases h : c = 32
    · subst h
      rw [if_pos ((n32 32).2 rfl), if_pos (by rw [mkB_size, List.length_cons]; omega), ih k (by omega)]
      rw [dsp, if_pos rfl]
    · rw [if_neg (fun e => h ((n32 c).1 e)), dsp, if_neg h]
theorem trim_ev (l : List UInt8) : strings_TrimLeft.f (mkB l) ⟨#[32]⟩ = some (mkB (dsp l)) := by
  unfold strings_TrimLeft.f
  rw [if_pos rfl, mkB_toList]
  by_cases h : l = []
  · subst h; rw [if_pos rfl]; rfl
  · rw [if_neg h, strings_trimLeftByte.f, mkB_size, trimByte_ev l _ (by omega)]
theorem cutAt_ev (l : List UInt8) : cutAt (mkB l) 34 = match cutQ l with
    | none => (mkB l, ⟨#[]⟩, false)
    | some p => (mkB p.1, mkB p.2, true) := by
  unfold cutAt
  rw [mkB_list]
  rcases cut_or 34 l with h | ⟨a, t, rfl, h⟩
  · rw [index_no 34 l h, cutQ_no l h, if_pos (by decide)]
  · rw [index_app 34 t a h, cutQ_app t a h, if_neg (by omega), mkB_size]
    simp only [Int.toNat_natCast]
    unfold mkB
    rw [ext_eq, ext_eq]
    congr 1
    · simp
    · congr 2
      have : (a ++ 34 :: t).drop (a.length + 1) = t := by
        rw [show a ++ (34 : UInt8) :: t = (a ++ [34]) ++ t by simp, show a.length + 1 = (a ++ [(34 : UInt8)]).length by simp, List.drop_left]
      rw [this, List.take_of_length_le (by simp; omega)]
theorem openF_ev (l : List UInt8) : openF (mkB l) = match openL l with
    | none => (⟨#[]⟩, false)
    | some w => (mkB w, true) := by
  unfold openF
  rw [mkB_list]
  cases openL l <;> rfl
end Go.Proofs.YtfgbdcpfbghdoaaGreatDoor.P
end
