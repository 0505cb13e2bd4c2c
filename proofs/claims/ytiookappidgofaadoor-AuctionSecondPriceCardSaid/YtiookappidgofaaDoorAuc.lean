/- What is proved: the contracts of auction.bid, (*auction.sheet).line and auction.Program at this seat's translation: which text Program lays for which numbers of parties and bits. -/
import Derived.Test.YtiookappidgofaaDoorBlds
import Derived.Lib.Hide
set_option linter.unusedVariables false
set_option linter.unusedSimpArgs false
namespace Go.Proofs.YtiookappidgofaaDoor.Auc
open Go.RowKit

/-- The digits of a small number. -/
def decL (i : Nat) : List UInt8 := Lib.decDigits i
theorem decL_le {i : Nat} (h : i < 100) : (decL i).length ≤ 2 := by
  have : ∀ i, i < 100 → (decL i).length ≤ 2 := by decide +kernel
  exact this i h
theorem itoa (i : Nat) (hi : i < 100) (w : World) :
    Calls Tryd.prog 13 #[.int .i64 i] w fun e w' => e = .returned (.string ⟨(decL i).toArray⟩) ∧ w' = w := Tryd.strconv_Itoa_small i hi w

def bidL (i : Nat) : List UInt8 := 98 :: decL i
theorem bidL_le {i : Nat} (h : i < 100) : (bidL i).length ≤ 3 := by have := decL_le h; simp [bidL]; omega
theorem bid (i : Nat) (hi : i < 100) (w : World) :
    Calls Tryd.prog 15 #[.int .i64 i] w fun e w' => e = .returned (.string ⟨(bidL i).toArray⟩) ∧ w = w' := by
  have h2 := decL_le hi
  have h3 : ¬ 9223372036854775807 < 1 + (decL i).length := by omega
  go_enter Tryd.func15, Tryd.ntmps15
  go_wp2_with (go_at_call 13; refine (itoa i hi _).mono ?_; rintro e w' ⟨rfl, rfl⟩)
  go_ret
  exact ⟨congrArg (fun s => Ending.returned (.string s)) (by apply ByteArray.ext; simp [bidL]), rfl⟩

def lineL (ss : List (List UInt8)) : List UInt8 := ss.flatten ++ [10]
def cellsOf (ss : List (List UInt8)) : Array Value := ⟨ss.map fun s => Value.string ⟨s.toArray⟩⟩

set_option maxHeartbeats 2000000 in
set_option maxRecDepth 100000 in
theorem line (B b a : Nat) (l : List UInt8) (ss : List (List UInt8)) (w : World) (h : Blds.Is B b (Lib.byteCells l) w) (ha : w.heap[a]? = some (.cells (cellsOf ss) 9 (0, 0)))
    (hab : a ≠ b) (hBw : B ≤ w.heap.size) (hss : ss.length ≤ 100) (hlen : l.length + (lineL ss).length ≤ 140737488355328) :
    Calls Tryd.prog 14 #[.pointer (some ⟨b, 0, none⟩), .slice (some ⟨a, 0, none⟩) ss.length ss.length] w fun e w' => e = .returned (.tuple #[]) ∧ Blds.Is B b (Lib.byteCells (l ++ lineL ss)) w' ∧ Below B w w' ∧ Blds.Oth b w w' := by
  go_enter Tryd.func14, Tryd.ntmps14
  go_wp2
  go_loopw [8] (fun i wr => ∃ k : Nat, k ≤ ss.length ∧ i = .int .i64 k ∧ Blds.Is B b (Lib.byteCells (l ++ (ss.take k).flatten)) wr ∧ Below B w wr ∧ Blds.Oth b w wr) (fun i _ => ss.length - (intOf i).toNat)
  case atStart => exact ⟨0, Nat.zero_le _, rfl, by simpa using h, Below.refl _ _, Lib.OthersKept.refl _ _ _⟩
  case round =>
    obtain ⟨k, hk, rfl, hI, hB, hO⟩ := hrel
    have har := hO a _ ha (by simpa using hab) (fun c fz e => by simp at e)
    have hsz := hB.size
    by_cases hlt : k < ss.length
    · obtain ⟨s, hs⟩ : ∃ s, s = ss[k] := ⟨_, rfl⟩
      have hc : wr.cell? ⟨a, k, none⟩ = some (.string ⟨s.toArray⟩) := by rw [Lib.cell_of_heap har]; simp [cellsOf, hlt, hs]
      have hl1 : (ss.take (k + 1)).flatten = (ss.take k).flatten ++ s := by rw [List.take_succ_eq_append_getElem hlt, List.flatten_append, hs]; simp
      have hl2 : ((ss.take k).flatten ++ s).length ≤ (lineL ss).length := by
        rw [← hl1]; unfold lineL
        have : (ss.take (k + 1)).flatten ++ (ss.drop (k + 1)).flatten = ss.flatten := by rw [← List.flatten_append, List.take_append_drop]
        rw [← this]; simp only [List.length_append]; omega
      have HL := Lib.hid hl1
      have HA := Lib.hid har
      clear hl1 hs har h ha
      rw [List.length_append] at hl2
      have hb1 : (Lib.byteCells (l ++ (ss.take k).flatten)).length + (⟨s.toArray⟩ : ByteArray).size ≤ 140737488355328 := by
        rw [Lib.byteCells_length, List.length_append]; show _ + s.length ≤ _; omega
      go_wp2_with (go_at_call 18; refine (Blds.writeString B b _ _ wr hI hb1 (by omega)).mono ?_; rintro e w3 ⟨rfl, g1, g2, g3⟩)
      go_roundw
      case rel => exact ⟨k + 1, by omega, by simp, by rw [HL.out, ← List.append_assoc, Lib.byteCells_append]; exact g1, hB.trans g2, hO.trans g3⟩
      case measure => simp [intOf]; omega
    · obtain rfl : k = ss.length := by omega
      rw [List.take_length] at hI
      have hb1 : (Lib.byteCells (l ++ ss.flatten)).length + (⟨#[10]⟩ : ByteArray).size ≤ 140737488355328 := by
        rw [Lib.byteCells_length, List.length_append]; unfold lineL at hlen; rw [List.length_append] at hlen; show _ + 1 ≤ _; rw [List.length_singleton] at hlen; omega
      have HA := Lib.hid har
      clear har h ha
      go_wp2_with (go_at_call 18; refine (Blds.writeString B b _ _ wr hI hb1 (by omega)).mono ?_; rintro e w3 ⟨rfl, g1, g2, g3⟩)
      go_end0
      exact ⟨rfl, by unfold lineL; rw [← List.append_assoc, Lib.byteCells_append]; exact g1, hB.trans g2, hO.trans g3⟩

/-- What the first loop writes in a round, what stands between the loops, what the second loop writes in a round. -/
def inL (k i : Nat) : List UInt8 := lineL [[105, 110, 32], bidL i, [32, 102, 114, 111, 109, 32], decL i, [58, 32], decL k, [59]]
def midL : List UInt8 := lineL [[98, 101, 115, 116, 32, 61, 32, 98, 49, 59]] ++ lineL [[112, 114, 105, 99, 101, 32, 61, 32, 48, 59]] ++ lineL [[119, 104, 111, 32, 61, 32, 49, 59]]

theorem Program_no (n k : Int) (h : n < 4 ∨ 13 < n ∨ k < 1 ∨ 16 < k) (w : World) :
    Calls Tryd.prog 12 #[.int .i64 n, .int .i64 k] w fun e w' => e = .returned (.tuple #[.string ⟨#[]⟩, .int .i64 2]) ∧ w = w' := by
  by_cases h1 : n < 4
  · clear h
    go_enter Tryd.func12, Tryd.ntmps12
    go_wp2
    go_ret2
    exact ⟨rfl, rfl⟩
  · by_cases h2 : 13 < n
    · clear h
      go_enter Tryd.func12, Tryd.ntmps12
      go_wp2
      go_ret2
      exact ⟨rfl, rfl⟩
    · by_cases h3 : k < 1
      · clear h
        go_enter Tryd.func12, Tryd.ntmps12
        go_wp2
        go_ret2
        exact ⟨rfl, rfl⟩
      · have h4 : 16 < k := by omega
        clear h
        go_enter Tryd.func12, Tryd.ntmps12
        go_wp2
        go_ret2
        exact ⟨rfl, rfl⟩

def roundL (i : Nat) : List UInt8 :=
  lineL [[105, 102, 32, 40, 98, 101, 115, 116, 32, 60, 32], bidL i, [41, 32, 123]] ++ lineL [[32, 32, 112, 114, 105, 99, 101, 32, 61, 32, 98, 101, 115, 116, 59]] ++
  lineL [[32, 32, 98, 101, 115, 116, 32, 61, 32], bidL i, [59]] ++ lineL [[32, 32, 119, 104, 111, 32, 61, 32], decL i, [59]] ++ lineL [[125, 32, 101, 108, 115, 101, 32, 123]] ++
  lineL [[32, 32, 112, 114, 105, 99, 101, 32, 61, 32, 112, 114, 105, 99, 101, 32, 60, 32], bidL i, [32, 63, 32], bidL i, [32, 58, 32, 112, 114, 105, 99, 101, 59]] ++ lineL [[125]]
def endL : List UInt8 := lineL [[111, 117, 116, 32, 119, 104, 111, 59]] ++ lineL [[111, 117, 116, 32, 112, 114, 105, 99, 101, 59]]
def firstL (k i : Nat) : List UInt8 := (List.range i).flatMap fun j => inL k (j + 1)
def secondL (i : Nat) : List UInt8 := (List.range i).flatMap fun j => roundL (j + 2)
def progL (n k : Nat) : List UInt8 := firstL k n ++ midL ++ secondL (n - 1) ++ endL
theorem firstL_succ (k i : Nat) : firstL k (i + 1) = firstL k i ++ inL k (i + 1) := by simp [firstL, List.range_succ]
theorem secondL_succ (i : Nat) : secondL (i + 1) = secondL i ++ roundL (i + 2) := by simp [secondL, List.range_succ]
theorem inL_le {k i : Nat} (hk : k < 100) (h : i < 100) : (inL k i).length ≤ 100 := by
  have := decL_le h; have := decL_le hk; have := bidL_le h; simp [inL, lineL]; omega
theorem roundL_le {i : Nat} (h : i < 100) : (roundL i).length ≤ 400 := by
  have := decL_le h; have := bidL_le h; simp [roundL, lineL]; omega
theorem firstL_le {k : Nat} (hk : k < 100) (i : Nat) (h : i < 50) : (firstL k i).length ≤ 100 * i := by
  induction i with
  | zero => simp [firstL]
  | succ i ih => rw [firstL_succ, List.length_append]; have := ih (by omega); have := inL_le hk (i := i + 1) (by omega); omega
theorem secondL_le (i : Nat) (h : i < 50) : (secondL i).length ≤ 400 * i := by
  induction i with
  | zero => simp [secondL]
  | succ i ih => rw [secondL_succ, List.length_append]; have := ih (by omega); have := roundL_le (i := i + 2) (by omega); omega

/-- A line, at a row of strings just laid. -/
theorem lineAt (B b : Nat) (l : List UInt8) (ss : List (List UInt8)) (cs : Array Value) (hcs : cs = cellsOf ss) (n : Nat) (hn : ss.length = n) (w : World) (h : Blds.Is B b (Lib.byteCells l) w)
    (hB : B ≤ w.heap.size) (hss : ss.length ≤ 100) (hlen : l.length + (lineL ss).length ≤ 140737488355328) :
    Calls Tryd.prog 14 #[.pointer (some ⟨b, 0, none⟩), .slice (some ⟨w.heap.size, 0, none⟩) n n] (w.alloc (.cells cs 9)) fun e w' => e = .returned (.tuple #[]) ∧ Blds.Is B b (Lib.byteCells (l ++ lineL ss)) w' ∧ Below B w w' := by
  subst hcs hn
  have hle := h.le
  have hb : Below w.heap.size w (w.alloc (.cells (cellsOf ss) 9)) := (Below.refl _ _).alloc (Nat.le_refl _) _
  refine (line B b w.heap.size l ss _ (h.below hb) (World.alloc_heap_new w _) (by omega) (by have := hb.size; omega) hss hlen).mono ?_
  rintro e w' ⟨rfl, h1, h2, h3⟩
  exact ⟨rfl, h1, (hb.mono hB).trans h2⟩

end Go.Proofs.YtiookappidgofaaDoor.Auc
