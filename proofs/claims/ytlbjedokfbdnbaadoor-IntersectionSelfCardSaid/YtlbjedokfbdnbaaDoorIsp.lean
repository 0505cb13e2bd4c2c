/- What is proved: the contract of intersection.Program at this seat's translation: which text it lays for which sizes. -/
import Derived.Test.YtlbjedokfbdnbaaDoorIsc
import Derived.Deep.RegionHeld3
import Derived.Laws.EntriesVeiled
set_option linter.unusedVariables false
set_option linter.unusedSimpArgs false
namespace Go.Proofs.YtlbjedokfbdnbaaDoor.Isc
open Go.RowKit

def headL (a b k : Nat) : List UInt8 := [105, 110, 32, 120, 91] ++ decL a ++ [93, 32, 102, 114, 111, 109, 32, 49, 58, 32] ++ decL k ++ [59, 10, 105, 110, 32, 121, 91] ++ decL b ++ [93, 32, 102, 114, 111, 109, 32, 50, 58, 32] ++ decL k ++ [59, 10]
def rowL (b i : Nat) : List UInt8 := metL i ++ [32, 61, 32] ++ halvesL [32, 124, 32] (isL i) b 0 ++ [32, 63, 32, 49, 32, 58, 32, 48, 59, 10, 111, 117, 116, 32] ++ metL i ++ [59, 10]
def rowsL (b i : Nat) : List UInt8 := (List.range i).flatMap (rowL b)
def lastL (a : Nat) : List UInt8 := [111, 117, 116, 32] ++ halvesL [32, 43, 32] metL a 0 ++ [59, 10]
def progL (a b k : Nat) : List UInt8 := headL a b k ++ rowsL b a ++ lastL a
theorem rowsL_succ (b i : Nat) : rowsL b (i + 1) = rowsL b i ++ rowL b i := by simp [rowsL, List.range_succ]
theorem rowL_le {b i : Nat} (hb : 1 ≤ b) (hb2 : b ≤ 16) (hi : i < 100) : (rowL b i).length ≤ 700 := by
  have h1 := decL_le hi
  have h2 := halvesL_le [32, 124, 32] (by decide) (isL i) b 0 hb (fun k _ hk => by have := decL_le (i := k) (by omega); simp [isL]; omega)
  simp [rowL, metL]; omega
theorem headL_le {a b k : Nat} (h1 : a < 100) (h2 : b < 100) (h3 : k < 100) : (headL a b k).length ≤ 100 := by
  have := decL_le h1; have := decL_le h2; have := decL_le h3; simp [headL]; omega
theorem rowsL_le {b : Nat} (hb : 1 ≤ b) (hb2 : b ≤ 16) (i : Nat) (hi : i ≤ 16) : (rowsL b i).length ≤ 700 * i := by
  induction i with
  | zero => simp [rowsL]
  | succ i ih => rw [rowsL_succ, List.length_append]; have := ih (by omega); have := rowL_le hb hb2 (i := i) (by omega); omega

theorem Program_no (a b k : Int) (h : a < 1) (w : World) :
    Calls Tryd.prog 13 #[.int .i64 a, .int .i64 b, .int .i64 k] w fun e w' => e = .returned (.tuple #[.string ⟨#[]⟩, .int .i64 2]) ∧ w = w' := by
  go_enter Tryd.func13, Tryd.ntmps13
  go_wp2
  go_ret2
  exact ⟨rfl, rfl⟩

theorem halvesIs0 (H N I i : Nat) (hi : i < 100) (n : Nat) (w : World) (hn : 1 ≤ n) (hb : n ≤ 100) (hH : w.cell? ⟨H, 0, none⟩ = some (.func (.func 18) #[] #[.pointer (some ⟨H, 0, none⟩)])) (hN : w.cell? ⟨N, 0, none⟩ = some (.func (.func 16) #[] #[])) (hI : w.cell? ⟨I, 0, none⟩ = some (.int .i64 i)) :
    Calls Tryd.prog 18 #[.int .i64 0, .int .i64 n, .string ⟨#[32, 124, 32]⟩, .func (.func 20) #[] #[.pointer (some ⟨N, 0, none⟩), .pointer (some ⟨I, 0, none⟩)], .pointer (some ⟨H, 0, none⟩)] w
      fun e w' => e = .returned (.string ⟨(halvesL [32, 124, 32] (isL i) n 0).toArray⟩) ∧ ∃ m, w' = w.drewN m := by
  have h := halvesIs H N I i hi [32, 124, 32] (by decide) n 0 w hn (by omega) hH hN hI
  rw [Nat.zero_add] at h
  exact h
theorem halvesMet0 (H N : Nat) (n : Nat) (w : World) (hn : 1 ≤ n) (hb : n ≤ 100) (hH : w.cell? ⟨H, 0, none⟩ = some (.func (.func 18) #[] #[.pointer (some ⟨H, 0, none⟩)])) (hN : w.cell? ⟨N, 0, none⟩ = some (.func (.func 16) #[] #[])) :
    Calls Tryd.prog 18 #[.int .i64 0, .int .i64 n, .string ⟨#[32, 43, 32]⟩, .func (.func 19) #[] #[.pointer (some ⟨N, 0, none⟩)], .pointer (some ⟨H, 0, none⟩)] w
      fun e w' => e = .returned (.string ⟨(halvesL [32, 43, 32] metL n 0).toArray⟩) ∧ ∃ m, w' = w.drewN m := by
  have h := halvesMet H N [32, 43, 32] (by decide) n 0 w hn (by omega) hH hN
  rw [Nat.zero_add] at h
  exact h
theorem sz (l : List UInt8) : (⟨l.toArray⟩ : ByteArray).size = l.length := by simp [ByteArray.size]
theorem sza (l : Array UInt8) : (⟨l⟩ : ByteArray).size = l.size := rfl

theorem writeAt (B b : Nat) (l : List UInt8) (w5 : World) (h : Bld.Is B b (Lib.byteCells l) w5) (hBw : B ≤ w5.heap.size) (s : ByteArray) (hs : l.length + s.size ≤ 140737488355328) (m : Nat) :
    Calls Tryd.prog 17 #[.pointer (some ⟨b, 0, none⟩), .string s] (w5.drewN m) fun e w' => e = .returned (.tuple #[.int .i64 s.size, .nilIface]) ∧ Bld.Is B b (Lib.byteCells (l ++ s.data.toList)) w' ∧ Below B w5 w' ∧ Bld.Oth b w5 w' := by
  have hd : Below B w5 (w5.drewN m) := ⟨rfl, rfl, rfl, Nat.le_refl _, fun _ _ => rfl⟩
  refine (Bld.writeString B b (Lib.byteCells l) s (w5.drewN m) h (by rw [Lib.byteCells_length]; exact hs) hBw).mono ?_
  rintro e w' ⟨rfl, g1, g2, g3⟩
  exact ⟨rfl, by rw [Lib.byteCells_append, ← Lib.strCells_eq]; exact g1, hd.trans g2, g3⟩

set_option maxHeartbeats 4000000 in
set_option maxRecDepth 100000 in
theorem Program_ok (a b k : Nat) (ha1 : 1 ≤ a) (ha2 : a ≤ 16) (hb1 : 1 ≤ b) (hb2 : b ≤ 16) (hk1 : 1 ≤ k) (hk2 : k ≤ 16) (w : World) :
    Calls Tryd.prog 13 #[.int .i64 a, .int .i64 b, .int .i64 k] w fun e w' => e = .returned (.tuple #[.string ⟨(progL a b k).toArray⟩, .int .i64 0]) ∧ Below w.heap.size w w' := by
  have mixed : Tryd.prog.follows .mixedOrders = true := by kernel_rfl
  have hda := decL_le (i := a) (by omega)
  have hdb := decL_le (i := b) (by omega)
  have hdk := decL_le (i := k) (by omega)
  have hhl := headL_le (a := a) (b := b) (k := k) (by omega) (by omega) (by omega)
  go_enter Tryd.func13, Tryd.ntmps13
  go_wp2_with fail
  have hw0 : Below w.heap.size w (w.alloc (.cells #[.pointer none, .slice none 0 0] 36)) := (Below.refl _ _).alloc (Nat.le_refl _) _
  have hb0 := Bld.fresh w
  have hz0 : (w.alloc (.cells #[.pointer none, .slice none 0 0] 36)).heap.size = w.heap.size + 1 := by simp
  generalize w.alloc (.cells #[.pointer none, .slice none 0 0] 36) = w0 at *
  have hI : Bld.Is w.heap.size w.heap.size (Lib.byteCells []) (w0.alloc (.cells #[.func (.func 16) #[] #[]] 37)) := hb0.below ((Below.refl _ _).alloc (Nat.le_refl _) _)
  have hB : Below w.heap.size w (w0.alloc (.cells #[.func (.func 16) #[] #[]] 37)) := hw0.alloc (by omega) _
  have hN : (w0.alloc (.cells #[.func (.func 16) #[] #[]] 37)).heap[w.heap.size + 1]? = some (.cells #[.func (.func 16) #[] #[]] 37 (0, 0)) := by rw [← hz0]; exact World.alloc_heap_new w0 _
  generalize w0.alloc (.cells #[.func (.func 16) #[] #[]] 37) = w1 at *
  clear hb0 hw0 hz0 w0
  have cN : w1.drew.cell? ⟨w.heap.size + 1, 0, none⟩ = some (.func (.func 16) #[] #[]) := by show w1.cell? _ = _; rw [Lib.cell_of_heap hN]; rfl
  have HN := Lib.hid hN
  clear hN
  refine wp_region_still_tail 20 mixed (by kernel_rfl) ?_
  simp only [List.take_succ_cons, List.take_zero, List.drop_succ_cons, List.drop_zero]
  change wpStill _ _ w1.drew _ _ _
  repeat (first | still_step | (refine wpStill_step (fun K hK => ?_); go_simp; rw [if_neg (by first | omega | (simp; omega))]; go_simp; refine hK _ ?_; clear hK K))
  still_call (itoa a (by omega) _)
  repeat (first | still_step | (refine wpStill_step (fun K hK => ?_); go_simp; rw [if_neg (by first | omega | (simp; omega))]; go_simp; refine hK _ ?_; clear hK K))
  still_call (itoa k (by omega) _)
  repeat (first | still_step | (refine wpStill_step (fun K hK => ?_); go_simp; rw [if_neg (by first | omega | (simp; omega))]; go_simp; refine hK _ ?_; clear hK K))
  still_call (itoa b (by omega) _)
  repeat (first | still_step | (refine wpStill_step (fun K hK => ?_); go_simp; rw [if_neg (by first | omega | (simp; omega))]; go_simp; refine hK _ ?_; clear hK K))
  still_call (itoa k (by omega) _)
  repeat (first | still_step | (refine wpStill_step (fun K hK => ?_); go_simp; rw [if_neg (by first | omega | (simp; omega))]; go_simp; refine hK _ ?_; clear hK K))
  try refine wpStill_nil ?_
  change wpList _ _ _ _ _ w1.drew
  have hI2 := hI.below ((Below.refl _ w1).drew)
  have hB2 := hB.trans ((Below.refl _ w1).drew)
  have HN2 : Hid (w1.drew.heap[w.heap.size + 1]? = some (.cells #[.func (.func 16) #[] #[]] 37 (0, 0))) := Lib.hid HN.out
  generalize w1.drew = w2 at *
  clear hI hB HN w1 cN
  have hsz2 := hB2.size
  go_wp2_with (go_at_call 17; refine (Bld.writeString w.heap.size w.heap.size _ _ w2 hI2 (by simp only [Lib.byteCells_length, ByteArray.size_append, sza, List.size_toArray, List.length_cons, List.length_nil]; omega) (by omega)).mono ?_; rintro e w3 ⟨rfl, g1, g2, g3⟩)
  have hI3 : Bld.Is w.heap.size w.heap.size (Lib.byteCells (headL a b k)) w3 := by
    refine cast (congrArg (fun l => Bld.Is _ _ l w3) ?_) g1
    rw [Lib.strCells_eq]; simp [headL, Lib.byteCells]
  have hB3 := hB2.trans g2
  have hN3 := g3 _ _ HN2.out (by simp) (fun c fz e => by simp at e)
  clear g1 g2 g3 hI2 hB2 HN2 hsz2
  have hsz3 := hB3.size
  have hal : Below w3.heap.size w3 (w3.alloc (.cells #[.func (.func 18) #[] #[.pointer (some ⟨w3.heap.size, 0, none⟩)]] 42)) := (Below.refl _ _).alloc (Nat.le_refl _) _
  have hI4 := hI3.below hal
  have hB4 := hB3.trans (hal.mono hsz3)
  have hlt3 : w.heap.size + 1 < w3.heap.size := by
    rcases Nat.lt_or_ge (w.heap.size + 1) w3.heap.size with h | h
    · exact h
    · simp [Array.getElem?_eq_none h] at hN3
  have hN4 := (hal.block _ hlt3).trans hN3
  have hH4 : (w3.alloc (.cells #[.func (.func 18) #[] #[.pointer (some ⟨w3.heap.size, 0, none⟩)]] 42)).heap[w3.heap.size]? = some (.cells #[.func (.func 18) #[] #[.pointer (some ⟨w3.heap.size, 0, none⟩)]] 42 (0, 0)) := World.alloc_heap_new w3 _
  generalize w3.alloc (.cells #[.func (.func 18) #[] #[.pointer (some ⟨w3.heap.size, 0, none⟩)]] 42) = w4 at *
  clear hal hI3 hB3 hN3 hsz3
  generalize w3.heap.size = H at *
  clear w3 w2
  go_loopw [60] (fun i wr => ∃ j : Nat, j ≤ a ∧ i = .int .i64 j ∧ Bld.Is w.heap.size w.heap.size (Lib.byteCells (headL a b k ++ rowsL b j)) wr ∧ Below w.heap.size w wr ∧
      wr.heap[w.heap.size + 1]? = some (.cells #[.func (.func 16) #[] #[]] 37 (0, 0)) ∧
      wr.heap[H]? = some (.cells #[.func (.func 18) #[] #[.pointer (some ⟨H, 0, none⟩)]] 42 (0, 0))) (fun i _ => a - (intOf i).toNat)
  case atStart => exact ⟨0, Nat.zero_le _, rfl, by simpa [rowsL] using hI4, hB4, hN4, hH4⟩
  case round =>
    clear hI4 hB4 hN4 hH4 w4
    obtain ⟨j, hj, rfl, hI, hB, hN, hH⟩ := hrel
    have hsz := hB.size
    by_cases hlt : j < a
    · have HN := Lib.hid hN
      have HH := Lib.hid hH
      clear hN hH
      go_wp2_with fail
      have hal : Below wr.heap.size wr (wr.alloc (.cells #[.int .i64 j] 3)) := (Below.refl _ _).alloc (Nat.le_refl _) _
      have hI5 := hI.below hal
      have hB5 := hB.trans (hal.mono hsz)
      have hltN : w.heap.size + 1 < wr.heap.size := by
        rcases Nat.lt_or_ge (w.heap.size + 1) wr.heap.size with h | h
        · exact h
        · have := HN.out; simp [Array.getElem?_eq_none h] at this
      have hltH : H < wr.heap.size := by
        rcases Nat.lt_or_ge H wr.heap.size with h | h
        · exact h
        · have := HH.out; simp [Array.getElem?_eq_none h] at this
      have HN5 : Hid ((wr.alloc (.cells #[.int .i64 j] 3)).heap[w.heap.size + 1]? = some (.cells #[.func (.func 16) #[] #[]] 37 (0, 0))) := Lib.hid ((hal.block _ hltN).trans HN.out)
      have HH5 : Hid ((wr.alloc (.cells #[.int .i64 j] 3)).heap[H]? = some (.cells #[.func (.func 18) #[] #[.pointer (some ⟨H, 0, none⟩)]] 42 (0, 0))) := Lib.hid ((hal.block _ hltH).trans HH.out)
      have hI5' : (wr.alloc (.cells #[.int .i64 j] 3)).heap[wr.heap.size]? = some (.cells #[.int .i64 j] 3 (0, 0)) := World.alloc_heap_new wr _
      have cN : (wr.alloc (.cells #[.int .i64 j] 3)).cell? ⟨w.heap.size + 1, 0, none⟩ = some (.func (.func 16) #[] #[]) := by rw [Lib.cell_of_heap HN5.out]; rfl
      have cH : (wr.alloc (.cells #[.int .i64 j] 3)).cell? ⟨H, 0, none⟩ = some (.func (.func 18) #[] #[.pointer (some ⟨H, 0, none⟩)]) := by rw [Lib.cell_of_heap HH5.out]; rfl
      have cI : (wr.alloc (.cells #[.int .i64 j] 3)).cell? ⟨wr.heap.size, 0, none⟩ = some (.int .i64 j) := by rw [Lib.cell_of_heap hI5']; rfl
      have HI5 := Lib.hid hI5'
      have HHne : H ≠ w.heap.size := by
        intro e; have q1 := HH5.out; have q2 : (wr.alloc (.cells #[.int .i64 j] 3)).heap[w.heap.size]? = _ := (hal.block _ (by omega)).trans rfl; rw [e] at q1; obtain ⟨p_, hp_⟩ : ∃ p, Lib.BuilderAtF 36 5 w.heap.size w.heap.size p _ _ := hI5.elim (fun x => ⟨_, x⟩) (fun x => ⟨_, x⟩); obtain ⟨_, v_, hb_, _⟩ := hp_; rw [hb_] at q1; simp at q1
      have HIne : wr.heap.size ≠ w.heap.size := by omega
      clear hI5'
      generalize wr.alloc (.cells #[.int .i64 j] 3) = w5 at *
      clear hal hI hB HN HH hltN hltH hsz
      generalize wr.heap.size = I at *
      clear wr
      have hsz5 := hB5.size
      have hrl := rowsL_le hb1 hb2 j (by omega)
      have hrow : rowsL b (j + 1) = rowsL b j ++ rowL b j := rowsL_succ b j
      have HROW := Lib.hid hrow
      clear hrow
      have hm1 : (metL j).length ≤ 3 := by have := decL_le (i := j) (by omega); simp [metL]; omega
      have hh1 : (halvesL [32, 124, 32] (isL j) b 0).length ≤ 600 := by
        have := halvesL_le [32, 124, 32] (by decide) (isL j) b 0 hb1 (fun k _ hk => by have := decL_le (i := k) (by omega); have := decL_le (i := j) (by omega); simp [isL]; omega)
        omega
      have CM := fun W hW => met (w.heap.size + 1) j (by omega) W hW
      have CH := fun W h1 h2 h3 => halvesIs0 H (w.heap.size + 1) I j (by omega) b W hb1 (by omega) h1 h2 h3
      have hfin : rowL b j = metL j ++ [32, 61, 32] ++ halvesL [32, 124, 32] (isL j) b 0 ++ [32, 63, 32, 49, 32, 58, 32, 48, 59, 10, 111, 117, 116, 32] ++ metL j ++ [59, 10] := rfl
      have HFIN := Lib.hid hfin
      clear hfin
      generalize halvesL [32, 124, 32] (isL j) b 0 = s2 at *
      generalize metL j = s1 at *
      have x1 : ¬ 9223372036854775807 < s1.length + 3 := by omega
      have x2 : ¬ 9223372036854775807 < s1.length + 3 + s2.length := by omega
      have x3 : ¬ 9223372036854775807 < s1.length + 3 + s2.length + 14 := by omega
      have x4 : ¬ 9223372036854775807 < s1.length + 3 + s2.length + 14 + s1.length := by omega
      have x5 : ¬ 9223372036854775807 < s1.length + 3 + s2.length + 14 + s1.length + 2 := by omega
      have hlen : (headL a b k ++ rowsL b j).length + (s1.length + 3 + s2.length + 14 + s1.length + 2) ≤ 140737488355328 := by
        rw [List.length_append]; omega
      have HLEN := Lib.hid hlen
      clear hlen
      have HCM := Lib.hid CM
      have HCH := Lib.hid CH
      clear CM CH
      have hI6 : Hid (w5.heap[I]? = some (.cells #[.int .i64 j] 3 (0, 0))) := HI5
      have kept : ∀ w6, Bld.Oth w.heap.size w5 w6 → w6.heap[w.heap.size + 1]? = some (.cells #[.func (.func 16) #[] #[]] 37 (0, 0)) ∧
          w6.heap[H]? = some (.cells #[.func (.func 18) #[] #[.pointer (some ⟨H, 0, none⟩)]] 42 (0, 0)) ∧ w6.heap[I]? = some (.cells #[.int .i64 j] 3 (0, 0)) :=
        fun w6 g3 => ⟨g3 _ _ HN5.out (by simp) (fun c fz e => by simp at e), g3 _ _ HH5.out (by simpa using HHne) (fun c fz e => by simp at e), g3 _ _ hI6.out (by simpa using HIne) (fun c fz e => by simp at e)⟩
      have cells6 : ∀ w6, Bld.Oth w.heap.size w5 w6 → w6.cell? ⟨w.heap.size + 1, 0, none⟩ = some (.func (.func 16) #[] #[]) ∧ w6.cell? ⟨H, 0, none⟩ = some (.func (.func 18) #[] #[.pointer (some ⟨H, 0, none⟩)]) ∧ w6.cell? ⟨I, 0, none⟩ = some (.int .i64 j) :=
        fun w6 g3 => ⟨by rw [Lib.cell_of_heap (kept w6 g3).1]; rfl, by rw [Lib.cell_of_heap (kept w6 g3).2.1]; rfl, by rw [Lib.cell_of_heap (kept w6 g3).2.2]; rfl⟩
      have K6 := Lib.hid kept
      have C6 := Lib.hid cells6
      clear kept cells6
      go_region_held3 (fun w' => w'.cell? ⟨w.heap.size + 1, 0, none⟩ = some (.func (.func 16) #[] #[]) ∧ w'.cell? ⟨H, 0, none⟩ = some (.func (.func 18) #[] #[.pointer (some ⟨H, 0, none⟩)]) ∧ w'.cell? ⟨I, 0, none⟩ = some (.int .i64 j))
        (first | exact ⟨cN, cH, cI⟩ | assumption)
        (first
        | (go_at_call 19; refine (HCM.out _ ?_).mono ?_; exact cN; rintro e w' ⟨rfl, rfl⟩)
        | (go_at_call 18; refine (HCH.out _ ?_ ?_ ?_).mono ?_; exact cH; exact cN; exact cI; rintro e w' ⟨rfl, m, rfl⟩)
        | (go_at_call 17; refine (writeAt w.heap.size w.heap.size _ w5 hI5 hsz5 _ (by simp only [ByteArray.size_append, sza, List.size_toArray, List.length_cons, List.length_nil]; have hl_ := HLEN.out; omega) _).mono ?_; rintro e w6 ⟨rfl, g1, g2, g3⟩; have k6 := C6.out w6 g3))
      all_goals
        have k7 := K6.out w6 g3
        have K7 := Lib.hid k7
        clear k7 k6
        have hB6 := hB5.trans g2
        have hG : Bld.Is w.heap.size w.heap.size (Lib.byteCells (headL a b k ++ rowsL b (j + 1))) w6 := by
          refine cast (congrArg (fun l => Bld.Is _ _ (Lib.byteCells l) w6) ?_) g1
          rw [HROW.out, HFIN.out]; simp
        clear g1 g2 g3 cN cH cI hI5 hB5 hsz5 x1 x2 x3 x4 x5 C6 K6 HCM HCH
        go_wp2_with fail
        go_roundw
        case rel => exact ⟨j + 1, by omega, by simp, hG, hB6, K7.out.1, K7.out.2.1⟩
        case measure => simp [intOf]; omega
    · obtain rfl : j = a := by omega
      have hrl := rowsL_le hb1 hb2 j (by omega)
      have cN : wr.cell? ⟨w.heap.size + 1, 0, none⟩ = some (.func (.func 16) #[] #[]) := by rw [Lib.cell_of_heap hN]; rfl
      have cH : wr.cell? ⟨H, 0, none⟩ = some (.func (.func 18) #[] #[.pointer (some ⟨H, 0, none⟩)]) := by rw [Lib.cell_of_heap hH]; rfl
      clear hN hH
      have hh1 : (halvesL [32, 43, 32] metL j 0).length ≤ 600 := by
        have := halvesL_le [32, 43, 32] (by decide) metL j 0 ha1 (fun k _ hk => by have := decL_le (i := k) (by omega); simp [metL]; omega)
        omega
      have CH := fun W h1 h2 => halvesMet0 H (w.heap.size + 1) j W ha1 (by omega) h1 h2
      have HP : Hid (progL j b k = headL j b k ++ rowsL b j ++ ([111, 117, 116, 32] ++ halvesL [32, 43, 32] metL j 0 ++ [59, 10])) := Lib.hid rfl
      generalize halvesL [32, 43, 32] metL j 0 = s3 at *
      have HCH := Lib.hid CH
      clear CH
      have x1 : ¬ 9223372036854775807 < 4 + s3.length := by omega
      have x2 : ¬ 9223372036854775807 < 4 + s3.length + 2 := by omega
      have hlen : (headL j b k ++ rowsL b j).length + (4 + s3.length + 2) ≤ 140737488355328 := by
        rw [List.length_append]; omega
      have HLEN := Lib.hid hlen
      clear hlen
      go_wp2_with (first
        | (go_at_call 18; refine (HCH.out _ ?_ ?_).mono ?_; exact cH; exact cN; rintro e w' ⟨rfl, m, rfl⟩)
        | (go_at_call 17; refine (writeAt w.heap.size w.heap.size _ wr hI hsz _ (by simp only [ByteArray.size_append, sza, List.size_toArray, List.length_cons, List.length_nil]; have hl_ := HLEN.out; omega) _).mono ?_; rintro e w6 ⟨rfl, g1, g2, g3⟩))
      have g4 : Bld.Is w.heap.size w.heap.size (Lib.byteCells (progL j b k)) w6 := by
        refine cast (congrArg (fun l => Bld.Is _ _ (Lib.byteCells l) w6) ?_) g1
        rw [HP.out]; simp
      have hB6 := hB.trans g2
      have hsz6 := hB6.size
      clear g1 g2 g3 hI hB hsz
      go_wp2_with (go_at_call 21; refine (Bld.string w.heap.size w.heap.size _ w6 g4 hsz6).mono ?_; rintro e w7 ⟨rfl, k1, k2, k3⟩)
      go_ret2
      exact ⟨rfl, hB6.trans k2⟩

end Go.Proofs.YtlbjedokfbdnbaaDoor.Isc
