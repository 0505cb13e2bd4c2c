/- What is proved here: a part of the proof of ScriptFormatInjective: Spc. No conditions beside those that each theorem states. -/
import Derived.Test.YtfgbdcpfbghdoaaGreatDoorKSFIve26
import Derived.Test.YtfgbdcpfbghdoaaGreatDoorKSFIve28
import Derived.Test.YtfgbdcpfbghdoaaGreatDoorKSFIve23
import Derived.Test.YtfgbdcpfbghdoaaGreatDoorKSFIve18
import Derived.Test.YtfgbdcpfbghdoaaGreatDoorKSFIve11
section
set_option linter.unusedVariables false
set_option linter.unusedSimpArgs false
namespace Go.Proofs.YtfgbdcpfbghdoaaGreatDoor.P
open Go.RowKit Go.Proofs.YtfgbdcpfbghdoaaGreatDoorW.PrintWords Go.Proofs.YtfgbdcpfbghdoaaGreatDoorW.PrintLast Go.Proofs.YtfgbdcpfbghdoaaGreatDoorW.PrintMore
set_option maxRecDepth 100000 in
theorem meth (x : Addr) (W : World) : (method 283 123 (.pointer (some x)) "Replace").run Tryz.prog W = .ok (127, .pointer (some x)) W := by
  first | rfl | kernel_rfl
set_option maxHeartbeats 2000000 in
set_option maxRecDepth 100000 in
theorem repl_calls (B g g1 c1 : Nat) (s : ByteArray) (w : World) (hBg : B ≤ g) (hg : w.heap[g]? = some (.cells #[.int .u32 0, .int .i32 0, .int .u32 0, .nilIface, .slice (some ⟨g1, 0, none⟩) 6 c1] 96 (0, 0))) (hc : ∀ j u, pairs[j]? = some u → w.cell? ⟨g1, j, none⟩ = some u) (hlt1 : g1 < w.heap.size) (hne : g1 ≠ g) (hs : s.size ≤ 70368744177664) :
    Calls Tryz.prog 41 #[.pointer (some ⟨g, 0, none⟩), .string s] w fun e w' => e = .returned (.string ⟨(escL s.data.toList).toArray⟩) ∧ Below B w w' := by
  have HD := Lib.hid (do_calls B g g1 c1 w hBg hg hc hlt1 hne)
  have hlt : g < w.heap.size := blk_lt hg
  have k0 : w.cell? ⟨g, 0, none⟩ = some (.int .u32 0) := (blk_cell hg 0).trans rfl
  have hm := meth
  clear hg hc
  go_enter Tryz.func41, Tryz.ntmps41
  go_wp2_with (first
    | (go_at_call 53; refine HD.out.mono ?_; rintro e w1 ⟨rfl, base, b, v, h3, hT, hB⟩; have HC := Lib.hid (replace_calls base b v s w1 hT hs); have HB := Lib.hid hB; clear hT hB HD)
    | (go_at_call 127; refine HC.out.mono ?_; rintro e w2 ⟨rfl, hb⟩))
  go_ret
  exact ⟨rfl, HB.out.trans (hb.mono (by have := HB.out.size; omega))⟩
theorem pairs_at {w : World} {g : Nat} (h : w.heap[g]? = some (.cells #[.string ⟨#[94]⟩, .string ⟨#[94, 99]⟩, .string ⟨#[34]⟩, .string ⟨#[94, 113]⟩, .string ⟨#[10]⟩, .string ⟨#[94, 110]⟩] 9 (0, 0))) : ∀ j u, pairs[j]? = some u → w.cell? ((⟨g, 0, none⟩ : Addr).add j) = some u := by
  intro j u hj
  rw [show (⟨g, 0, none⟩ : Addr).add j = ⟨g, j, none⟩ from by by_cases hz : j = 0 <;> simp [Addr.add, hz]]
  refine (blk_cell h j).trans ?_
  rw [List.getElem?_toArray]
  exact hj
theorem cat3 (E : List UInt8) : ((⟨#[34]⟩ : ByteArray) ++ ⟨E.toArray⟩ ++ ⟨#[34]⟩) = ⟨(34 :: (E ++ [34])).toArray⟩ := by
  apply ByteArray.ext
  simp
theorem escL_small (s : ByteArray) (hs : s.size ≤ 70368744177664) : (escL s.data.toList).length ≤ 140737488355328 := by
  have hl := escL_length s.data.toList
  have hl2 := nSp_le s.data.toList
  have h3 : s.data.toList.length = s.size := by rw [Array.length_toList]; rfl
  rw [h3] at hl hl2
  omega
def bareI (x : Int) : Bool := decide (33 ≤ x) && (decide (x ≤ 126) && (x != 34))
theorem bare_f (x : Int) : script_bare.f x = some (bareI x) := by
  unfold script_bare.f bareI
  by_cases h1 : x ≥ 33
  · by_cases h2 : x ≤ 126
    · rw [if_pos h1, if_pos h2]; simp [show (33 : Int) ≤ x from h1, h2]
    · rw [if_pos h1, if_neg h2]; simp [h2]
  · rw [if_neg h1]; simp [show ¬ (33 : Int) ≤ x from h1]
def bareUpto (s : ByteArray) (n : Nat) : Bool := (List.range n).all (fun j => bareI (bt s (j : Int)))
theorem bareUpto_succ (s : ByteArray) (n : Nat) : bareUpto s (n + 1) = (bareUpto s n && bareI (bt s (n : Int))) := by
  simp [bareUpto, List.range_succ]
def plainF (s : ByteArray) : Bool := (s.toList != ([] : List UInt8)) && bareUpto s s.size
def pieceL (s : ByteArray) : List UInt8 := if plainF s then s.data.toList else 34 :: (escL s.data.toList ++ [34])
set_option maxHeartbeats 8000000 in
set_option maxRecDepth 100000 in
theorem piece_calls (s : ByteArray) (w : World) (hs : s.size ≤ 70368744177664) :
    Calls Tryz.prog 22 #[.string s] w fun e w' => e = .returned (.string ⟨(pieceL s).toArray⟩) ∧ Below w.heap.size w w' := by
  have kb := fun W => print_bytes (P := Tryz.prog) 9 46 5 Tryz.underlying9 Tryz.underlying46 Tryz.underlying5 s W
  obtain ⟨q, hq⟩ : ∃ q, (s.toList != ([] : List UInt8)) = q := ⟨_, rfl⟩
  go_enter Tryz.func22, Tryz.ntmps22
  go_wp2_with (first | ((with_reducible refine gate_dst (N := 9) rfl ?_); refine conv_event ?hg (N := 9) ?hd 5 s ?hr ?_; (case hd => rfl); (case hg => rfl); (case hr => first | (go_simp; done) | (go_simp; rfl)); intro g1 cap1 w1 hg1 hb1 hc1; subst hg1))
  go_loopw [3, 5, 11] (fun v3 v5 v11 wr => ∃ i : Nat, v11 = .int .i64 (i : Int) ∧ i ≤ s.size ∧ v3 = .bool (q && bareUpto s i) ∧ Below w.heap.size w wr ∧ (∀ j, j < s.size → wr.cell? ⟨w.heap.size, (j : Nat), none⟩ = some (.int .u8 (bt s (j : Int))))) (fun _ _ v11 _ => ((s.size : Int) - intOf v11).toNat)
  case atStart => exact ⟨0, rfl, Nat.zero_le _, by rw [← hq]; simp [bareUpto]; cases s.toList <;> rfl, hb1, fun j hj => (hc1 j hj).1⟩
  case round =>
    clear kb hb1 hc1
    obtain ⟨i, rfl, hi, rfl, hB, hC⟩ := hrel
    have hlt0 : w.heap.size ≤ wr.heap.size := hB.size
    by_cases hlt : i < s.size
    · have hcell := hC i hlt
      have hsucc := bareUpto_succ s i
      cases hb : (q && bareUpto s i)
      · have hn : (q && bareUpto s (i + 1)) = false := by rw [hsucc, ← Bool.and_assoc, hb]; rfl
        have HB := Lib.hid hB
        have HC := Lib.hid hC
        have HN := Lib.hid hn
        clear hB hC hn hsucc hb
        go_wp2
        exact ⟨⟨i + 1, rfl, by omega, by rw [HN.out], HB.out, HC.out⟩, by simp only [intOf]; omega⟩
      · have hn : (q && bareUpto s (i + 1)) = bareI (bt s (i : Int)) := by rw [hsucc, ← Bool.and_assoc, hb]; rfl
        have HB := Lib.hid hB
        have HC := Lib.hid hC
        have HN := Lib.hid hn
        have HF := Lib.hid (script_bare.calls (bt s (i : Int)) _ · (bare_f _))
        clear hB hC hn hsucc hb
        go_wp2_with (go_at_call 35; refine (HF.out _).mono ?_; rintro e w2 ⟨rfl, hd⟩; obtain ⟨n, hd⟩ := hd.out; have HD := Lib.hid hd; clear hd)
        have hC2 : ∀ j, j < s.size → w2.cell? ⟨w.heap.size, (j : Nat), none⟩ = some (.int .u8 (bt s (j : Int))) := fun j hj => by rw [HD.out]; exact (World.cell?_drewN _ _ _).trans (HC.out j hj)
        have hB2 : Below w.heap.size w w2 := by rw [HD.out]; exact pw_below_drewN HB.out n
        exact ⟨⟨i + 1, rfl, by omega, by rw [HN.out], hB2, hC2⟩, by simp only [intOf]; omega⟩
    · obtain rfl : i = s.size := by omega
      cases hb : (q && bareUpto s s.size)
      · have hp : pieceL s = 34 :: (escL s.data.toList ++ [34]) := by unfold pieceL plainF; rw [hq, hb]; rfl
        have hl : (escL s.data.toList).length ≤ 140737488355328 := escL_small s hs
        have hg6 := heap_alloc_new wr (.cells #[.string ⟨#[94]⟩, .string ⟨#[94, 99]⟩, .string ⟨#[34]⟩, .string ⟨#[94, 113]⟩, .string ⟨#[10]⟩, .string ⟨#[94, 110]⟩] 9)
        have hB6 := hB.alloc hlt0 (.cells #[.string ⟨#[94]⟩, .string ⟨#[94, 99]⟩, .string ⟨#[34]⟩, .string ⟨#[94, 113]⟩, .string ⟨#[10]⟩, .string ⟨#[94, 110]⟩] 9)
        have HG6 := Lib.hid hg6
        have HB6 := Lib.hid hB6
        have hle : (escL s.data.toList).length ≤ 140737488355328 := hl
        obtain ⟨E, hE⟩ : ∃ E, escL s.data.toList = E := ⟨_, rfl⟩
        rw [hE] at hp hle
        have HP := Lib.hid hp
        have HE := Lib.hid hE
        have hes : (⟨E.toArray⟩ : ByteArray).size = E.length := by simp [ByteArray.size]
        have x1 : ¬ 9223372036854775807 < 1 + E.length := by omega
        have x2 : ¬ 9223372036854775807 < 1 + E.length + 1 := by omega
        clear hB hC hg6 hB6 hp hb hE hl
        go_wp2_with (first
          | (go_at_call 40; refine (newReplacer_calls _ 6 _ (pairs_at HG6.out)).mono ?_; rintro e w2 ⟨g, g1, c1, rfl, h1, h2, h3, h4, h5⟩; have HR := Lib.hid (repl_calls w.heap.size g g1 c1 s w2 (by have := HB6.out.size; omega) h3 h4 (by have := blk_lt h3; omega) (by omega) hs); have HB7 := Lib.hid (HB6.out.trans (h5.mono HB6.out.size)); clear h1 h2 h3 h4 h5)
          | (go_at_call 41; refine HR.out.mono ?_; rintro e w3 ⟨rfl, h6⟩; rw [HE.out]))
        go_ret
        exact ⟨by rw [HP.out, ← cat3]; rfl, HB7.out.trans h6⟩
      · have hp : pieceL s = s.data.toList := by unfold pieceL plainF; rw [hq, hb]; rfl
        have HB := Lib.hid hB
        clear hB hC
        go_wp2
        go_ret
        exact ⟨by rw [hp]; rfl, HB.out⟩
end Go.Proofs.YtfgbdcpfbghdoaaGreatDoor.P
end
