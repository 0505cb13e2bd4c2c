/- What is proved here: a part of the proof of ScriptFormatInjective: Srn. No conditions beside those that each theorem states. -/
import Derived.Test.YtfgbdcpfbghdoaaGreatDoorKSFIve11
import Derived.Lib.Hide
import Derived.Lib.Walk
section
set_option linter.unusedVariables false
set_option linter.unusedSimpArgs false
namespace Go.Proofs.YtfgbdcpfbghdoaaGreatDoor.P
open Go.RowKit Go.Proofs.YtfgbdcpfbghdoaaGreatDoorW.PrintWords Go.Proofs.YtfgbdcpfbghdoaaGreatDoorW.PrintLast Go.Proofs.YtfgbdcpfbghdoaaGreatDoorW.PrintMore
def pairs : List Value := [.string ⟨#[94]⟩, .string ⟨#[94, 99]⟩, .string ⟨#[34]⟩, .string ⟨#[94, 113]⟩, .string ⟨#[10]⟩, .string ⟨#[94, 110]⟩]
theorem infoStr : (Tryz.prog.info? 9).map (fun i => (i.zero, i.size, i.bytes)) = some (some (.string ⟨#[]⟩), 1, 16) := by kernel_rfl
set_option maxHeartbeats 2000000 in
set_option maxRecDepth 100000 in
theorem newReplacer_calls (ad : Addr) (c : Nat) (w : World) (hc : ∀ j u, pairs[j]? = some u → w.cell? (ad.add j) = some u) :
    Calls Tryz.prog 40 #[.slice (some ad) 6 c] w fun e w' => ∃ g g1 c1, e = .returned (.pointer (some ⟨g, 0, none⟩)) ∧ w.heap.size ≤ g1 ∧ g1 < g ∧
      w'.heap[g]? = some (.cells #[.int .u32 0, .int .i32 0, .int .u32 0, .nilIface, .slice (some ⟨g1, 0, none⟩) 6 c1] 96 (0, 0)) ∧ (∀ j u, pairs[j]? = some u → w'.cell? ⟨g1, j, none⟩ = some u) ∧ Below w.heap.size w w' := by
  obtain ⟨i0, hi, hz0, hz1, hz2⟩ := info_parts infoStr
  go_enter Tryz.func40, Tryz.ntmps40
  go_wp2_with (at_builtin; refine wpList_append_own _ rfl _ _ 34 rfl w.heap.size 9 i0 (.string ⟨#[]⟩) 1 16 Tryz.underlying34 hi hz0 hz1 hz2 rfl (by decide) _ _ _ rfl (World.ownsRow_nil _ _ _ _) ad 6 c pairs rfl rfl hc ?c2 ?c3 ?c4 ?c5 ?_)
  case c2 => intro u hu; simp only [pairs, List.mem_cons, List.not_mem_nil, or_false] at hu; rcases hu with rfl | rfl | rfl | rfl | rfl | rfl <;> rfl
  case c3 => unfold maxLen; omega
  case c4 => omega
  case c5 => exact Nat.le_refl _
  intro v' w2 hown hgrow _
  obtain ⟨g1, c1, cur, rfl, hb1, hg1, hle, hcurs, htake⟩ : ∃ g1 c1 cur, v' = .slice (some ⟨g1, 0, none⟩) 6 c1 ∧ w.heap.size ≤ g1 ∧ w2.heap[g1]? = some (.cells cur 9 (0, 0)) ∧ 6 ≤ c1 ∧ cur.size = c1 ∧ cur.toList.take 6 = pairs := by
    rcases hown.2 with ⟨_, h0⟩ | ⟨g, cap, cur, hv, hb, hg, hn, _, hs, ht⟩
    · omega
    · exact ⟨g, cap, cur, hv, hb, hg, hn, by omega, ht⟩
  have hB2 : Below w.heap.size w w2 := ⟨hgrow.os, hgrow.tape, hgrow.output, hgrow.size, fun k hk => hgrow.block k hk (by simp [Value.ownBlock])⟩
  have hlt : g1 < w2.heap.size := (Array.getElem?_eq_some_iff.1 hg1).1
  go_wp2
  go_ret
  refine ⟨w2.heap.size, g1, c1, rfl, hb1, hlt, heap_alloc_new w2 _, ?_, below_alloc hB2 _⟩
  intro j u hj
  have h6 : j < 6 := by
    have := (List.getElem?_eq_some_iff.1 hj).1
    simpa [pairs] using this
  have hcell : w2.cell? ⟨g1, j, none⟩ = some u := by
    have h1 : cur[j]? = some u := by
      rw [← htake] at hj
      rw [List.getElem?_take_of_lt h6] at hj
      simpa using hj
    simp [World.cell?, hg1, h1]
  refine (World.cell?_alloc_lt (w := w2) (a := ⟨g1, j, none⟩) _ hlt).trans ?_
  exact hcell
end Go.Proofs.YtfgbdcpfbghdoaaGreatDoor.P
end
