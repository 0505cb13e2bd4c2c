/- What is proved here: a part of the proof of ScriptFormatInjective: Son. No conditions beside those that each theorem states. -/
import Derived.Test.YtfgbdcpfbghdoaaGreatDoorKSFIve27
import Derived.Tactics
import Derived.Tactics2
import Derived.Defers
import Derived.Laws.Pointers
import Derived.Laws.LoneSync
import Derived.RegionTactic
import Derived.RegionCalls
import Derived.ChangeAlike
section
set_option linter.unusedVariables false
set_option linter.unusedSimpArgs false
namespace Go.Proofs.YtfgbdcpfbghdoaaGreatDoor.P
open Go.RowKit Go.Proofs.YtfgbdcpfbghdoaaGreatDoorW.PrintWords Go.Proofs.YtfgbdcpfbghdoaaGreatDoorW.PrintLast Go.Proofs.YtfgbdcpfbghdoaaGreatDoorW.PrintMore
theorem disable (w : World) : (callFunc 83 #[]).run Tryz.prog w = .ok (.value (.tuple #[])) w := run_call_mark0 Tryz.func83 (by kernel_rfl) (by kernel_rfl) (by kernel_rfl) .disable (by kernel_rfl) w
theorem enable (w : World) : (callFunc 85 #[]).run Tryz.prog w = .ok (.value (.tuple #[])) w := run_call_mark0 Tryz.func85 (by kernel_rfl) (by kernel_rfl) (by kernel_rfl) .enable (by kernel_rfl) w
theorem acquire (a : Addr) (w : World) : (callFunc 86 #[.pointer (some a)]).run Tryz.prog w = .ok (.value (.tuple #[])) w := run_call_marked Tryz.func86 (by kernel_rfl) (by kernel_rfl) (by kernel_rfl) .acquire (by kernel_rfl) a w
theorem releaseMerge (a : Addr) (w : World) : (callFunc 88 #[.pointer (some a)]).run Tryz.prog w = .ok (.value (.tuple #[])) w := run_call_marked Tryz.func88 (by kernel_rfl) (by kernel_rfl) (by kernel_rfl) .releaseMerge (by kernel_rfl) a w
set_option maxHeartbeats 1600000 in
set_option maxRecDepth 100000 in
theorem boolLoad (a : Addr) (d : Int) (w : World) (h0 : w.cell? a = some (.int .u32 d)) :
    Calls Tryz.prog 60 #[.pointer (some a)] w fun e w' => e = .returned (.bool (d != 0)) ∧ w' = w := by
  have hl := run_call_load (P := Tryz.prog) Tryz.func69 (by kernel_rfl) (by kernel_rfl) (by kernel_rfl) .u32 (by kernel_rfl) h0
  go_enter Tryz.func60, Tryz.ntmps60
  go_wp2
  go_ret
  exact ⟨rfl, rfl⟩
set_option maxHeartbeats 1600000 in
set_option maxRecDepth 100000 in
theorem store_deferred (a : Addr) (x : Value) (u : FrameMode) (w : World) (hc : w.cell? a = some x) (hz : w.frozen? a = false) :
    CallsD Tryz.prog 72 #[.pointer (some a), .bool true] u w fun e u' w' => u' = u ∧ (e = .returned (.tuple #[]) ∧ w' = w.drew.setCell a (.int .u32 1)) := by
  have hc' : w.drew.cell? a = some x := by go_simp
  have hz' : w.drew.frozen? a = false := by go_simp
  have hst := run_call_store (P := Tryz.prog) Tryz.func79 (by kernel_rfl) (by kernel_rfl) (by kernel_rfl) (by kernel_rfl) (k := .u32) (y := 1) hc' hz'
  go_enter_d Tryz.func72, Tryz.ntmps72
  go_wp2
  go_region_calls
  all_goals (go_end0; exact ⟨rfl, rfl⟩)
set_option maxHeartbeats 1600000 in
set_option maxRecDepth 100000 in
theorem unlock_deferred (a : Addr) (u : FrameMode) (w : World) (hc : w.cell? a = some (.int .i32 1)) (hz : w.frozen? a = false) :
    CallsD Tryz.prog 71 #[.pointer (some a)] u w fun e u' w' => u' = u ∧ (e = .returned (.tuple #[]) ∧ w' = w.setCell a (.int .i32 0)) := by
  have hd := disable
  have he := enable
  have hr := releaseMerge
  have hadd := run_call_add (P := Tryz.prog) Tryz.func89 (by kernel_rfl) (by kernel_rfl) (by kernel_rfl) .i32 (by kernel_rfl) (y := -1) (s := 0) hc hz (by simp [go_sem]; rfl)
  have hcv := run_convert_to_unsafe (P := Tryz.prog) (src := 140) (dst := 79) Tryz.underlying140 Tryz.underlying79 (by kernel_rfl) hc
  go_enter_d Tryz.func71, Tryz.ntmps71
  go_wp2
  go_end0
  go_wp2
  go_end0
  exact ⟨rfl, rfl⟩
set_option maxHeartbeats 1600000 in
set_option maxRecDepth 100000 in
theorem lock_free (a : Addr) (w : World) (hc : w.cell? a = some (.int .i32 0)) (hz : w.frozen? a = false) :
    Calls Tryz.prog 70 #[.pointer (some a)] w fun e w' => e = .returned (.tuple #[]) ∧ w' = w.setCell a (.int .i32 1) := by
  have hd := disable
  have he := enable
  have ha := acquire
  have hcas := run_call_cas_hit (P := Tryz.prog) Tryz.func84 (by kernel_rfl) (by kernel_rfl) (by kernel_rfl) .i32 (by kernel_rfl) (y := 1) hc hz
  have hc' : (w.setCell a (.int .i32 1)).cell? a = some (.int .i32 1) := World.cell?_setCell_same w a _ hc
  have hcv := run_convert_to_unsafe (P := Tryz.prog) (src := 140) (dst := 79) Tryz.underlying140 Tryz.underlying79 (by kernel_rfl) hc'
  go_enter Tryz.func70, Tryz.ntmps70
  go_wp2
  first | go_end0 | (simp only [Exit.inBlock, Exit.then]; refine bodyPost_ret (results_none rfl _ _ _) rfl ?_) | refine bodyPost_ret (results_none rfl _ _ _) rfl ?_
  go_wp2
  go_end0
  exact ⟨rfl, rfl⟩
theorem TS.kept {base b m g : Nat} {v : Value} {w w' : World} {cg : Array Value} (h : TS base b m v w) (hg : w.heap[g]? = some (Obj.cells cg 96 (0, 0))) (hk : ∀ k, k ≠ g → k < w.heap.size → w'.heap[k]? = w.heap[k]?) : TS base b m v w' := by
  have one : ∀ (p : Nat) (cs : Array Value) (t : TypeId) (fr : Nat × Nat), w.heap[p]? = some (Obj.cells cs t fr) → t ≠ 96 → w'.heap[p]? = some (Obj.cells cs t fr) := by
    intro p cs t fr hp ht
    have hpg : p ≠ g := by
      rintro rfl
      rw [hg] at hp
      simp at hp
      exact ht hp.2.1.symm
    exact (hk p hpg (Array.getElem?_eq_some_iff.1 hp).1).trans hp
  obtain ⟨cs, h1, h2, h3, h4⟩ := h.ex
  exact ⟨h.hb, ⟨cs, one _ _ _ _ h1 (by decide), h2, h3, fun k hk => (h4 k hk).kept fun p cs fr hp => one _ _ _ _ hp (by decide)⟩, own_kept h.own fun p cs hp => one _ _ _ _ hp (by decide)⟩
set_option maxHeartbeats 1600000 in
set_option maxRecDepth 100000 in
theorem buildOnce_calls (B g g1 c1 : Nat) (x0 x1 x2 : Value) (w : World) (hBg : B ≤ g) (hg : w.heap[g]? = some (.cells #[x0, x1, x2, .nilIface, .slice (some ⟨g1, 0, none⟩) 6 c1] 96 (0, 0))) (hc : ∀ j u, pairs[j]? = some u → w.cell? ⟨g1, j, none⟩ = some u) (hlt1 : g1 < w.heap.size) :
    Calls Tryz.prog 54 #[.pointer (some ⟨g, 0, none⟩)] w fun e w' => e = .returned (.tuple #[]) ∧ ∃ base b v, w'.heap[g]? = some (.cells #[x0, x1, x2, .iface 123 (.pointer (some ⟨b, 0, none⟩)), .slice none 0 0] 96 (0, 0)) ∧ TS base b 3 v w' ∧ Below B w w' := by
  have hlt : g < w.heap.size := blk_lt hg
  have HC := Lib.hid (build_calls g g1 c1 x0 x1 x2 .nilIface w hg hc hlt1)
  go_enter Tryz.func54, Tryz.ntmps54
  go_wp2_with (go_at_call 62
               refine HC.out.mono ?_
               rintro e w1 ⟨b, v, rfl, hT, hB⟩
               have hg1 := (hB.block g hlt).trans hg
               have hg2 := blk_set hg1 3 (.iface 123 (.pointer (some ⟨b, 0, none⟩)))
               have hg3 := blk_set hg2 4 (.slice none 0 0)
               have k3 : w1.cell? ⟨g, 3, none⟩ = some .nilIface := (blk_cell hg1 3).trans rfl
               have f3 := blk_frozen hg1 3
               have k4 : (w1.setCell ⟨g, 3, none⟩ (.iface 123 (.pointer (some ⟨b, 0, none⟩)))).cell? ⟨g, 4, none⟩ = some (.slice (some ⟨g1, 0, none⟩) 6 c1) := (blk_cell hg2 4).trans rfl
               have f4 := blk_frozen hg2 4
               have HT := Lib.hid hT
               have HG1 := Lib.hid hg1
               have HG3 := Lib.hid hg3
               have HB := Lib.hid hB
               clear hT hg1 hg2 hg3 hB)
  go_end0
  refine ⟨rfl, w.heap.size, b, v, HG3.out, HT.out.kept HG1.out (fun k hk _ => ?_), ?_⟩
  · rw [Below.heap_setCell _ ⟨g, 4, none⟩ _ k hk, Below.heap_setCell _ ⟨g, 3, none⟩ _ k hk]
  · exact ((HB.out.mono (by omega)).setCell (p := ⟨g, 3, none⟩) hBg _).setCell (p := ⟨g, 4, none⟩) hBg _
def Built (B g : Nat) (w w' : World) : Prop := ∃ base b v, w'.cell? ⟨g, 3, none⟩ = some (.iface 123 (.pointer (some ⟨b, 0, none⟩))) ∧ TS base b 3 v w' ∧ Below B w w'
set_option maxHeartbeats 4000000 in
set_option maxRecDepth 100000 in
theorem doSlow_calls (B g g1 c1 : Nat) (w : World) (hBg : B ≤ g) (hg : w.heap[g]? = some (.cells #[.int .u32 0, .int .i32 0, .int .u32 0, .nilIface, .slice (some ⟨g1, 0, none⟩) 6 c1] 96 (0, 0))) (hc : ∀ j u, pairs[j]? = some u → w.cell? ⟨g1, j, none⟩ = some u) (hlt1 : g1 < w.heap.size) (hne : g1 ≠ g) :
    Calls Tryz.prog 61 #[.pointer (some ⟨g, 0, none⟩), .func (.func 54) #[.pointer (some ⟨g, 0, none⟩)] #[]] w fun e w' => e = .returned (.tuple #[]) ∧ Built B g w w' := by
  have hlt : g < w.heap.size := blk_lt hg
  have k1 : w.cell? ⟨g, 1, none⟩ = some (.int .i32 0) := (blk_cell hg 1).trans rfl
  have f1 := blk_frozen hg 1
  have hg1 := blk_set hg 1 (.int .i32 1)
  have l0 : (w.setCell ⟨g, 1, none⟩ (.int .i32 1)).cell? ⟨g, 0, none⟩ = some (.int .u32 0) := (blk_cell hg1 0).trans rfl
  have hc1 : ∀ j u, pairs[j]? = some u → (w.setCell ⟨g, 1, none⟩ (.int .i32 1)).cell? ⟨g1, j, none⟩ = some u := fun j u hj => (World.cell?_setCell_other _ ⟨g, 1, none⟩ ⟨g1, j, none⟩ _ (by intro h; exact hne (by injection h with h1; exact h1.symm))).trans (hc j u hj)
  have hB1 := (Below.refl B w).setCell (p := ⟨g, 1, none⟩) hBg (.int .i32 1)
  have hs1 : (w.setCell ⟨g, 1, none⟩ (.int .i32 1)).heap.size = w.heap.size := World.size_setCell _ _ _
  have HO := Lib.hid (buildOnce_calls B g g1 c1 _ _ _ (w.setCell ⟨g, 1, none⟩ (.int .i32 1)) hBg hg1 hc1 (by omega))
  have HL := Lib.hid (boolLoad ⟨g, 0, none⟩ 0 (w.setCell ⟨g, 1, none⟩ (.int .i32 1)) l0)
  have HB1 := Lib.hid hB1
  clear hg hc hg1 hc1 hB1 hs1 l0
  go_enter_defers Tryz.func61, Tryz.ntmps61
  go_wp2_with (first
    | (go_at_call 70; refine (lock_free ⟨g, 1, none⟩ _ (by assumption) (by assumption)).mono ?_; rintro e w' ⟨rfl, rfl⟩)
    | (go_at_call 60; refine HL.out.mono ?_; rintro e w' ⟨rfl, rfl⟩)
    | (go_at_call 54; refine HO.out.mono ?_; rintro e w2 ⟨rfl, base, b, v, hG2, hT2, hB2⟩))
  have c0 : w2.cell? ⟨g, 0, none⟩ = some (.int .u32 0) := (blk_cell hG2 0).trans rfl
  have c1 : w2.cell? ⟨g, 1, none⟩ = some (.int .i32 1) := (blk_cell hG2 1).trans rfl
  have z0 := blk_frozen hG2 0
  have hG3 := blk_set (blk_drew hG2) 0 (.int .u32 1)
  have c3 : (w2.drew.setCell ⟨g, 0, none⟩ (.int .u32 1)).cell? ⟨g, 1, none⟩ = some (.int .i32 1) := (blk_cell hG3 1).trans rfl
  have z3 := blk_frozen hG3 1
  have hG4 := blk_set hG3 1 (.int .i32 0)
  (try go_wp2)
  refine leaves_cons (f := 72) (args := #[.pointer (some ⟨g, 0, none⟩), .bool true]) (by simp) (by simp [go_sem]) ?_
  refine (store_deferred ⟨g, 0, none⟩ (.int .u32 0) _ _ c0 z0).mono ?_
  rintro e u' w'' ⟨rfl, rfl, rfl⟩
  refine leaves_cons (f := 71) (args := #[.pointer (some ⟨g, 1, none⟩)]) (by simp [settle]) (by simp [go_sem]) ?_
  refine (unlock_deferred ⟨g, 1, none⟩ _ _ c3 z3).mono ?_
  rintro e u' w'' ⟨rfl, rfl, rfl⟩
  have hres : Built B g w ((w2.drew.setCell ⟨g, 0, none⟩ (.int .u32 1)).setCell ⟨g, 1, none⟩ (.int .i32 0)) := by
    refine ⟨base, b, v, (blk_cell hG4 3).trans rfl, hT2.kept hG2 (fun k hk _ => ?_), ?_⟩
    · rw [Below.heap_setCell _ ⟨g, 1, none⟩ _ k hk, Below.heap_setCell _ ⟨g, 0, none⟩ _ k hk]; rfl
    · exact (((HB1.out.trans hB2).drew).setCell (p := ⟨g, 0, none⟩) hBg _).setCell (p := ⟨g, 1, none⟩) hBg _
  simp [Leaves, settle, results, Tryz.results61]
  exact hres
set_option maxHeartbeats 1600000 in
set_option maxRecDepth 100000 in
theorem do_calls (B g g1 c1 : Nat) (w : World) (hBg : B ≤ g) (hg : w.heap[g]? = some (.cells #[.int .u32 0, .int .i32 0, .int .u32 0, .nilIface, .slice (some ⟨g1, 0, none⟩) 6 c1] 96 (0, 0))) (hc : ∀ j u, pairs[j]? = some u → w.cell? ⟨g1, j, none⟩ = some u) (hlt1 : g1 < w.heap.size) (hne : g1 ≠ g) :
    Calls Tryz.prog 53 #[.pointer (some ⟨g, 0, none⟩), .func (.func 54) #[.pointer (some ⟨g, 0, none⟩)] #[]] w fun e w' => e = .returned (.tuple #[]) ∧ Built B g w w' := by
  have l0 : w.cell? ⟨g, 0, none⟩ = some (.int .u32 0) := (blk_cell hg 0).trans rfl
  have HL := Lib.hid (boolLoad ⟨g, 0, none⟩ 0 w l0)
  have HS := Lib.hid (doSlow_calls B g g1 c1 w hBg hg hc hlt1 hne)
  clear hg hc l0
  go_enter Tryz.func53, Tryz.ntmps53
  go_wp2_with (first
    | (go_at_call 60; refine HL.out.mono ?_; rintro e w' ⟨rfl, rfl⟩)
    | (go_at_call 61; refine HS.out.mono ?_; rintro e w2 ⟨rfl, hb⟩))
  go_end0
  exact ⟨rfl, hb⟩
end Go.Proofs.YtfgbdcpfbghdoaaGreatDoor.P
end
