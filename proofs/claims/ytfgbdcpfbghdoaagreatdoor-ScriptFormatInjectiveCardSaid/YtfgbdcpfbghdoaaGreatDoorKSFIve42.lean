/- What is proved here: a part of the proof of ScriptFormatInjective: Saw. No conditions beside those that each theorem states. -/
import Derived.Test.YtfgbdcpfbghdoaaGreatDoorKSFIve41
import Derived.Test.YtfgbdcpfbghdoaaGreatDoorKSFIve31
section
set_option linter.unusedVariables false
set_option linter.unusedSimpArgs false
namespace Go.Proofs.YtfgbdcpfbghdoaaGreatDoor.P
open Go.RowKit Go.Proofs.YtfgbdcpfbghdoaaGreatDoorW.PrintWords Go.Proofs.YtfgbdcpfbghdoaaGreatDoorW.PrintLast Go.Proofs.YtfgbdcpfbghdoaaGreatDoorW.PrintMore
def aw1 : List UInt8 := [108, 105, 101, 32, 50, 32, 34, 97, 32, 94, 113, 32, 98, 34, 32, 120, 35, 121, 10, 35, 32, 97, 32, 110, 111, 116, 101, 10]
def aw2 : List UInt8 := [97, 10, 108, 105, 101, 32, 34, 97, 34, 98]
def awC : S36 := ⟨mkB [108, 105, 101], [mkB [50], mkB [97, 32, 34, 32, 98], mkB [120, 35, 121]]⟩
set_option maxRecDepth 100000 in
theorem aw_one : parseT aw1 = ([awC], 0, 0) := by kernel_rfl
set_option maxRecDepth 100000 in
theorem aw_two : parseT aw2 = ([], 2, 3) := by kernel_rfl
theorem aw_may : ([awC] : List S36).all mayC = true := by kernel_rfl
theorem aw_text : formatL [awC] = [108, 105, 101, 32, 50, 32, 34, 97, 32, 94, 113, 32, 98, 34, 32, 120, 35, 121, 10] := by
  show ([108, 105, 101] ++ (32 :: pieceL (mkB [50]) ++ (32 :: pieceL (mkB [97, 32, 34, 32, 98]) ++ (32 :: pieceL (mkB [120, 35, 121]) ++ []))) ++ [10]) ++ [] = _
  rw [pieceL_mk, pieceL_mk, pieceL_mk]
  kernel_rfl
theorem format_f {l : List S36} (h : l.all mayC = true) (hl : l.length ≤ 100000) : script_Format.f l = some (mkB (formatL l), 0) := by
  unfold script_Format.f
  rw [if_pos, if_pos h]
  · rfl
  · refine ⟨hl, List.all_eq_true.2 fun x hx => ?_⟩
    have := (may_le (List.all_eq_true.1 h x hx)).1
    simp; omega
theorem awake_ev : Ev (fun k => privitylaw53_awake.f k) true := by
  have e1 := parse_ev aw1 (by decide)
  have e2 := parse_ev aw2 (by decide)
  rw [aw_one] at e1
  rw [aw_two] at e2
  have e3 := format_f aw_may (by decide)
  rw [aw_text] at e3
  unfold privitylaw53_awake.f
  refine Ev.bind e1 ?_
  · dsimp only
    rw [e3]
    simp only [Option.bind_some]
    refine Ev.bind e2 ?_
    have t1 : ((rd_T36 [awC] 0).f0).toList = ([108, 105, 101] : List UInt8) := mkB_toList _
    have t2 : (rdOf ByteArray.empty ((rd_T36 [awC] 0).f1) 1).toList = ([97, 32, 34, 32, 98] : List UInt8) := mkB_toList _
    have t3 : (((rd_T36 [awC] 0).f1).length : Int) = 3 := rfl
    simp only [t1, t2, t3, mkB_toList]
    exact Ev.now _
theorem privitylaw53_awake.calls (k : Nat) (r : Bool) (w : World) (h : privitylaw53_awake.f k = some r) :
    Calls Tryz.prog 8 #[] w fun e w' => e = .returned (.bool r) ∧ Below w.heap.size w w' := by
  obtain ⟨K, hK⟩ := awake_ev
  have h1 := hK (max K k) (Nat.le_max_left _ _)
  have h2 := at_rounds (g := fun k => privitylaw53_awake.f k) (fun k => privitylaw53_awake.mono k) (Nat.le_max_right K k) h
  exact privitylaw53_awake.callsT k r w (Option.some.inj (h2.symm.trans h1)) h
end Go.Proofs.YtfgbdcpfbghdoaaGreatDoor.P
end
