/- What is proved here: a part of the proof of CircuitAppendMul: LawCircuitAppendMul. No conditions beside those that each theorem states. -/
import Derived.Test.YtmnleabeipmhmaaDoorRows
import Derived.Test.YtmnleabeipmhmaaDoorKCAMul1
import Derived.Test.YtmnleabeipmhmaaDoorKCAMul46
import Derived.Test.YtmnleabeipmhmaaDoorKCAMul47
import Derived.Test.YtmnleabeipmhmaaDoorCards
import Derived.Test.YtmnleabeipmhmaaDoorTie
import Derived.SevenTiedAt
import Derived.LaidMore
import Derived.Lay
import Derived.MakeChecks
import Derived.Stop.Joined
import Derived.WalkKit
import Derived.ProofKit
import Derived.OpenShut
import Derived.ShutString
import Derived.ChangeOld
import Derived.Below
import Derived.SizedLaws
section
set_option linter.unusedVariables false
set_option linter.unusedSimpArgs false
namespace Go.Proofs.YtmnleabeipmhmaaDoor.circuitAppendMul
open Go.ChangeShapes Go.WideShapes Go.ChangeAt Go.RowKit Go.Proofs.YtmnleabeipmhmaaDoor.P Go.Proofs.YtmnleabeipmhmaaDoorW.PrintWords
open Go.ChangeMaps (open_string shut_string)
theorem own : ownKnob Tryd.prog.godebug = none := by kernel_rfl
theorem laidOut : laidOutB Tryd.prog = true := by kernel_rfl
theorem door_met (os : Os) (args : Array Value) : laidMetH Tryd.prog Rows.circuitAppendMulRow.laid ((World.laidAll Tryd.prog os Rows.circuitAppendMulRow.laid).forCall (fun _ _ => 0) ⟨#[], args, []⟩).memory := by
  rw [MakeChecks.laidMetH_plain _ _ _ (by kernel_rfl)]; exact laidMet_laidAll _ (by kernel_rfl) (by kernel_rfl)
set_option maxRecDepth 100000 in
theorem lifted (os : Os) (started : os.Started) (H : Type) (enc : TypeId × Value → H) :
    ReturnsInHanded {} Tryd.checked os 7 .any (fun w args => (Rows.circuitAppendMulSpec.pre enc Tryd.prog Tryd.f7 [] false w args ∧ laidMetH Tryd.prog Rows.circuitAppendMulRow.laid w) ∧ sizedMet enc Tryd.prog Tryd.f7 (OpenSpec.ofChange Rows.circuitAppendMulSpec) false w args) (Rows.circuitAppendMulSpec.post enc Tryd.prog Tryd.f7 false true false false) := by
  refine returnsInHanded_of_change_and (C := Tryd.checked) (X := fun w _ => laidMetH Tryd.prog Rows.circuitAppendMulRow.laid w) (fun _ _ _ hh h => h.of_heap hh) own started (by kernel_rfl) Tryd.func7
    (ChangeSpec.witness_shaped (enc := enc) (C := Tryd.checked) (os := os) (X := fun w _ => laidMetH Tryd.prog Rows.circuitAppendMulRow.laid w) false (World.laidAll Tryd.prog os Rows.circuitAppendMulRow.laid) #[.agg #[.int .u64 0, .slice none 0 0, .slice none 0 0], .int .u16 0, .int .u16 0] 8 (World.laidAll_os _ _ _) (World.shaped_of_ZipB (by kernel_rfl) (by kernel_rfl)) (by kernel_rfl) (by kernel_rfl) (by kernel_rfl) (door_met os _)) ?_
  intro W base args ds gs before hval0 hW hcnd hsz0 hLaid _
  have hsz : (DataW.weightsEach Tryd.prog (Tryd.f7.params.toList ++ Rows.circuitAppendMulSpec.plain.varTypes Tryd.prog) (ds ++ gs)).all (· ≤ reachBytes) = true := hsz0
  have hval : ∀ (j : Nat) t v, Tryd.f7.params[j]? = some t → args[j]? = some v → Value.okWide Tryd.prog W .any base t v := hval0
  have hW' := hW
  obtain ⟨p, q, hA0, hV, rfl, hfz, hnd⟩ := hW
  have hA : DataW.TrodAll enc Tryd.prog W 0 (fun _ => true) true Tryd.f7.params.toList args.toList ds p := hA0
  rw [Tryd.params7] at hA hval hsz
  obtain ⟨v0, vs0, d0, ds0, p0, q0, hargs, rfl, rfl, h0, r0⟩ := trodAll_cons hA
  obtain ⟨v1, vs1, d1, ds1, p1, q1, rfl, rfl, rfl, h1, r1⟩ := trodAll_cons r0
  obtain ⟨v2, vs2, d2, ds2, p2, q2, rfl, rfl, rfl, h2, r2⟩ := trodAll_cons r1
  obtain ⟨rfl, rfl, rfl⟩ := trodAll_nil r2
  obtain rfl : args = #[v0, v1, v2] := by cases args; simp_all
  obtain ⟨rfl, rfl⟩ := trodVars_none hV
  have hzz : (DataW.weightsEach Tryd.prog [26, 39, 39] [d0, d1, d2]).all (· ≤ reachBytes) = true := hsz
  simp only [DataW.weightsEach, List.all_append, Bool.and_eq_true, List.append_nil] at hzz
  have k0 := h0
  have lt0 : ∀ x ∈ p0, x.block < W.heap.size := by obtain ⟨m, hm⟩ := k0; exact DataW.trod_lt m _ _ _ hm
  obtain ⟨fuel0, hf0⟩ := h0
  obtain ⟨x0, K0, G0⟩ := opens_circuit _ _ _ hf0 hzz.1
  obtain ⟨cs0, rfl, hcs0⟩ := okWide_struct Tryd.underlying26 (hval 0 26 v0 rfl rfl)
  obtain ⟨A0, c0, B0, b0, e0, hc0, hC0, hb0, hB0⟩ := P.kC_open K0
  obtain ⟨cs0⟩ := cs0
  simp only [Value.cells] at e0
  subst e0
  obtain ⟨x1, rfl, rfl, rfl, G1⟩ := open_int Tryd.underlying39 (hval 1 39 v1 rfl rfl) h1
  obtain ⟨x2, rfl, rfl, rfl, G2⟩ := open_int Tryd.underlying39 (hval 2 39 v2 rfl rfl) h2
  obtain ⟨k, hk⟩ := Ev.rounds (appendMul_ev x0.P x0.gs x0.os x1 x2 G0 (u16_rng G1) (u16_rng G2))
  clear hA0 hval0 hsz0 hsz hzz
  refine (P.privitylaw32_CircuitAppendMul.callsT k x0.P _ _ x0.gs _ _ x0.os x1 x2 true W (P.Ld.of hLaid) hC0 hc0 hB0 hb0 rfl hk).mono fun e W' ⟨he, bel0⟩ => ?_
  have bel : Below W.heap.size W W' := by first | exact bel0 | exact bel0.below
  subst he
  exact ⟨_, rfl, _, _, _, [], _, [], hW', trodAll_mk1 (shut_bool Tryd.underlying4 _), (trodAll_cons_mk (Below.trod laidOut (by kernel_rfl) (of_decide_eq_true (by kernel_rfl)) k0 bel lt0) (trodAll_cons_mk (shut_int Tryd.underlying39 G1) (trodAll_cons_mk (shut_int Tryd.underlying39 G2) trodAll_mk0))), rfl, bel.frame _, fun h => by cases h⟩
theorem over : Rows.circuitAppendMulRow.holds Tryd.pinned (OpenSpec.ofChange Rows.circuitAppendMulSpec) :=
  OpenClaim.holds_of_wide 7 Tryd.f7 rfl rfl rfl rfl rfl rfl rfl ⟨rfl, rfl, rfl, rfl, rfl⟩ rfl rfl rfl rfl rfl (by kernel_rfl) Tryd.func7 (by kernel_rfl)
    (of_decide_eq_true (by kernel_rfl)) (by unfold Func.isWrapper; first | (rw [if_pos (by decide +kernel)]; kernel_rfl) | (rw [if_neg (by decide +kernel)]; exact ⟨rfl, rfl⟩))
    (fun os started H enc _ => lifted os started H enc)
theorem proved : Rows.CircuitAppendMulSaid := over
#print axioms proved
end Go.Proofs.YtmnleabeipmhmaaDoor.circuitAppendMul
namespace Go.Proofs.YtmnleabeipmhmaaDoor.circuitAppendMul
open Go
theorem card_proved : Rows.CircuitAppendMulCardSaid :=
  Claim7.holds_tied_plain_at .later [] [.data, .data, .data, .data, .data, .sentinel, .sentinel, .data, .pinned] true (true, "a67840e6a0a3c308e4f71f906274fc3a5f7c0d602a979db5ad5ab1f382b4b93a") true
    proved (fun _ h => by cases h) (by kernel_rfl) (fun _ h => by cases h) circuitAppendMul_row_tie rfl ⟨rfl, rfl⟩ (by kernel_rfl) rfl
    (fun f fn hf hfn => by
      obtain rfl : f = 7 := Option.some.inj ((show Tryd.prog.funcNamed "privity/privitylaw32.CircuitAppendMul" = some 7 by kernel_rfl).symm.trans hf) |>.symm
      obtain rfl : fn = Tryd.f7 := (Option.some.inj (Tryd.func7.symm.trans hfn)).symm
      exact ⟨by kernel_rfl, fun j t ht => by
        rw [Tryd.params7] at ht
        have hm : t ∈ [26, 39, 39] := by simpa using Array.mem_of_getElem? ht
        have hall : ([26, 39, 39].all fun u => !Tryd.prog.wantsStandIn u) = true := by kernel_rfl
        exact (show Tryd.prog.wantsStandIn t = false by simpa using List.all_eq_true.1 hall t hm)⟩)
    (by kernel_rfl)
#print axioms card_proved
end Go.Proofs.YtmnleabeipmhmaaDoor.circuitAppendMul
namespace Go.Proofs.YtmnleabeipmhmaaDoor
theorem circuitAppendMul_holds : Rows.CircuitAppendMulCardSaid := circuitAppendMul.card_proved
end Go.Proofs.YtmnleabeipmhmaaDoor
end
