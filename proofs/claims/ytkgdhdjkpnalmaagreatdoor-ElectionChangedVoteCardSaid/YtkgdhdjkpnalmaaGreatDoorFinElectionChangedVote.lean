/- What is proved here: a part of the proof of ElectionChangedVote: LawElectionChangedVote. No conditions beside those that each theorem states. -/
import Derived.Test.YtkgdhdjkpnalmaaGreatDoorRows
import Derived.Test.YtkgdhdjkpnalmaaGreatDoorKECVte1
import Derived.Test.YtkgdhdjkpnalmaaGreatDoorKECVte46
import Derived.Test.YtkgdhdjkpnalmaaGreatDoorKECVte47
import Derived.Test.YtkgdhdjkpnalmaaGreatDoorCards
import Derived.Test.YtkgdhdjkpnalmaaGreatDoorTie
import Derived.SevenTiedAt
import Derived.LaidMore
import Derived.Lay
import Derived.MakeChecks
import Derived.Stop.Joined
import Derived.WalkKit
import Derived.ProofKit
import Derived.OpenShut
import Derived.ShutString
import Derived.ChangeOld
import Derived.Below
import Derived.SizedLaws
set_option linter.unusedVariables false
set_option linter.unusedSimpArgs false
section
namespace Go.Proofs.YtkgdhdjkpnalmaaGreatDoor.electionChangedVote
open Go.ChangeShapes Go.WideShapes Go.ChangeAt Go.RowKit Go.Proofs.YtkgdhdjkpnalmaaGreatDoor.P Go.Proofs.YtkgdhdjkpnalmaaGreatDoorW.PrintWords
open Go.ChangeMaps (open_string shut_string)
theorem own : ownKnob Tryz.prog.godebug = none:=by kernel_rfl
theorem laidOut : laidOutB Tryz.prog = true:=by kernel_rfl
theorem door_met (os : Os) (args : Array Value) : laidMetH Tryz.prog Rows.electionChangedVoteRow.laid ((World.doorLaid Tryz.prog 400 os).forCall (fun _ _ => 0) ⟨#[],args,[]⟩).memory :=
  laidMetH_of_parts3 (fuel:=8) (laidMet_of_run' 8 (by kernel_rfl) (by kernel_rfl)) (by kernel_rfl) (by kernel_rfl)
set_option maxRecDepth 100000 in
theorem lifted (os : Os) (started : os.Started) (H : Type) (enc : TypeId × Value→H) :
    ReturnsInHanded {} Tryz.checked os 6 .any (fun w args => (Rows.electionChangedVoteSpec.pre enc Tryz.prog Tryz.f6 [] false w args∧laidMetH Tryz.prog Rows.electionChangedVoteRow.laid w)∧sizedMet enc Tryz.prog Tryz.f6 (OpenSpec.ofChange Rows.electionChangedVoteSpec) false w args) (Rows.electionChangedVoteSpec.post enc Tryz.prog Tryz.f6 false true false false):=by
  refine returnsInHanded_of_change_and (C:=Tryz.checked) (X:=fun w _ => laidMetH Tryz.prog Rows.electionChangedVoteRow.laid w) (fun _ _ _ hh h => h.of_heap hh) own started (by kernel_rfl) Tryz.func6
    (ChangeSpec.witness_shaped (enc:=enc) (C:=Tryz.checked) (os:=os) (X:=fun w _ => laidMetH Tryz.prog Rows.electionChangedVoteRow.laid w) false (World.doorLaid Tryz.prog 400 os) #[.agg #[.int .u8 0,.int .u8 0],.slice none 0 0,.int .u64 0] 8 rfl (World.shaped_of_RefB (by kernel_rfl) (by kernel_rfl)) (by kernel_rfl) (by kernel_rfl) (by kernel_rfl) (door_met os _)) ?_
  intro W base args ds gs before hval0 hW hcnd hsz0 hLaid _
  have hsz : (DataW.weightsEach Tryz.prog (Tryz.f6.params.toList ++ Rows.electionChangedVoteSpec.plain.varTypes Tryz.prog) (ds ++ gs)).all (·≤reachBytes) = true:=hsz0
  have hval : ∀ (j : Nat) t v,Tryz.f6.params[j]? = some t→args[j]? = some v→Value.okWide Tryz.prog W .any base t v:=hval0
  have hW':=hW
  obtain ⟨p,q,hA0,hV,rfl,hfz,hnd⟩:=hW
  have hA : DataW.TrodAll enc Tryz.prog W 0 (fun _ => true) true Tryz.f6.params.toList args.toList ds p:=hA0
  rw [Tryz.params6] at hA hval hsz
  obtain ⟨v0,vs0,d0,ds0,p0,q0,hargs,rfl,rfl,h0,r0⟩:=trodAll_cons hA
  obtain ⟨v1,vs1,d1,ds1,p1,q1,rfl,rfl,rfl,h1,r1⟩:=trodAll_cons r0
  obtain ⟨v2,vs2,d2,ds2,p2,q2,rfl,rfl,rfl,h2,r2⟩:=trodAll_cons r1
  obtain ⟨rfl,rfl,rfl⟩:=trodAll_nil r2
  obtain rfl : args = #[v0,v1,v2]:=by cases args;simp_all
  obtain ⟨rfl,rfl⟩:=trodVars_none hV
  have hzz : (DataW.weightsEach Tryz.prog [22,23,37] [d0,d1,d2]).all (·≤reachBytes) = true:=hsz
  simp only [DataW.weightsEach,List.all_append,Bool.and_eq_true,List.append_nil] at hzz
  have k0:=h0
  have lt0 : ∀ x ∈ p0,x.block < W.heap.size:=by obtain ⟨m,hm⟩:=k0;exact DataW.trod_lt m _ _ _ hm
  obtain ⟨fuel0,hf0⟩:=h0
  obtain ⟨x0,K0,G0⟩:=opens_pair _ _ _ hf0 hzz.1
  obtain ⟨cs0,rfl,hcs0⟩:=okWide_array2 Tryz.underlying22 (hval 0 22 v0 rfl rfl)
  obtain ⟨cs0⟩:=cs0
  simp only [Value.cells] at K0
  obtain rfl:=K0
  obtain ⟨a1,len1,cap1,rfl⟩:=okWide_slice Tryz.underlying23 (hval 1 23 v1 rfl rfl)
  have k1:=h1
  have lt1 : ∀ x ∈ p1,x.block < W.heap.size:=by obtain ⟨m,hm⟩:=k1;exact DataW.trod_lt m _ _ _ hm
  obtain ⟨fuel1,hf1⟩:=h1
  obtain ⟨x1,⟨A1,c1,e1,hc1,hC1⟩,G1⟩:=opens_u64s _ _ _ hf1 hzz.2.1
  simp only [Value.cells,List.cons.injEq,Value.slice.injEq,and_true] at e1
  obtain ⟨rfl,rfl,rfl⟩:=e1
  obtain ⟨x2,rfl,rfl,rfl,G2⟩:=open_int Tryz.underlying37 (hval 2 37 v2 rfl rfl) h2
  obtain ⟨k,hk⟩:=Ev.rounds (electionChangedVote_ev x0.1 x0.2 x1 x2 G0.1 G0.2 G1 G2)
  clear hA0 hval0 hsz0 hsz hzz
  refine (P.privitylaw50_ElectionChangedVote.calls k x0.1 x0.2 _ _ x1 x2 true W hC1 hc1 hk).mono fun e W' ⟨he,bel0⟩ => ?_
  have bel : Below W.heap.size W W':=by first | exact bel0 | exact bel0.below
  subst he
  exact ⟨_,rfl,_,_,_,[],_,[],hW',trodAll_mk1 (shut_bool Tryz.underlying4 _),(trodAll_cons_mk (Below.trod laidOut (by kernel_rfl) (of_decide_eq_true (by kernel_rfl)) k0 bel lt0) (trodAll_cons_mk (Below.trod laidOut (by kernel_rfl) (of_decide_eq_true (by kernel_rfl)) k1 bel lt1) (trodAll_cons_mk (shut_int Tryz.underlying37 G2) trodAll_mk0))),rfl,bel.frame _,fun h => by cases h⟩
theorem over : Rows.electionChangedVoteRow.holds Tryz.pinned (OpenSpec.ofChange Rows.electionChangedVoteSpec) :=
  OpenClaim.holds_of_wide 6 Tryz.f6 rfl rfl rfl rfl rfl rfl rfl ⟨rfl,rfl,rfl,rfl,rfl⟩ rfl rfl rfl rfl rfl (by kernel_rfl) Tryz.func6 (by kernel_rfl)
    (of_decide_eq_true (by kernel_rfl)) (by unfold Func.isWrapper;first | (rw [if_pos (by decide +kernel)];kernel_rfl) | (rw [if_neg (by decide +kernel)];exact ⟨rfl,rfl⟩))
    (fun os started H enc _ => lifted os started H enc)
theorem proved : Rows.ElectionChangedVoteSaid:=over
#print axioms proved
end Go.Proofs.YtkgdhdjkpnalmaaGreatDoor.electionChangedVote
namespace Go.Proofs.YtkgdhdjkpnalmaaGreatDoor.electionChangedVote
open Go
theorem card_proved : Rows.ElectionChangedVoteCardSaid :=
  Claim7.holds_tied_plain_at .later [] [.data, .data, .data] true (true, "4ed949040ac155a0fcc4831010aacbbbd0a36160097d514d126cba74b02c6626") false
    proved (fun _ h => by cases h) (by kernel_rfl) (fun _ h => by cases h) electionChangedVote_row_tie rfl ⟨rfl,rfl⟩ (by kernel_rfl) rfl
    (fun f fn hf hfn => by
      obtain rfl : f = 6 := Option.some.inj ((show Tryz.prog.funcNamed "privity/privitylaw50.ElectionChangedVote" = some 6 by kernel_rfl).symm.trans hf) |>.symm
      obtain rfl : fn = Tryz.f6:=(Option.some.inj (Tryz.func6.symm.trans hfn)).symm
      exact ⟨by kernel_rfl,fun j t ht => by
        rw [Tryz.params6] at ht
        have hm : t ∈ [22,23,37]:=by simpa using Array.mem_of_getElem? ht
        have hall : ([22,23,37].all fun u => !Tryz.prog.wantsStandIn u) = true:=by kernel_rfl
        exact (show Tryz.prog.wantsStandIn t = false by simpa using List.all_eq_true.1 hall t hm)⟩)
    (by kernel_rfl)
#print axioms card_proved
end Go.Proofs.YtkgdhdjkpnalmaaGreatDoor.electionChangedVote
namespace Go.Proofs.YtkgdhdjkpnalmaaGreatDoor
theorem electionChangedVote_holds : Rows.ElectionChangedVoteCardSaid:=electionChangedVote.card_proved
end Go.Proofs.YtkgdhdjkpnalmaaGreatDoor
end
