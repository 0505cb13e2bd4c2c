/- What is proved here: a part of the proof of ScriptConcatenation: Px25, Px28, Slb, PureScriptConcatenation. No conditions beside those that each theorem states. -/
import Derived.Test.YtfgbdcpfbghdoaaGreatDoorKSCon9
import Derived.Test.YtfgbdcpfbghdoaaGreatDoorKSCon18
import Derived.Test.YtfgbdcpfbghdoaaGreatDoorKSCon26
import Derived.Test.YtfgbdcpfbghdoaaGreatDoorKSCon27
import Derived.Test.YtfgbdcpfbghdoaaGreatDoorKSCon35
import Derived.Test.YtfgbdcpfbghdoaaGreatDoorKSCon36
import Derived.Test.YtfgbdcpfbghdoaaGreatDoorKSCon25
import Derived.Test.YtfgbdcpfbghdoaaGreatDoorKSCon38
import Derived.Test.YtfgbdcpfbghdoaaGreatDoorKSCon42
import Derived.Test.YtfgbdcpfbghdoaaGreatDoorKSCon43
import Derived.Test.YtfgbdcpfbghdoaaGreatDoorKSCon44
import Derived.Test.YtfgbdcpfbghdoaaGreatDoorKSCon37
section
namespace Go.Proofs.YtfgbdcpfbghdoaaGreatDoor.P
open Go.RowKit Go.Proofs.YtfgbdcpfbghdoaaGreatDoorW.PrintWords Go.Proofs.YtfgbdcpfbghdoaaGreatDoorW.PrintLast Go.Proofs.YtfgbdcpfbghdoaaGreatDoorW.PrintMore
attribute [local go_sem] max2_int min2_int max_two min_two max_three min_three max_four min_four   -- for this text's walks alone
set_option linter.unusedVariables false
set_option linter.unusedSimpArgs false
end Go.Proofs.YtfgbdcpfbghdoaaGreatDoor.P
end
section
namespace Go.Proofs.YtfgbdcpfbghdoaaGreatDoor.P
open Go.RowKit Go.Proofs.YtfgbdcpfbghdoaaGreatDoorW.PrintWords Go.Proofs.YtfgbdcpfbghdoaaGreatDoorW.PrintLast Go.Proofs.YtfgbdcpfbghdoaaGreatDoorW.PrintMore
attribute [local go_sem] max2_int min2_int max_two min_two max_three min_three max_four min_four   -- for this text's walks alone
set_option linter.unusedVariables false
set_option linter.unusedSimpArgs false
end Go.Proofs.YtfgbdcpfbghdoaaGreatDoor.P
end
section
set_option linter.unusedVariables false
set_option linter.unusedSimpArgs false
namespace Go.Proofs.YtfgbdcpfbghdoaaGreatDoor.P
open Go.RowKit Go.Proofs.YtfgbdcpfbghdoaaGreatDoorW.PrintWords Go.Proofs.YtfgbdcpfbghdoaaGreatDoorW.PrintLast Go.Proofs.YtfgbdcpfbghdoaaGreatDoorW.PrintMore
theorem no3 : ¬ ((3 : Int) = 0) := by decide
theorem may_words {l : List S36} (h : l.all mayC = true) : ∀ x ∈ l, x.f1.length ≤ 1000000000000000 := by
  intro x hx
  have := (may_le (List.all_eq_true.1 h x hx)).2.1
  omega
theorem cat_mk (s : List UInt8) (p : Array UInt8) : mkB s ++ (⟨p⟩ : ByteArray) = mkB (s ++ p.toList) := by
  apply ByteArray.ext; simp [mkB]
theorem concat_go (s t note : List UInt8) (hs : s.length ≤ 1000) (ht : t.length ≤ 1000) (hn : note.length ≤ 50) : ∀ (d i : Nat), note.length - i = d → i ≤ note.length → (10 : UInt8) ∉ note.take i → Ev (fun k => privitylaw53_ScriptConcatenation.l0 k (mkB s) (mkB t) (mkB note) (i : Int)) true := by
  intro d
  induction d with
  | zero =>
    intro i hd hi hno
    rw [List.take_of_length_le (by omega)] at hno
    have z1 := mkB_size s
    have z2 := mkB_size t
    have z3 := mkB_size note
    have c1 : ¬ (i : Int) < ((mkB note).size : Int) := by omega
    have e1 : mkB s ++ (⟨#[10, 32, 32, 35]⟩ : ByteArray) = mkB (s ++ [10, 32, 32, 35]) := cat_mk s _
    have e2 : mkB (s ++ [10, 32, 32, 35]) ++ mkB note = mkB (s ++ [10, 32, 32, 35] ++ note) := mkB_app _ _
    have e3 : mkB (s ++ [10, 32, 32, 35] ++ note) ++ (⟨#[10, 10]⟩ : ByteArray) = mkB (s ++ [10, 32, 32, 35] ++ note ++ [10, 10]) := cat_mk _ _
    have e4 : mkB (s ++ [10, 32, 32, 35] ++ note ++ [10, 10]) ++ mkB t = mkB (s ++ [10, 32, 32, 35] ++ note ++ [10, 10] ++ t) := mkB_app _ _
    have y1 := mkB_size (s ++ [10, 32, 32, 35])
    have y2 := mkB_size (s ++ [10, 32, 32, 35] ++ note)
    have y3 := mkB_size (s ++ [10, 32, 32, 35] ++ note ++ [10, 10])
    simp only [List.length_append, List.length_cons, List.length_nil] at y1 y2 y3
    have g1 : (mkB s).size + 4 ≤ 9223372036854775807 := by omega
    have g2 : (mkB (s ++ [10, 32, 32, 35])).size + (mkB note).size ≤ 9223372036854775807 := by omega
    have g3 : (mkB (s ++ [10, 32, 32, 35] ++ note)).size + 2 ≤ 9223372036854775807 := by omega
    have g4 : (mkB (s ++ [10, 32, 32, 35] ++ note ++ [10, 10])).size + (mkB t).size ≤ 9223372036854775807 := by omega
    have pj := parse_ev (s ++ [10, 32, 32, 35] ++ note ++ [10, 10] ++ t) (by simp only [List.length_append, List.length_cons, List.length_nil]; omega)
    have ps := parse_ev s (by omega)
    have pt := parse_ev t (by omega)
    refine Ev.step (fun k => by rw [privitylaw53_ScriptConcatenation.l0, if_neg c1]) (Ev.bind ps (Ev.bind pt ?_))
    rw [e1, e2, e3, e4]
    simp only [g1, g2, g3, g4, if_true]
    refine Ev.bind pj ?_
    rcases parse_out s with ⟨l, hm, h1, h2, e, hl⟩ | ⟨m, e, hl⟩
    · rw [joint_ok s note t hno l hl, e]
      rcases parse_out t with ⟨l', hm', h1', h2', e', hl'⟩ | ⟨m', e', hl'⟩
      · rw [hl', e']
        have q1 : l.length < 3518437208883 := by omega
        have q2 : l.length + l'.length < 3518437208883 := by omega
        simp only [if_true]
        refine Ev.bind awake_ev ?_
        simp only [if_true, Option.bind_some, List.nil_append, List.length_nil, Nat.zero_add, q1, q2]
        have hall : (l ++ l').all mayC = true := by rw [List.all_append, hm, hm']; rfl
        exact Ev.bind (same_ev (l ++ l') (l ++ l') (by rw [List.length_append]; omega) (may_words hall) true (by simp)) (Ev.now true)
      · rw [hl', e']
        refine Ev.congr (fun k => (if_pos rfl).trans (if_neg no3)) (Ev.bind awake_ev ?_)
        rw [if_pos rfl]
        exact Ev.now _
    · rw [joint_bad s note t hno m hl, e]
      refine Ev.congr (fun k => if_neg no3) (Ev.bind awake_ev ?_)
      rw [if_pos rfl, if_pos rfl]
      simp only [beq_self_eq_true]
      exact Ev.now _
  | succ d ih =>
    intro i hd hi hno
    have hlt : i < note.length := by omega
    have z3 := mkB_size note
    have c1 : (i : Int) < ((mkB note).size : Int) := by omega
    have c2 : 0 ≤ (i : Int) := by omega
    have hw := wrap64_nat i (by omega)
    have hd' : note.length - (i + 1) = d := by omega
    have hbt : bt (mkB note) (i : Int) = (note[i].toNat : Int) := bt_nat note i hlt
    by_cases h10 : note[i] = 10
    · exact Ev.step (fun k => by rw [privitylaw53_ScriptConcatenation.l0, if_pos c1, if_pos c2, hbt, if_pos ((n10 _).2 h10)]) (Ev.bind awake_ev (Ev.now true))
    · have hx := ih (i + 1) hd' hlt (by
        rw [List.take_succ_eq_append_getElem hlt, List.mem_append, List.mem_singleton]
        rintro (h | h)
        · exact hno h
        · exact h10 h.symm)
      exact Ev.step (fun k => by rw [privitylaw53_ScriptConcatenation.l0, if_pos c1, if_pos c2, hbt, if_neg (fun h => h10 ((n10 _).1 h)), hw]) hx
theorem scriptConcatenation_ev (s t note : List UInt8) : Ev (fun k => privitylaw53_ScriptConcatenation.f k (mkB s) (mkB t) (mkB note)) true := by
  have z1 := mkB_size s
  have z2 := mkB_size t
  have z3 := mkB_size note
  have quit : Ev (fun k => privitylaw53_ScriptConcatenation.j0 k (mkB s) (mkB t) (mkB note) true) true :=
    Ev.step (fun k => by rw [privitylaw53_ScriptConcatenation.j0, if_pos rfl]) (Ev.bind awake_ev (Ev.now true))
  by_cases h1 : ((mkB s).size : Int) > 1000
  · exact Ev.congr (fun k => by rw [privitylaw53_ScriptConcatenation.f, if_pos h1]) quit
  · by_cases h2 : ((mkB t).size : Int) > 1000
    · exact Ev.congr (fun k => by rw [privitylaw53_ScriptConcatenation.f, if_neg h1, if_pos h2]) quit
    · by_cases h3 : ((mkB note).size : Int) > 50
      · exact Ev.congr (fun k => by rw [privitylaw53_ScriptConcatenation.f, if_neg h1, if_neg h2, decide_eq_true h3]) quit
      · have hx := concat_go s t note (by omega) (by omega) (by omega) _ 0 rfl (Nat.zero_le _) (by simp)
        refine Ev.congr (f := fun k => privitylaw53_ScriptConcatenation.j0 k (mkB s) (mkB t) (mkB note) false) (fun k => by rw [privitylaw53_ScriptConcatenation.f, if_neg h1, if_neg h2, decide_eq_false h3]) (Ev.step (f := fun k => privitylaw53_ScriptConcatenation.l0 k (mkB s) (mkB t) (mkB note) 0) (fun k => by rw [privitylaw53_ScriptConcatenation.j0, if_neg (by simp)]) hx)
end Go.Proofs.YtfgbdcpfbghdoaaGreatDoor.P
end
section
namespace Go.Proofs.YtfgbdcpfbghdoaaGreatDoor.Pure
open Go.RowKit Go.Proofs.YtfgbdcpfbghdoaaGreatDoor.P Go.Proofs.YtfgbdcpfbghdoaaGreatDoorW.PrintWords Go.Proofs.YtfgbdcpfbghdoaaGreatDoorW.PrintLast
theorem ScriptConcatenation : privitylaw53_ScriptConcatenation.Pure := fun s t n _ _ _ => Ev.rounds (mkB_of s ▸ mkB_of t ▸ mkB_of n ▸ scriptConcatenation_ev s.data.toList t.data.toList n.data.toList)
end Go.Proofs.YtfgbdcpfbghdoaaGreatDoor.Pure
end
