/- What is proved here: a part of the proof of ScriptParse: Px25, Px28, Slb, PureScriptParse. No conditions beside those that each theorem states. -/
import Derived.Test.YtfgbdcpfbghdoaaGreatDoorKSPse9
import Derived.Test.YtfgbdcpfbghdoaaGreatDoorKSPse18
import Derived.Test.YtfgbdcpfbghdoaaGreatDoorKSPse26
import Derived.Test.YtfgbdcpfbghdoaaGreatDoorKSPse33
import Derived.Test.YtfgbdcpfbghdoaaGreatDoorKSPse38
import Derived.Test.YtfgbdcpfbghdoaaGreatDoorKSPse37
import Derived.Test.YtfgbdcpfbghdoaaGreatDoorKSPse25
import Derived.Test.YtfgbdcpfbghdoaaGreatDoorKSPse40
import Derived.Test.YtfgbdcpfbghdoaaGreatDoorKSPse43
import Derived.Test.YtfgbdcpfbghdoaaGreatDoorKSPse39
import Derived.Test.YtfgbdcpfbghdoaaGreatDoorKSPse44
import Derived.Test.YtfgbdcpfbghdoaaGreatDoorKSPse45
section
namespace Go.Proofs.YtfgbdcpfbghdoaaGreatDoor.P
open Go.RowKit Go.Proofs.YtfgbdcpfbghdoaaGreatDoorW.PrintWords Go.Proofs.YtfgbdcpfbghdoaaGreatDoorW.PrintLast Go.Proofs.YtfgbdcpfbghdoaaGreatDoorW.PrintMore
attribute [local go_sem] max2_int min2_int max_two min_two max_three min_three max_four min_four   -- for this text's walks alone
set_option linter.unusedVariables false
set_option linter.unusedSimpArgs false
end Go.Proofs.YtfgbdcpfbghdoaaGreatDoor.P
end
section
namespace Go.Proofs.YtfgbdcpfbghdoaaGreatDoor.P
open Go.RowKit Go.Proofs.YtfgbdcpfbghdoaaGreatDoorW.PrintWords Go.Proofs.YtfgbdcpfbghdoaaGreatDoorW.PrintLast Go.Proofs.YtfgbdcpfbghdoaaGreatDoorW.PrintMore
attribute [local go_sem] max2_int min2_int max_two min_two max_three min_three max_four min_four   -- for this text's walks alone
set_option linter.unusedVariables false
set_option linter.unusedSimpArgs false
end Go.Proofs.YtfgbdcpfbghdoaaGreatDoor.P
end
section
set_option linter.unusedVariables false
set_option linter.unusedSimpArgs false
namespace Go.Proofs.YtfgbdcpfbghdoaaGreatDoor.P
open Go.RowKit Go.Proofs.YtfgbdcpfbghdoaaGreatDoorW.PrintWords Go.Proofs.YtfgbdcpfbghdoaaGreatDoorW.PrintLast Go.Proofs.YtfgbdcpfbghdoaaGreatDoorW.PrintMore
theorem may_words {l : List S36} (h : l.all mayC = true) : ∀ x ∈ l, x.f1.length ≤ 1000000000000000 := by
  intro x hx
  have := (may_le (List.all_eq_true.1 h x hx)).2.1
  omega
theorem scriptParse_ev (s : List UInt8) : Ev (fun k => privitylaw53_ScriptParse.f k (mkB s)) true := by
  have hz := mkB_size s
  by_cases hb : ((mkB s).size : Int) > 2000
  · exact Ev.congr (fun k => by rw [privitylaw53_ScriptParse.f, if_pos hb]) (Ev.bind awake_ev (Ev.now true))
  · have hl : s.length ≤ 2000 := by omega
    have same : Ev (fun k => privityref53_Same.f k (parseT s).1 (parseT s).1) true := by
      rcases parse_out s with ⟨l, hm, h1, h2, e, -⟩ | ⟨m, e, -⟩
      · rw [e]; exact same_ev l l (by omega) (may_words hm) true (by simp)
      · rw [e]; exact same_ev [] [] (by simp) (by simp) true (by simp)
    refine Ev.congr (fun k => by rw [privitylaw53_ScriptParse.f, if_neg hb]) (Ev.bind (parse_ev s (by omega)) (Ev.bind (refParse s (by omega)) (Ev.bind awake_ev ?_)))
    refine Ev.congr (fun k => if_pos rfl) (Ev.bind same ?_)
    rw [if_pos rfl, if_pos rfl]
    simp only [beq_self_eq_true]
    exact Ev.now _
end Go.Proofs.YtfgbdcpfbghdoaaGreatDoor.P
end
section
namespace Go.Proofs.YtfgbdcpfbghdoaaGreatDoor.Pure
open Go.RowKit Go.Proofs.YtfgbdcpfbghdoaaGreatDoor.P Go.Proofs.YtfgbdcpfbghdoaaGreatDoorW.PrintWords Go.Proofs.YtfgbdcpfbghdoaaGreatDoorW.PrintLast
theorem ScriptParse : privitylaw53_ScriptParse.Pure := fun s _ => Ev.rounds (mkB_of s ▸ scriptParse_ev s.data.toList)
end Go.Proofs.YtfgbdcpfbghdoaaGreatDoor.Pure
end
