/- What is proved here: a part of the proof of ScriptRoundTrip: Px25, Px28, Slb, PureScriptRoundTrip. No conditions beside those that each theorem states. -/
import Derived.Test.YtfgbdcpfbghdoaaGreatDoorKSRTip9
import Derived.Test.YtfgbdcpfbghdoaaGreatDoorKSRTip18
import Derived.Test.YtfgbdcpfbghdoaaGreatDoorKSRTip26
import Derived.Test.YtfgbdcpfbghdoaaGreatDoorKSRTip27
import Derived.Test.YtfgbdcpfbghdoaaGreatDoorKSRTip35
import Derived.Test.YtfgbdcpfbghdoaaGreatDoorKSRTip37
import Derived.Test.YtfgbdcpfbghdoaaGreatDoorKSRTip25
import Derived.Test.YtfgbdcpfbghdoaaGreatDoorKSRTip39
import Derived.Test.YtfgbdcpfbghdoaaGreatDoorKSRTip43
import Derived.Test.YtfgbdcpfbghdoaaGreatDoorKSRTip44
import Derived.Test.YtfgbdcpfbghdoaaGreatDoorKSRTip38
import Derived.Test.YtfgbdcpfbghdoaaGreatDoorKSRTip45
section
namespace Go.Proofs.YtfgbdcpfbghdoaaGreatDoor.P
open Go.RowKit Go.Proofs.YtfgbdcpfbghdoaaGreatDoorW.PrintWords Go.Proofs.YtfgbdcpfbghdoaaGreatDoorW.PrintLast Go.Proofs.YtfgbdcpfbghdoaaGreatDoorW.PrintMore
attribute [local go_sem] max2_int min2_int max_two min_two max_three min_three max_four min_four   -- for this text's walks alone
set_option linter.unusedVariables false
set_option linter.unusedSimpArgs false
end Go.Proofs.YtfgbdcpfbghdoaaGreatDoor.P
end
section
namespace Go.Proofs.YtfgbdcpfbghdoaaGreatDoor.P
open Go.RowKit Go.Proofs.YtfgbdcpfbghdoaaGreatDoorW.PrintWords Go.Proofs.YtfgbdcpfbghdoaaGreatDoorW.PrintLast Go.Proofs.YtfgbdcpfbghdoaaGreatDoorW.PrintMore
attribute [local go_sem] max2_int min2_int max_two min_two max_three min_three max_four min_four   -- for this text's walks alone
set_option linter.unusedVariables false
set_option linter.unusedSimpArgs false
end Go.Proofs.YtfgbdcpfbghdoaaGreatDoor.P
end
section
set_option linter.unusedVariables false
set_option linter.unusedSimpArgs false
namespace Go.Proofs.YtfgbdcpfbghdoaaGreatDoor.P
open Go.RowKit Go.Proofs.YtfgbdcpfbghdoaaGreatDoorW.PrintWords Go.Proofs.YtfgbdcpfbghdoaaGreatDoorW.PrintLast Go.Proofs.YtfgbdcpfbghdoaaGreatDoorW.PrintMore
theorem no3 : ¬ ((3 : Int) = 0) := by decide
theorem may_words {l : List S36} (h : l.all mayC = true) : ∀ x ∈ l, x.f1.length ≤ 1000000000000000 := by
  intro x hx
  have := (may_le (List.all_eq_true.1 h x hx)).2.1
  omega
theorem scriptRoundTrip_ev (s : List UInt8) : Ev (fun k => privitylaw53_ScriptRoundTrip.f k (mkB s)) true := by
  have hz := mkB_size s
  by_cases hb : ((mkB s).size : Int) > 2000
  · exact Ev.congr (fun k => by rw [privitylaw53_ScriptRoundTrip.f, if_pos hb]) (Ev.bind awake_ev (Ev.now true))
  · have hl : s.length ≤ 2000 := by omega
    have hp := parse_ev s (by omega)
    refine Ev.congr (fun k => by rw [privitylaw53_ScriptRoundTrip.f, if_neg hb]) (Ev.bind hp ?_)
    rcases parse_out s with ⟨l, hm, h1, h2, e, -⟩ | ⟨m, e, -⟩
    · rw [e]
      have hf := format_f hm (by omega)
      have hq := parse_ev (formatL l) (by omega)
      rw [parse_format l hm] at hq
      simp only [if_true, hf, Option.bind_some]
      refine Ev.bind hq ?_
      simp only [hf, Option.bind_some]
      refine Ev.bind awake_ev ?_
      simp only [if_true]
      refine Ev.bind (same_ev l l (by omega) (may_words hm) true (by simp)) ?_
      simp only [beq_self_eq_true, if_true]
      exact Ev.now _
    · rw [e]
      refine Ev.congr (fun k => if_neg no3) (Ev.bind awake_ev ?_)
      rw [if_pos rfl]
      exact Ev.now _
end Go.Proofs.YtfgbdcpfbghdoaaGreatDoor.P
end
section
namespace Go.Proofs.YtfgbdcpfbghdoaaGreatDoor.Pure
open Go.RowKit Go.Proofs.YtfgbdcpfbghdoaaGreatDoor.P Go.Proofs.YtfgbdcpfbghdoaaGreatDoorW.PrintWords Go.Proofs.YtfgbdcpfbghdoaaGreatDoorW.PrintLast
theorem ScriptRoundTrip : privitylaw53_ScriptRoundTrip.Pure := fun s _ => Ev.rounds (mkB_of s ▸ scriptRoundTrip_ev s.data.toList)
end Go.Proofs.YtfgbdcpfbghdoaaGreatDoor.Pure
end
