/- What is proved here: a part of the proof of ScriptFormatInjective: Slb, Sco. No conditions beside those that each theorem states. -/
import Derived.Test.YtfgbdcpfbghdoaaGreatDoorKSFIve44
import Derived.Test.YtfgbdcpfbghdoaaGreatDoorKSFIve45
import Derived.Test.YtfgbdcpfbghdoaaGreatDoorKSFIve43
import Derived.Test.YtfgbdcpfbghdoaaGreatDoorKSFIve1
section
set_option linter.unusedVariables false
set_option linter.unusedSimpArgs false
namespace Go.Proofs.YtfgbdcpfbghdoaaGreatDoor.P
open Go.RowKit Go.Proofs.YtfgbdcpfbghdoaaGreatDoorW.PrintWords Go.Proofs.YtfgbdcpfbghdoaaGreatDoorW.PrintLast Go.Proofs.YtfgbdcpfbghdoaaGreatDoorW.PrintMore
theorem format_any (l : List S36) (hl : l.length ≤ 100000) (hv : ∀ x ∈ l, x.f0.size ≤ 140737488355328) : script_Format.f l = some (if l.all mayC = true then (mkB (formatL l), 0) else (⟨#[]⟩, 1)) := by
  unfold script_Format.f
  rw [if_pos ⟨hl, List.all_eq_true.2 fun x hx => by simpa using hv x hx⟩]
  split <;> rfl
def Fits (l : List S36) : Prop := ∀ x ∈ l, x.f0.size ≤ 140737488355328 ∧ ∀ w ∈ x.f1, w.size ≤ 140737488355328
theorem scriptFormatInjective_ev (a b : List S36) (ha : Fits a) (hb : Fits b) : Ev (fun k => privitylaw53_ScriptFormatInjective.f k a b) true := by
  have quit : Ev (fun k => privitylaw53_ScriptFormatInjective.j0 k a b true) true :=
    Ev.step (fun k => by rw [privitylaw53_ScriptFormatInjective.j0, if_pos rfl]) (Ev.bind awake_ev (Ev.now true))
  have quit2 : ∀ s t : ByteArray, Ev (fun k => privitylaw53_ScriptFormatInjective.j1 k a b s t true) true :=
    fun s t => Ev.step (fun k => by rw [privitylaw53_ScriptFormatInjective.j1, if_pos rfl]) (Ev.bind awake_ev (Ev.now true))
  obtain ⟨x, hx, qx⟩ := few_ev a ha
  obtain ⟨y, hy, qy⟩ := few_ev b hb
  refine Ev.bind hx ?_
  cases x
  · exact Ev.congr (fun k => if_neg (by simp)) quit
  · refine Ev.congr (fun k => if_pos rfl) (Ev.bind hy ?_)
    cases y
    · exact quit
    · obtain ⟨h20, hsm⟩ := qx rfl
      obtain ⟨g20, gsm⟩ := qy rfl
      have hf := format_any a (by omega) (fun x hx => (ha x hx).1)
      have hg := format_any b (by omega) (fun x hx => (hb x hx).1)
      have hw : ∀ x ∈ a, x.f1.length ≤ 1000000000000000 := fun x hx => by have := (hsm x hx).1; omega
      by_cases hm : a.all mayC = true
      · rw [if_pos hm] at hf
        by_cases hn : b.all mayC = true
        · rw [if_pos hn] at hg
          have hinj : formatL a = formatL b ↔ a = b := by
            constructor
            · intro h
              have := congrArg parseT h
              rw [parse_format a hm, parse_format b hn] at this
              exact congrArg Prod.fst this
            · intro h; rw [h]
          obtain ⟨r, hr⟩ : ∃ r : Bool, r = true ↔ a = b := ⟨@decide (a = b) (Classical.propDecidable _), by simp⟩
          have ht : (((mkB (formatL a)).toList == (mkB (formatL b)).toList) == r) = true := by
            rw [mkB_toList, mkB_toList]
            cases r
            · have : ¬ formatL a = formatL b := fun h => by have := hr.2 (hinj.1 h); cases this
              simp [this]
            · have : formatL a = formatL b := hinj.2 (hr.1 rfl)
              simp [this]
          refine Ev.step (f := fun k => privitylaw53_ScriptFormatInjective.j1 k a b (mkB (formatL a)) (mkB (formatL b)) false) (fun k => ?_) ?_
          · show privitylaw53_ScriptFormatInjective.j0 (k + 1) a b false = _
            rw [privitylaw53_ScriptFormatInjective.j0, if_neg (by simp), hf, Option.bind_some, hg, Option.bind_some]
            rfl
          · refine Ev.step (fun k => by rw [privitylaw53_ScriptFormatInjective.j1, if_neg (by simp)]) (Ev.bind awake_ev ?_)
            simp only [if_true]
            refine Ev.bind (same_ev a b (by omega) hw r hr) ?_
            rw [ht]
            exact Ev.now true
        · rw [if_neg hn] at hg
          refine Ev.step (f := fun k => privitylaw53_ScriptFormatInjective.j1 k a b (mkB (formatL a)) ⟨#[]⟩ true) (fun k => ?_) (quit2 _ _)
          show privitylaw53_ScriptFormatInjective.j0 (k + 1) a b false = _
          rw [privitylaw53_ScriptFormatInjective.j0, if_neg (by simp), hf, Option.bind_some, hg, Option.bind_some]
          rfl
      · rw [if_neg hm] at hf
        refine Ev.step (f := fun k => privitylaw53_ScriptFormatInjective.j1 k a b ⟨#[]⟩ (if b.all mayC = true then (mkB (formatL b), (0 : Int)) else (⟨#[]⟩, 1)).1 true) (fun k => ?_) (quit2 _ _)
        show privitylaw53_ScriptFormatInjective.j0 (k + 1) a b false = _
        rw [privitylaw53_ScriptFormatInjective.j0, if_neg (by simp), hf, Option.bind_some, hg, Option.bind_some]
        rfl
end Go.Proofs.YtfgbdcpfbghdoaaGreatDoor.P
end
section
set_option linter.unusedVariables false
namespace Go.Proofs.YtfgbdcpfbghdoaaGreatDoor.P
open Go.RowKit Go.Proofs.YtfgbdcpfbghdoaaGreatDoorW.PrintWords Go.Proofs.YtfgbdcpfbghdoaaGreatDoor.Opn
variable {H : Type} {enc : TypeId × Value → H} {w : World}
theorem opens_command : Opens enc Tryz.prog w 0 true 36 k36 (fun x => x.f0.size ≤ 140737488351232 ∧ (∀ n ∈ x.f1, n.size ≤ 140737488351232) ∧ x.f1.length * 16 ≤ 140737488351232) :=
  opens_struct (fun x : S36 => (x.f0, x.f1)) (fun p => ⟨p.1, p.2⟩) Tryz.underlying36 (by kernel_rfl) (fun _ => rfl)
    (opensF_cons rfl (by kernel_rfl) (opens_string Tryz.underlying9)
      (opensF_one rfl (by kernel_rfl) (opens_slice Tryz.underlying34 (by kernel_rfl) (by kernel_rfl) (opens_string Tryz.underlying9))))
theorem opens_commands : Opens enc Tryz.prog w 0 true 23 (Kd.slice 36 k36) (fun v => Fits v) := by
  intro fuel cs x h hz
  obtain ⟨a, hK, h1, h2⟩ := opens_slice (B := 40) Tryz.underlying23 (by kernel_rfl) (by kernel_rfl) opens_command fuel cs x h hz
  refine ⟨a, hK, fun e he => ?_⟩
  obtain ⟨g0, g1, _⟩ := h1 e he
  exact ⟨by omega, fun w hw => by have := g1 w hw; omega⟩
end Go.Proofs.YtfgbdcpfbghdoaaGreatDoor.P
end
