/- What is proved here: a part of the proof of ScriptFormat: Slb, Sco. No conditions beside those that each theorem states. -/
import Derived.Test.YtfgbdcpfbghdoaaGreatDoorKSFat46
import Derived.Test.YtfgbdcpfbghdoaaGreatDoorKSFat45
import Derived.Test.YtfgbdcpfbghdoaaGreatDoorKSFat1
section
set_option linter.unusedVariables false
set_option linter.unusedSimpArgs false
namespace Go.Proofs.YtfgbdcpfbghdoaaGreatDoor.P
open Go.RowKit Go.Proofs.YtfgbdcpfbghdoaaGreatDoorW.PrintWords Go.Proofs.YtfgbdcpfbghdoaaGreatDoorW.PrintLast Go.Proofs.YtfgbdcpfbghdoaaGreatDoorW.PrintMore
theorem may_words {l : List S36} (h : l.all mayC = true) : ∀ x ∈ l, x.f1.length ≤ 1000000000000000 := by
  intro x hx
  have := (may_le (List.all_eq_true.1 h x hx)).2.1
  omega
theorem format_any (l : List S36) (hl : l.length ≤ 100000) (hv : ∀ x ∈ l, x.f0.size ≤ 140737488355328) : script_Format.f l = some (if l.all mayC = true then (mkB (formatL l), 0) else (⟨#[]⟩, 1)) := by
  unfold script_Format.f
  rw [if_pos ⟨hl, List.all_eq_true.2 fun x hx => by simpa using hv x hx⟩]
  split <;> rfl
theorem small_line {x : S36} (h : SmallC x) : (lineC x).length ≤ 800 := by
  obtain ⟨h1, h2⟩ := h
  have key : ∀ ws : List ByteArray, (ws.flatMap wordL).length ≤ 3 * ws.length + 2 * sumS ws := by
    intro ws
    induction ws with
    | nil => simp [sumS]
    | cons w r ih =>
      have := pieceL_le w
      rw [List.flatMap_cons, List.length_append, wordL]
      simp only [List.length_cons, sumS]
      omega
  have := key x.f1
  have h3 := dl x.f0
  unfold lineC
  simp only [List.length_append, List.length_cons, List.length_nil]
  omega
theorem small_text : ∀ l : List S36, (∀ x ∈ l, SmallC x) → (formatL l).length ≤ 800 * l.length
  | [], _ => by simp [formatL]
  | x :: r, h => by
    have h1 := small_line (h x (by simp))
    have h2 := small_text r (fun y hy => h y (by simp [hy]))
    rw [formatL_cons, List.length_cons]
    omega
def Fits (l : List S36) : Prop := ∀ x ∈ l, x.f0.size ≤ 140737488355328 ∧ ∀ w ∈ x.f1, w.size ≤ 140737488355328
theorem scriptFormat_ev (l : List S36) (hs : Fits l) : Ev (fun k => privitylaw53_ScriptFormat.f k l) true := by
  obtain ⟨b, hb, hq⟩ := few_ev l hs
  refine Ev.bind hb ?_
  cases b
  · exact Ev.congr (fun k => if_neg (by simp)) (Ev.bind awake_ev (Ev.now true))
  · obtain ⟨h20, hsm⟩ := hq rfl
    have h800 := small_text l hsm
    have hf := format_any l (by omega) (fun x hx => (hs x hx).1)
    have hr := refFormat l (by omega) (fun x hx => by have := hsm x hx; unfold SmallC at this; omega)
    refine Ev.congr (fun k => by rw [if_pos rfl, hf, Option.bind_some]) (Ev.bind hr ?_)
    by_cases hm : l.all mayC = true
    · have hp := parse_ev (formatL l) (by omega)
      rw [parse_format l hm] at hp
      rw [if_pos hm]
      refine Ev.congr (fun k => if_pos rfl) ?_
      refine Ev.step (f := fun k => (script_Parse.f k (mkB (formatL l))).bind fun bt234 => ((privitylaw53_awake.f k).bind fun t239 => (if t239 = true then (if bt234.2.2 = 0 then (if bt234.2.1 = 0 then ((privityref53_Same.f k l bt234.1).bind fun t240 => (some t240)) else (some false)) else (some false)) else (some false)))) (fun k => ?_) ?_
      · rw [privitylaw53_ScriptFormat.j0]
        simp only [bne_self_eq_false, Bool.false_eq_true, if_false, if_true]
      · refine Ev.bind hp (Ev.bind awake_ev ?_)
        simp only [if_true]
        exact Ev.bind (same_ev l l (by omega) (may_words hm) true (by simp)) (Ev.now true)
    · rw [if_neg hm]
      refine Ev.congr (fun k => if_pos rfl) ?_
      refine Ev.step (fun k => ?_) (Ev.bind awake_ev (Ev.now true))
      rw [privitylaw53_ScriptFormat.j0]
      simp
end Go.Proofs.YtfgbdcpfbghdoaaGreatDoor.P
end
section
set_option linter.unusedVariables false
namespace Go.Proofs.YtfgbdcpfbghdoaaGreatDoor.P
open Go.RowKit Go.Proofs.YtfgbdcpfbghdoaaGreatDoorW.PrintWords Go.Proofs.YtfgbdcpfbghdoaaGreatDoor.Opn
variable {H : Type} {enc : TypeId × Value → H} {w : World}
theorem opens_command : Opens enc Tryz.prog w 0 true 36 k36 (fun x => x.f0.size ≤ 140737488351232 ∧ (∀ n ∈ x.f1, n.size ≤ 140737488351232) ∧ x.f1.length * 16 ≤ 140737488351232) :=
  opens_struct (fun x : S36 => (x.f0, x.f1)) (fun p => ⟨p.1, p.2⟩) Tryz.underlying36 (by kernel_rfl) (fun _ => rfl)
    (opensF_cons rfl (by kernel_rfl) (opens_string Tryz.underlying9)
      (opensF_one rfl (by kernel_rfl) (opens_slice Tryz.underlying34 (by kernel_rfl) (by kernel_rfl) (opens_string Tryz.underlying9))))
theorem opens_commands : Opens enc Tryz.prog w 0 true 23 (Kd.slice 36 k36) (fun v => Fits v) := by
  intro fuel cs x h hz
  obtain ⟨a, hK, h1, h2⟩ := opens_slice (B := 40) Tryz.underlying23 (by kernel_rfl) (by kernel_rfl) opens_command fuel cs x h hz
  refine ⟨a, hK, fun e he => ?_⟩
  obtain ⟨g0, g1, _⟩ := h1 e he
  exact ⟨by omega, fun w hw => by have := g1 w hw; omega⟩
end Go.Proofs.YtfgbdcpfbghdoaaGreatDoor.P
end
