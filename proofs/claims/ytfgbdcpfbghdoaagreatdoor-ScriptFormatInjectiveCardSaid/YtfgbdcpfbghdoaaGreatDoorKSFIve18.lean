/- What is proved here: a part of the proof of ScriptFormatInjective: Sve. No conditions beside those that each theorem states. -/
import Derived.Test.YtfgbdcpfbghdoaaGreatDoorKSFIve11
import Derived.Lib.ConvBytes
import Derived.Laws.IdiomStrings
import Derived.Lib.Hide
import Derived.Lib.Walk
section
set_option linter.unusedVariables false
set_option linter.unusedSimpArgs false
namespace Go.Proofs.YtfgbdcpfbghdoaaGreatDoor.P
open Go.RowKit Go.Proofs.YtfgbdcpfbghdoaaGreatDoorW.PrintWords Go.Proofs.YtfgbdcpfbghdoaaGreatDoorW.PrintLast Go.Proofs.YtfgbdcpfbghdoaaGreatDoorW.PrintMore
section
variable {P : Program} {ops : Array Oper} {rest : List Oper} {o : Oper} {a : Act} {Q : Exit → Act → World → Prop}
theorem conv_event {W : World} (hgd : o.guard = none) {N : Tmp} (_hd : o.dst = some N) (e : TypeId) (s : ByteArray)
    (hrun : (execOp a.eval o).run P W = .ok (.value (.slice (some ⟨W.heap.size, 0, none⟩) s.size (grownCap W s.size 0 e))) (Lib.bytesWorld W e s))
    (h : ∀ g cap W1, g = W.heap.size → Below W.heap.size W W1 → (∀ j, j < s.size → W1.cell? ⟨g, j, none⟩ = some (.int .u8 (bt s (j : Int))) ∧ W1.frozen? ⟨g, j, none⟩ = false) → wpList P ops Q rest (a.put o.dst (.slice (some ⟨g, 0, none⟩) s.size cap)) W1) : wpList P ops Q (o :: rest) a W := by
  refine Kd.event_run hgd hrun (h _ _ _ rfl ⟨rfl, rfl, rfl, by rw [Lib.bytesWorld_size]; omega, fun i hi => Lib.bytesWorld_at_old W e s i hi⟩ (fun j hj => ⟨?_, ?_⟩))
  · rw [Lib.bytesWorld_cell W e s j hj]
    have hlt : j < s.data.toList.length := by rw [data_length]; exact hj
    have hj' : ((j : Int)).toNat < s.size := hj
    rw [← bt_at s (j : Int) hj']
    simp [List.getD_eq_getElem?_getD, List.getElem?_eq_getElem hlt]
    rfl
  · have hcs : s.size ≤ (Lib.bytesCells W e s).size := by
      have : s.data.size = s.size := rfl
      first | (simp [Lib.bytesCells]; done) | (simp [Lib.bytesCells]; omega)
    simp [World.frozen?, Lib.bytesWorld_at_new]
    omega
end
def lowI (x : Int) : Bool := decide (97 ≤ x) && decide (x ≤ 122)
def lowUpto (s : ByteArray) (n : Nat) : Bool := (List.range n).all (fun j => lowI (bt s (j : Int)))
theorem lowUpto_succ (s : ByteArray) (n : Nat) : lowUpto s (n + 1) = (lowUpto s n && lowI (bt s (n : Int))) := by
  simp [lowUpto, List.range_succ]
theorem lowUpto_le (s : ByteArray) {n m : Nat} (h : n ≤ m) (hf : lowUpto s n = false) : lowUpto s m = false := by
  induction m with
  | zero => obtain rfl : n = 0 := by omega
            exact hf
  | succ m ih =>
    rcases Nat.lt_or_ge m n with h1 | h1
    · obtain rfl : n = m + 1 := by omega
      exact hf
    · rw [lowUpto_succ, ih h1]; rfl
def script_verb.f (a0 : ByteArray) : Option Bool := if a0.size ≤ 140737488355328 then some (lowUpto a0 a0.size && (decide (1 ≤ a0.size) && decide (a0.size ≤ 12))) else none
set_option maxHeartbeats 4000000 in
set_option maxRecDepth 100000 in
theorem verb_calls (a0 : ByteArray) (w : World) (hs : a0.size ≤ 140737488355328) :
    Calls Tryz.prog 36 #[.string a0] w fun e w' => e = .returned (.bool (lowUpto a0 a0.size && (decide (1 ≤ a0.size) && decide (a0.size ≤ 12)))) ∧ Below w.heap.size w w' := by
  have kb := fun W => print_bytes (P := Tryz.prog) 9 46 5 Tryz.underlying9 Tryz.underlying46 Tryz.underlying5 a0 W
  go_enter Tryz.func36, Tryz.ntmps36
  go_wp2_with (first | ((with_reducible refine gate_dst (N := 6) rfl ?_); refine conv_event ?hg (N := 6) ?hd 5 a0 ?hr ?_; (case hd => rfl); (case hg => rfl); (case hr => first | (go_simp; done) | (go_simp; rfl)); intro g1 cap1 w1 hg1 hb1 hc1; subst hg1))
  go_loopw [4, 8] (fun v4 v8 wr => ∃ i : Nat, v8 = .int .i64 i ∧ i ≤ a0.size ∧ lowUpto a0 i = true ∧ Below w.heap.size w wr ∧ (∀ j, j < a0.size → wr.cell? ⟨w.heap.size, (j : Nat), none⟩ = some (.int .u8 (bt a0 (j : Int))))) (fun _ v8 _ => ((a0.size : Int) - intOf v8).toNat)
  case atStart => exact ⟨0, rfl, Nat.zero_le _, rfl, hb1, fun j hj => (hc1 j hj).1⟩
  case round =>
    clear kb
    obtain ⟨i, rfl, hi, hlo, hB, hC⟩ := hrel
    by_cases hlt : i < a0.size
    · have hcell := hC i hlt
      have hsucc := lowUpto_succ a0 i
      rw [hlo, Bool.true_and] at hsucc
      by_cases h1 : bt a0 (i : Int) < 97
      · have hf : lowUpto a0 a0.size = false := lowUpto_le a0 hlt (by rw [hsucc]; simp [lowI]; omega)
        go_wp2
        go_ret
        exact ⟨by first | rfl | (rw [hf]; rfl) | (simp [hf]; done), hB⟩
      · by_cases h2 : 122 < bt a0 (i : Int)
        · have hf : lowUpto a0 a0.size = false := lowUpto_le a0 hlt (by rw [hsucc]; simp [lowI]; omega)
          go_wp2
          go_ret
          exact ⟨by first | rfl | (rw [hf]; rfl) | (simp [hf]; done), hB⟩
        · have hs2 : lowUpto a0 (i + 1) = true := by rw [hsucc]; simp [lowI]; omega
          go_wp2
          exact ⟨⟨i + 1, rfl, by omega, hs2, hB, hC⟩, by simp only [intOf]; omega⟩
    · obtain rfl : i = a0.size := by omega
      by_cases h1 : 1 ≤ a0.size
      · by_cases h2 : a0.size ≤ 12
        · go_wp2
          go_ret
          exact ⟨by simp [hlo, h1, h2]; first | done | omega, hB⟩
        · go_wp2
          go_ret
          exact ⟨by simp [hlo, h1, h2]; first | done | omega, hB⟩
      · go_wp2
        go_ret
        exact ⟨by simp [hlo, h1]; first | done | omega, hB⟩
theorem script_verb.calls (a0 : ByteArray) (r : Bool) (w : World) (h : script_verb.f a0 = some r) :
    Calls Tryz.prog 36 #[.string a0] w fun e w' => e = .returned (.bool r) ∧ Below w.heap.size w w' := by
  unfold script_verb.f at h
  split at h
  · next hc =>
    obtain rfl := Option.some.inj h
    exact verb_calls a0 w hc
  · exact absurd h (by simp)
end Go.Proofs.YtfgbdcpfbghdoaaGreatDoor.P
end
