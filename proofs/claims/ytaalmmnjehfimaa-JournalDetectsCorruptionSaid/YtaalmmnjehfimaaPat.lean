/- What is proved: 'b := []byte(s); b[p] = b[p] + c; string(b)': what the conversions and the store tell. -/
import Derived.Test.YtaalmmnjehfimaaGiv
import Derived.Lib.ConvBytes
import Derived.Laws.IdiomStrings
set_option linter.unusedVariables false
set_option linter.unusedSimpArgs false
namespace Go.Proofs.Ytaalmmnjehfimaa.P
open Go.RowKit Go.Proofs.YtaalmmnjehfimaaW.PrintWords

/-- A string, one byte of which was changed. -/
def patch.f (s : ByteArray) (p c : Int) : Option ByteArray :=
  if gate (decide (0 ≤ p ∧ p < s.size ∧ s.size ≤ 140737488355328)) 1 = true then some ⟨(s.data.toList.set p.toNat (UInt8.ofNat (IntKind.u8.wrap (bt s p + c)).toNat)).toArray⟩ else none
theorem patch_some {s t : ByteArray} {p c : Int} (h : patch.f s p c = some t) : (0 ≤ p ∧ p < s.size ∧ s.size ≤ 140737488355328) ∧ t = ⟨(s.data.toList.set p.toNat (UInt8.ofNat (IntKind.u8.wrap (bt s p + c)).toNat)).toArray⟩ := by
  unfold patch.f at h
  split at h
  · next hg => rw [gate_eq, decide_eq_true_eq] at hg; exact ⟨hg, (Option.some.inj h).symm⟩
  · cases h
theorem wrap8_range (x : Int) : 0 ≤ IntKind.u8.wrap x ∧ IntKind.u8.wrap x < 256 := by simp [IntKind.wrap, IntKind.bits, IntKind.signed]; omega

section
variable {P : Program} {ops : Array Oper} {rest : List Oper} {o : Oper} {a : Act} {Q : Exit → Act → World → Prop}
/-- '[]byte(s)': the operation is picked by its place. -/
theorem conv_event {W : World} (hgd : o.guard = none) {N : Tmp} (_hd : o.dst = some N) (e : TypeId) (s : ByteArray)
    (hrun : (execOp a.eval o).run P W = .ok (.value (.slice (some ⟨W.heap.size, 0, none⟩) s.size (grownCap W s.size 0 e))) (Lib.bytesWorld W e s))
    (h : ∀ g cap W1, g = W.heap.size → Below W.heap.size W W1 → (∀ j, j < s.size → W1.cell? ⟨g, j, none⟩ = some (.int .u8 (bt s (j : Int))) ∧ W1.frozen? ⟨g, j, none⟩ = false) → wpList P ops Q rest (a.put o.dst (.slice (some ⟨g, 0, none⟩) s.size cap)) W1) : wpList P ops Q (o :: rest) a W := by
  refine Kd.event_run hgd hrun (h _ _ _ rfl ⟨rfl, rfl, rfl, by rw [Lib.bytesWorld_size]; omega, fun i hi => Lib.bytesWorld_at_old W e s i hi⟩ (fun j hj => ⟨?_, ?_⟩))
  · rw [Lib.bytesWorld_cell W e s j hj]
    have hlt : j < s.data.toList.length := by rw [data_length]; exact hj
    have hj' : ((j : Int)).toNat < s.size := hj
    rw [← bt_at s (j : Int) hj']
    simp [List.getD_eq_getElem?_getD, List.getElem?_eq_getElem hlt]
    rfl
  · have hcs : s.size ≤ (Lib.bytesCells W e s).size := by
      have : s.data.size = s.size := rfl
      first | (simp [Lib.bytesCells]; done) | (simp [Lib.bytesCells]; omega)
    simp [World.frozen?, Lib.bytesWorld_at_new]
    omega
end
theorem patch_world {P : Program} {W W1 : World} {g cap : Nat} {s t : ByteArray} {p c : Int} {src e dst : TypeId} (hs : P.underlying src = some (.slice e)) (he : P.underlying e = some (.int .u8)) (hd : P.underlying dst = some .string)
    (hf : patch.f s p c = some t) (hg : g = W.heap.size) (hb : Below W.heap.size W W1) (hc : ∀ j, j < s.size → W1.cell? ⟨g, j, none⟩ = some (.int .u8 (bt s (j : Int))) ∧ W1.frozen? ⟨g, j, none⟩ = false) :
    Below W.heap.size W (W1.setCell ⟨g, p.toNat, none⟩ (.int .u8 (IntKind.u8.wrap (bt s p + c)))) ∧
    (convert src dst (.slice (some ⟨g, 0, none⟩) s.size cap)).run P (W1.setCell ⟨g, p.toNat, none⟩ (.int .u8 (IntKind.u8.wrap (bt s p + c)))) = .ok (.string t) (W1.setCell ⟨g, p.toNat, none⟩ (.int .u8 (IntKind.u8.wrap (bt s p + c)))) := by
  obtain ⟨⟨h0, h1, _⟩, rfl⟩ := patch_some hf
  refine ⟨hb.setCell (p := ⟨g, p.toNat, none⟩) (Nat.le_of_eq hg.symm) _, ?_⟩
  have hl : (s.data.toList.set p.toNat (UInt8.ofNat (IntKind.u8.wrap (bt s p + c)).toNat)).length = s.size := by rw [List.length_set, data_length]
  have hr := wrap8_range (bt s p + c)
  have hb2 := run_convert_bytes_back (P := P) (W1.setCell ⟨g, p.toNat, none⟩ (.int .u8 (IntKind.u8.wrap (bt s p + c)))) src dst e ⟨g, 0, none⟩ cap (s.data.toList.set p.toNat (UInt8.ofNat (IntKind.u8.wrap (bt s p + c)).toNat)) hs he hd (fun j hj => by
    rw [hl] at hj
    rw [show (⟨g, 0, none⟩ : Addr).add j = ⟨g, j, none⟩ from by by_cases hz : j = 0 <;> simp [Addr.add, hz]]
    by_cases hjp : j = p.toNat
    · subst hjp
      have hc1 := (hc p.toNat hj).1
      rw [List.getElem_set_self, show (W1.setCell ⟨g, p.toNat, none⟩ (.int .u8 (IntKind.u8.wrap (bt s p + c)))).cell? ⟨g, p.toNat, none⟩ = some (.int .u8 (IntKind.u8.wrap (bt s p + c))) from by first | exact World.cell?_setCell_same _ _ _ hc1 | exact World.cell?_setCell_same _ _ _ (by rw [hc1]; rfl)]
      congr 2
      rw [UInt8.toNat_ofNat']; omega
    · rw [List.getElem_set_ne (fun e_ => hjp e_.symm), show (W1.setCell ⟨g, p.toNat, none⟩ (.int .u8 (IntKind.u8.wrap (bt s p + c)))).cell? ⟨g, j, none⟩ = W1.cell? ⟨g, j, none⟩ from by
        have hne : (⟨g, p.toNat, none⟩ : Addr) ≠ ⟨g, j, none⟩ := fun e_ => hjp (by injection e_ with _ e2 _; exact e2.symm)
        first | exact World.cell?_setCell_other hne | exact World.cell?_setCell_other _ _ _ _ hne | exact World.cell?_setCell_other _ _ _ hne | simp [hne, Ne.symm hne, hjp, Ne.symm hjp], (hc j hj).1]
      congr 2
      have hj' : ((j : Int)).toNat < s.size := hj
      rw [← bt_at s (j : Int) hj']
      rfl)
  rw [hl] at hb2
  exact hb2
theorem wrap8 (x : Int) : IntKind.u8.wrap x = x % 256 := by simp [IntKind.wrap, IntKind.bits, IntKind.signed]
end Go.Proofs.Ytaalmmnjehfimaa.P
