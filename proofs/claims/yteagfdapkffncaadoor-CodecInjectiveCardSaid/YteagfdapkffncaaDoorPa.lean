/- What is proved: in plain Lean: the reference's EncodeWords gives the same bytes as the program's; small lemmas on loops. -/
import Derived.Test.YteagfdapkffncaaDoorGiv
import Derived.Test.YteagfdapkffncaaDoorPx11
set_option linter.unusedVariables false
set_option linter.unusedSimpArgs false
namespace Go.Proofs.YteagfdapkffncaaDoor.P
open Go.RowKit Go.Proofs.YteagfdapkffncaaDoorW.PrintWords Go.Proofs.YteagfdapkffncaaDoorW.PrintLast Go.Proofs.YteagfdapkffncaaDoorW.PrintMore

theorem wrap_nat {i n : Nat} (h : i < n) (hn : n ≤ 9223372036854775807) : wrap64 ((i : Int) + 1) = ((i + 1 : Nat) : Int) := by unfold wrap64; omega
theorem rd_nat (l : List Int) (i : Nat) (h : i < l.length) : rd l (i : Int) = l[i] := by simp [rd, h]
theorem Ev.iff {α : Type} {g f : Nat → Option α} {r : α} (h : ∀ k, g k = f k) : Ev g r ↔ Ev f r := ⟨fun k => Ev.congr (fun n => (h n).symm) k, fun k => Ev.congr h k⟩

theorem shr_byte (x : Int) (k : Nat) (hk : k < 8) : (shr .u64 x (IntKind.u64.wrap (8 * (IntKind.u64.wrap (k : Int))))) % 256 = (((Enc.byteAt x k).toNat : Nat) : Int) := by
  rw [Enc.byteAt_toNat]
  have h1 : IntKind.u64.wrap (k : Int) = (k : Int) := by simp [IntKind.wrap, IntKind.bits, IntKind.signed]; omega
  have h2 : IntKind.u64.wrap (8 * (k : Int)) = ((8 * k : Nat) : Int) := by simp [IntKind.wrap, IntKind.bits, IntKind.signed]; omega
  rw [h1, h2]
  unfold shr
  rw [show min (((8 * k : Nat) : Int)).toNat IntKind.u64.bits = 8 * k from by simp [IntKind.bits]; omega]

theorem wrapk (k : Nat) (hk : k < 8) : 0 ≤ IntKind.u64.wrap (8 * (IntKind.u64.wrap (k : Int))) := by
  have h1 : IntKind.u64.wrap (k : Int) = (k : Int) := by simp [IntKind.wrap, IntKind.bits, IntKind.signed]; omega
  have h2 : IntKind.u64.wrap (8 * (k : Int)) = ((8 * k : Nat) : Int) := by simp [IntKind.wrap, IntKind.bits, IntKind.signed]; omega
  rw [h1, h2]; omega

def bi (l : List UInt8) : List Int := l.map fun b => (b.toNat : Int)
theorem bi_append (a b : List UInt8) : bi (a ++ b) = bi a ++ bi b := by simp [bi]
theorem str_bi (l : List UInt8) : strOfNums (bi l) = ⟨l.toArray⟩ := by
  simp [strOfNums, bi, Function.comp_def]

theorem rw_in (l : List Int) (hl : l.length * 8 ≤ 140737488355328) (i : Nat) (hi : i < l.length) (r : ByteArray) (d : Nat) : ∀ (j : Nat) (acc : List UInt8), 8 - j = d → j ≤ 8 → acc.length + (8 - j) ≤ 8 * (i + 1) →
    Ev (fun k => privityref03_EncodeWords.l0 k l (bi (acc ++ (Enc.upto l[i] 8).drop j)) ((i + 1 : Nat) : Int)) r → Ev (fun k => privityref03_EncodeWords.l1 k l (bi acc) (i : Int) (j : Int)) r := by
  induction d with
  | zero =>
    intro j acc hd hj ha h
    obtain rfl : j = 8 := by omega
    refine Ev.step (fun k => by simp only [privityref03_EncodeWords.l1]; rw [if_neg (by omega), wrap_nat hi (by omega)]) ?_
    rw [List.drop_of_length_le (by rw [Enc.upto_length]; omega), List.append_nil] at h
    exact h
  | succ d ih =>
    intro j acc hd hj ha h
    have hj8 : j < 8 := by omega
    refine Ev.step (fun k => by
      simp only [privityref03_EncodeWords.l1]
      rw [if_pos (by omega), if_pos (by omega), if_pos (by omega), if_pos (wrapk j hj8), if_pos (by simp [bi]; omega), rd_nat _ _ hi, shr_byte _ _ hj8, wrap_nat (n := 8) hj8 (by omega),
        show bi acc ++ [((Enc.byteAt l[i] j).toNat : Int)] = bi (acc ++ [Enc.byteAt l[i] j]) from by simp [bi]]) ?_
    refine ih (j + 1) _ (by omega) (by omega) (by simp; omega) ?_
    rw [List.append_assoc, show [Enc.byteAt l[i] j] ++ (Enc.upto l[i] 8).drop (j + 1) = (Enc.upto l[i] 8).drop j from by
      rw [List.drop_eq_getElem_cons (show j < (Enc.upto l[i] 8).length by rw [Enc.upto_length]; omega)]
      simp [Enc.upto]]
    exact h

theorem rw_out (l : List Int) (hl : l.length * 8 ≤ 140737488355328) (d : Nat) : ∀ (i : Nat), l.length - i = d → i ≤ l.length →
    Ev (fun k => privityref03_EncodeWords.l0 k l (bi (Enc.enc (l.take i))) (i : Int)) ⟨(Enc.enc l).toArray⟩ := by
  induction d with
  | zero =>
    intro i hd hi
    obtain rfl : i = l.length := by omega
    refine Ev.step (fun k => by simp only [privityref03_EncodeWords.l0]; rw [if_neg (by omega)]) ?_
    rw [List.take_length, str_bi]
    exact Ev.now _
  | succ d ih =>
    intro i hd hi
    have hlt : i < l.length := by omega
    refine Ev.step (fun k => by simp only [privityref03_EncodeWords.l0]; rw [if_pos (by omega)]) ?_
    refine rw_in l hl i hlt _ 8 0 _ (by omega) (by omega) (by rw [Enc.enc_length, List.length_take]; omega) ?_
    have := ih (i + 1) (by omega) (by omega)
    rw [List.take_succ_eq_append_getElem hlt, Enc.enc_append, Enc.enc_one] at this
    rw [List.drop_zero]
    exact this

theorem refWords (l : List Int) (hl : l.length * 8 ≤ 140737488355328) : Ev (fun k => privityref03_EncodeWords.f k l) ⟨(Enc.enc l).toArray⟩ := by
  have := rw_out l hl l.length 0 (by omega) (by omega)
  exact this

end Go.Proofs.YteagfdapkffncaaDoor.P
