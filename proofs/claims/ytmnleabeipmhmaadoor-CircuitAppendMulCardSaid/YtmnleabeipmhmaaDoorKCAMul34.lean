/- What is proved here: a part of the proof of CircuitAppendMul: Crd. No conditions beside those that each theorem states. -/
import Derived.Test.YtmnleabeipmhmaaDoorKCAMul32
import Derived.Test.YtmnleabeipmhmaaDoorKCAMul33
section
set_option linter.unusedVariables false
set_option linter.unusedSimpArgs false
namespace Go.Proofs.YtmnleabeipmhmaaDoor.P
open Go.RowKit Go.Proofs.YtmnleabeipmhmaaDoorW.PrintWords Go.Proofs.YtmnleabeipmhmaaDoorW.PrintLast Go.Proofs.YtmnleabeipmhmaaDoorW.PrintMore
structure St where
  P : Int
  gs : List S43
  os : List Int
  begun : Bool
  is : Bool
def RS (w0 w : World) (b : Nat) (s : St) : Prop := ∃ ug uo : Value, w.heap[b]? = some (.cells #[.int .u64 s.P, ug, uo, .bool s.begun, .bool s.is] 68 (0, 0)) ∧
  Kd.R k43 43 w w0.heap.size (fun _ => True) ug s.gs ∧ Kd.R (Kd.int .i64) 3 w w0.heap.size (fun _ => True) uo s.os ∧ Below w0.heap.size w0 w ∧ w0.heap.size ≤ b
theorem RS.below {w0 w : World} {b : Nat} {s : St} (h : RS w0 w b s) : Below w0.heap.size w0 w := by obtain ⟨_, _, _, _, _, h, _⟩ := h; exact h
theorem RS.kept {w0 w w' : World} {b : Nat} {s : St} (h : RS w0 w b s) (hb : Below w.heap.size w w') : RS w0 w' b s := by
  obtain ⟨ug, uo, h1, h2, h3, h4, h5⟩ := h
  exact ⟨ug, uo, zbl h1 hb, Kd.R_below h2 hb, Kd.R_below h3 hb, h4.trans (hb.mono h4.size), h5⟩
theorem RS.drew {w0 w : World} {b : Nat} {s : St} (h : RS w0 w b s) : RS w0 w.drew b s := h.kept ((Below.refl _ w).drew)
theorem RS.setP {w0 w w' : World} {b : Nat} {s : St} (h : RS w0 w b s) (P : Int) (hw : w' = w.setCell ⟨b, 0, none⟩ (.int .u64 P)) : RS w0 w' b { s with P := P } := by
  subst hw
  obtain ⟨ug, uo, h1, h2, h3, h4, h5⟩ := h
  exact ⟨ug, uo, zap h1 0 _ (by rfl), Kd.R_set h2 h1 (by decide) 0 _, Kd.R_set h3 h1 (by decide) 0 _, h4.setCell (p := ⟨b, 0, none⟩) h5 _, h5⟩
theorem RS.setBegun {w0 w w' : World} {b : Nat} {s : St} (h : RS w0 w b s) (v : Bool) (hw : w' = w.setCell ⟨b, 3, none⟩ (.bool v)) : RS w0 w' b { s with begun := v } := by
  subst hw
  obtain ⟨ug, uo, h1, h2, h3, h4, h5⟩ := h
  exact ⟨ug, uo, zap h1 3 _ (by rfl), Kd.R_set h2 h1 (by decide) 3 _, Kd.R_set h3 h1 (by decide) 3 _, h4.setCell (p := ⟨b, 3, none⟩) h5 _, h5⟩
theorem RS.setIs {w0 w w' : World} {b : Nat} {s : St} (h : RS w0 w b s) (v : Bool) (hw : w' = w.setCell ⟨b, 4, none⟩ (.bool v)) : RS w0 w' b { s with is := v } := by
  subst hw
  obtain ⟨ug, uo, h1, h2, h3, h4, h5⟩ := h
  exact ⟨ug, uo, zap h1 4 _ (by rfl), Kd.R_set h2 h1 (by decide) 4 _, Kd.R_set h3 h1 (by decide) 4 _, h4.setCell (p := ⟨b, 4, none⟩) h5 _, h5⟩
theorem RS.out {w0 w w1 w' : World} {b : Nat} {s : St} {ug uo v1 : Value} {xs : List Int} (h1 : w.heap[b]? = some (.cells #[.int .u64 s.P, ug, uo, .bool s.begun, .bool s.is] 68 (0, 0)))
    (h2 : Kd.R k43 43 w w0.heap.size (fun _ => True) ug s.gs) (h3 : Kd.R (Kd.int .i64) 3 w w0.heap.size (fun _ => True) uo s.os) (h5 : w0.heap.size ≤ b)
    (ho : Kd.R (Kd.int .i64) 3 w1 w0.heap.size (fun _ => True) v1 xs) (hb : Below w0.heap.size w0 w1) (hg : w.grownBy w1 uo.ownBlock) (hw : w' = w1.setCell ⟨b, 2, none⟩ v1) : RS w0 w' b { s with os := xs } := by
  subst hw
  have hx : w1.heap[b]? = some (.cells #[.int .u64 s.P, ug, uo, .bool s.begun, .bool s.is] 68 (0, 0)) := zba h1 hg (Kd.R_ne h3 h1 (by decide))
  have hgs := Kd.R_over' (v := uo) h2 (Kd.R_typed h3) (by decide) hg
  exact ⟨ug, v1, zap hx 2 _ (by rfl), Kd.R_set hgs hx (by decide) 2 _, Kd.R_set ho hx (by decide) 2 _, hb.setCell (p := ⟨b, 2, none⟩) h5 _, h5⟩
theorem RS.gate {w0 w w1 w' : World} {b : Nat} {s : St} {ug uo v1 : Value} {xs : List S43} (h1 : w.heap[b]? = some (.cells #[.int .u64 s.P, ug, uo, .bool s.begun, .bool s.is] 68 (0, 0)))
    (h2 : Kd.R k43 43 w w0.heap.size (fun _ => True) ug s.gs) (h3 : Kd.R (Kd.int .i64) 3 w w0.heap.size (fun _ => True) uo s.os) (h5 : w0.heap.size ≤ b)
    (ho : Kd.R k43 43 w1 w0.heap.size (fun _ => True) v1 xs) (hb : Below w0.heap.size w0 w1) (hg : w.grownBy w1 ug.ownBlock) (hw : w' = w1.setCell ⟨b, 1, none⟩ v1) : RS w0 w' b { s with gs := xs } := by
  subst hw
  have hx : w1.heap[b]? = some (.cells #[.int .u64 s.P, ug, uo, .bool s.begun, .bool s.is] 68 (0, 0)) := zba h1 hg (Kd.R_ne h2 h1 (by decide))
  have hos := Kd.R_over' (v := ug) h3 (Kd.R_typed h2) (by decide) hg
  exact ⟨v1, uo, zap hx 1 _ (by rfl), Kd.R_set ho hx (by decide) 1 _, Kd.R_set hos hx (by decide) 1 _, hb.setCell (p := ⟨b, 1, none⟩) h5 _, h5⟩
def Keep (w w' : World) : Prop := ∀ (k : Nat) (cs : Array Value) (u : TypeId), u ≠ 68 → u ≠ 43 → u ≠ 3 → w.heap[k]? = some (.cells cs u (0, 0)) → w'.heap[k]? = some (.cells cs u (0, 0))
theorem Keep.refl (w : World) : Keep w w := fun _ _ _ _ _ _ h => h
theorem Keep.trans {w w1 w2 : World} (h : Keep w w1) (h' : Keep w1 w2) : Keep w w2 := fun k cs u a b c e => h' k cs u a b c (h k cs u a b c e)
theorem Keep.of_below {w w' : World} (h : Below w.heap.size w w') : Keep w w' := fun k cs u _ _ _ e => zbl e h
theorem RS.keep {w0 w w' : World} {b i : Nat} {s : St} (h : RS w0 w b s) (v : Value) (hw : w' = w.setCell ⟨b, i, none⟩ v) : Keep w w' := by
  subst hw
  obtain ⟨ug, uo, h1, _⟩ := h
  exact fun k cs u a _ _ e => zaq e (p := ⟨b, i, none⟩) (fun (he : k = b) => a (by subst he; rw [h1] at e; injection e with e; injection e with _ e _; exact e.symm)) v
theorem Keep.grown {w w1 w' : World} {b i : Nat} {v1 : Value} {row : Option Nat} {cs0 : Array Value} (hb : w.heap[b]? = some (.cells cs0 68 (0, 0))) (hg : w.grownBy w1 row)
    (hr : ∀ (k : Nat) (cs : Array Value) (u : TypeId), u ≠ 43 → u ≠ 3 → w.heap[k]? = some (.cells cs u (0, 0)) → some k ≠ row) (hw : w' = w1.setCell ⟨b, i, none⟩ v1) : Keep w w' := by
  subst hw
  intro k cs u a c d e
  have hk : k ≠ b := fun he => a (by subst he; rw [hb] at e; injection e with e; injection e with _ e _; exact e.symm)
  exact zaq (zba e hg (hr k cs u c d e)) (p := ⟨b, i, none⟩) hk v1
theorem Keep.nums {w w' : World} (h : Keep w w') {base : Nat} {v : Value} {xs : List Int} (hr : Kd.R (Kd.int .u64) 22 w base (fun _ => True) v xs) : Kd.R (Kd.int .u64) 22 w' base (fun _ => True) v xs := by
  refine Kd.R_mono (Kd.R_move (Kd.R_bound hr) (fun k hk => ?_)) (fun _ _ => trivial)
  obtain ⟨_, _, _, q, hq, cells, hc⟩ := hk
  have hq2 : q = 22 := by
    have : q ∈ ([22] : List TypeId) := hq
    simpa using this
  subst hq2
  rw [hc]
  exact h k cells _ (by decide) (by decide) (by decide) hc
def outsF (n : Nat) : List Int → List Int → Option (List Int)
  | [], os => some os
  | x :: r, os => if zbh x < 0 ∨ (n : Int) ≤ zbh x then none else outsF n r (os ++ [zbh x])
def lineF (s : St) (t : ByteArray) : Option St :=
  if (splitF t).2.2 = true ∧ s.is = false then
    if s.begun = true then
      if (splitF t).1.toList = [111, 117, 116] then
        if (splitF t).2.1.length ≤ 1000 then (outsF s.gs.length (splitF t).2.1 s.os).map (fun os => { s with os := os, is := true }) else none
      else if (madeF s.P (splitF t).1 (splitF t).2.1 s.gs.length).2 = true ∧ s.gs.length < 20000 then some { s with gs := s.gs ++ [(madeF s.P (splitF t).1 (splitF t).2.1 s.gs.length).1] } else none
    else if (splitF t).1.toList = [112, 114, 105, 109, 101] then
      match (splitF t).2.1 with
      | [x] => if (expF x != 0) = true then some { s with P := x, begun := true } else none
      | _ => none
    else none
  else none
end Go.Proofs.YtmnleabeipmhmaaDoor.P
end
