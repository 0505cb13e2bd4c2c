/- What is proved here: a part of the proof of CircuitAppendMul: WRepsOne, WInv, WInvWords, WGuard, WNEv, WMore. No conditions beside those that each theorem states. -/
import Derived.Test.YtmnleabeipmhmaaDoorKCAMul0
import Derived.Test.YtmnleabeipmhmaaDoorKCAMul3
import Derived.Test.YtmnleabeipmhmaaDoorKCAMul4
import Derived.Test.YtmnleabeipmhmaaDoorKCAMul2
section
namespace Go.Proofs.YtmnleabeipmhmaaDoorW.PrintWords
theorem Reps.one {α : Type} {R : α → List Value → Prop} {ps : List α} {cs : List Value} {p : α} {v : Value} (hp : R p [v]) (h : Reps R 1 ps cs) : Reps R 1 (p :: ps) (v :: cs) := by
  refine ⟨by simp [h.1], fun j q hq => ?_⟩
  cases j with
  | zero =>
    simp only [List.getElem?_cons_zero, Option.some.injEq] at hq
    subst hq
    simpa using hp
  | succ j =>
    simp only [List.getElem?_cons_succ] at hq
    have h1 := h.2 j q hq
    simpa [Nat.mul_one] using h1
theorem Reps.front {α : Type} {R : α → List Value → Prop} {size : Nat} {ps : List α} {cs c all : List Value} {p : α} (hp : R p c) (hc : c.length = size) (h : Reps R size ps cs) (ha : c ++ cs = all) : Reps R size (p :: ps) all := by
  subst ha
  refine ⟨by rw [List.length_append, hc, h.1, List.length_cons, Nat.succ_mul, Nat.add_comm], fun j q hq => ?_⟩
  cases j with
  | zero =>
    simp only [List.getElem?_cons_zero, Option.some.injEq] at hq
    subst hq
    rw [Nat.zero_mul, List.drop_zero, List.take_append_of_le_length (by omega), List.take_of_length_le (by omega)]
    exact hp
  | succ j =>
    simp only [List.getElem?_cons_succ] at hq
    have h1 := h.2 j q hq
    rw [Nat.succ_mul, List.drop_append, List.drop_of_length_le (by rw [hc]; exact Nat.le_add_left _ _), List.nil_append, hc, Nat.add_sub_cancel]
    exact h1
theorem Reps.c2 {α : Type} {R : α → List Value → Prop} {ps : List α} {cs : List Value} {p : α} {va vb : Value} (hp : R p [va, vb]) (h : Reps R 2 ps cs) : Reps R 2 (p :: ps) (va :: vb :: cs) := Reps.front hp rfl h rfl
theorem Reps.c3 {α : Type} {R : α → List Value → Prop} {ps : List α} {cs : List Value} {p : α} {va vb vc : Value} (hp : R p [va, vb, vc]) (h : Reps R 3 ps cs) : Reps R 3 (p :: ps) (va :: vb :: vc :: cs) := Reps.front hp rfl h rfl
theorem Reps.c4 {α : Type} {R : α → List Value → Prop} {ps : List α} {cs : List Value} {p : α} {va vb vc vd : Value} (hp : R p [va, vb, vc, vd]) (h : Reps R 4 ps cs) : Reps R 4 (p :: ps) (va :: vb :: vc :: vd :: cs) := Reps.front hp rfl h rfl
theorem Reps.c5 {α : Type} {R : α → List Value → Prop} {ps : List α} {cs : List Value} {p : α} {va vb vc vd ve : Value} (hp : R p [va, vb, vc, vd, ve]) (h : Reps R 5 ps cs) : Reps R 5 (p :: ps) (va :: vb :: vc :: vd :: ve :: cs) := Reps.front hp rfl h rfl
theorem Reps.c6 {α : Type} {R : α → List Value → Prop} {ps : List α} {cs : List Value} {p : α} {va vb vc vd ve vf : Value} (hp : R p [va, vb, vc, vd, ve, vf]) (h : Reps R 6 ps cs) : Reps R 6 (p :: ps) (va :: vb :: vc :: vd :: ve :: vf :: cs) := Reps.front hp rfl h rfl
theorem Reps.c7 {α : Type} {R : α → List Value → Prop} {ps : List α} {cs : List Value} {p : α} {va vb vc vd ve vf vg : Value} (hp : R p [va, vb, vc, vd, ve, vf, vg]) (h : Reps R 7 ps cs) : Reps R 7 (p :: ps) (va :: vb :: vc :: vd :: ve :: vf :: vg :: cs) := Reps.front hp rfl h rfl
theorem Reps.c8 {α : Type} {R : α → List Value → Prop} {ps : List α} {cs : List Value} {p : α} {va vb vc vd ve vf vg vh : Value} (hp : R p [va, vb, vc, vd, ve, vf, vg, vh]) (h : Reps R 8 ps cs) : Reps R 8 (p :: ps) (va :: vb :: vc :: vd :: ve :: vf :: vg :: vh :: cs) := Reps.front hp rfl h rfl
theorem Reps.c9 {α : Type} {R : α → List Value → Prop} {ps : List α} {cs : List Value} {p : α} {va vb vc vd ve vf vg vh vi : Value} (hp : R p [va, vb, vc, vd, ve, vf, vg, vh, vi]) (h : Reps R 9 ps cs) : Reps R 9 (p :: ps) (va :: vb :: vc :: vd :: ve :: vf :: vg :: vh :: vi :: cs) := Reps.front hp rfl h rfl
theorem Reps.c10 {α : Type} {R : α → List Value → Prop} {ps : List α} {cs : List Value} {p : α} {va vb vc vd ve vf vg vh vi vj : Value} (hp : R p [va, vb, vc, vd, ve, vf, vg, vh, vi, vj]) (h : Reps R 10 ps cs) : Reps R 10 (p :: ps) (va :: vb :: vc :: vd :: ve :: vf :: vg :: vh :: vi :: vj :: cs) := Reps.front hp rfl h rfl
end Go.Proofs.YtmnleabeipmhmaaDoorW.PrintWords
end
section
namespace Go.Proofs.YtmnleabeipmhmaaDoorW.PrintLast
end Go.Proofs.YtmnleabeipmhmaaDoorW.PrintLast
end
section
namespace Go.Proofs.YtmnleabeipmhmaaDoorW.PrintWords
end Go.Proofs.YtmnleabeipmhmaaDoorW.PrintWords
namespace Go.Proofs.YtmnleabeipmhmaaDoorW.PrintLast
end Go.Proofs.YtmnleabeipmhmaaDoorW.PrintLast
end
section
namespace Go.Proofs.YtmnleabeipmhmaaDoorW.PrintWords
open Go.RowKit
section
variable {P : Program} {ops : Array Oper} {rest : List Oper} {o : Oper} {a : Act} {Q : Exit → Act → World → Prop} {W : World}
theorem gate_guard (hw : Region.wanted o (yielded ops a.tmps) = true) (h : wpList P ops Q ({ o with guard := none } :: rest) a W) : wpList P ops Q (o :: rest) a W := by
  have h1 : Region.wanted { o with guard := none } (yielded ops a.tmps) = true := rfl
  unfold wpList at h ⊢
  rw [if_pos h1] at h
  rw [if_pos hw]
  exact h
end
end Go.Proofs.YtmnleabeipmhmaaDoorW.PrintWords
end
section
namespace Go.Proofs.YtmnleabeipmhmaaDoorW.PrintWords
end Go.Proofs.YtmnleabeipmhmaaDoorW.PrintWords
namespace Kd
end Kd
end
section
namespace Go.Proofs.YtmnleabeipmhmaaDoorW.PrintMore
open Go.RowKit Go.Proofs.YtmnleabeipmhmaaDoorW.PrintWords
namespace Kd
open Go.Proofs.YtmnleabeipmhmaaDoorW.PrintWords.Kd
end Kd
namespace Kd
open Go.Proofs.YtmnleabeipmhmaaDoorW.PrintWords.Kd
end Kd
theorem zb4 (k k' : IntKind) (x y : Int) : Builtin.max2 (.int k x) (.int k' y) = pure (.int k (if x < y then y else x)) := by simp only [Builtin.max2, gt_iff_lt]
theorem zb2 (k k' : IntKind) (x y : Int) : Builtin.min2 (.int k x) (.int k' y) = pure (.int k (if y < x then y else x)) := by simp only [Builtin.min2]
theorem zcg (ats : Array TypeId) (ty : TypeId) (a b : Value) : Builtin.max_ ats ty #[a, b] = (Builtin.max2 a b >>= fun s => pure s) := by simp only [Builtin.max_, List.foldlM_cons, List.foldlM_nil]
theorem zcf (ats : Array TypeId) (ty : TypeId) (a b : Value) : Builtin.min_ ats ty #[a, b] = (Builtin.min2 a b >>= fun s => pure s) := by simp only [Builtin.min_, List.foldlM_cons, List.foldlM_nil]
theorem zby (ats : Array TypeId) (ty : TypeId) (a b c : Value) : Builtin.max_ ats ty #[a, b, c] = (Builtin.max2 a b >>= fun s => Builtin.max2 s c >>= fun s => pure s) := by simp only [Builtin.max_, List.foldlM_cons, List.foldlM_nil]
theorem zbz (ats : Array TypeId) (ty : TypeId) (a b c : Value) : Builtin.min_ ats ty #[a, b, c] = (Builtin.min2 a b >>= fun s => Builtin.min2 s c >>= fun s => pure s) := by simp only [Builtin.min_, List.foldlM_cons, List.foldlM_nil]
theorem zb6 (ats : Array TypeId) (ty : TypeId) (a b c d : Value) : Builtin.max_ ats ty #[a, b, c, d] = (Builtin.max2 a b >>= fun s => Builtin.max2 s c >>= fun s => Builtin.max2 s d >>= fun s => pure s) := by simp only [Builtin.max_, List.foldlM_cons, List.foldlM_nil]
theorem zb5 (ats : Array TypeId) (ty : TypeId) (a b c d : Value) : Builtin.min_ ats ty #[a, b, c, d] = (Builtin.min2 a b >>= fun s => Builtin.min2 s c >>= fun s => Builtin.min2 s d >>= fun s => pure s) := by simp only [Builtin.min_, List.foldlM_cons, List.foldlM_nil]
end Go.Proofs.YtmnleabeipmhmaaDoorW.PrintMore
namespace Go.Proofs.YtmnleabeipmhmaaDoorW.PrintWords
open Go.RowKit
section
variable {P : Program} {ops : Array Oper} {rest : List Oper} {o : Oper} {a : Act} {Q : Exit → Act → World → Prop} {W : World}
theorem zb8 {f : FuncId} {as : Array Operand} {ts : Array TypeId} (_ho : o.op = .call { callee := .value (.func f), args := as, argTypes := ts }) (h : wpList P ops Q (o :: rest) a W) : wpList P ops Q (o :: rest) a W := h
theorem zbi {b : Builtin} {xs : Array Operand} {ts : Array TypeId} (_ho : o.op = .call { callee := .builtin b, args := xs, argTypes := ts }) (h : wpList P ops Q (o :: rest) a W) : wpList P ops Q (o :: rest) a W := h
end
def mx (a b : Int) : Int := if a < b then b else a
def shl (k : IntKind) (x y : Int) : Int := k.wrap (x * 2 ^ min y.toNat k.bits)
theorem shl_small {k : IntKind} {x y j : Int} (h : shl k x y = j) (hy : y ≤ k.bits) : k.wrap (x * 2 ^ y.toNat) = j := by rw [← h]; unfold shl; rw [Nat.min_eq_left (by omega)]
namespace Kd
end Kd
end Go.Proofs.YtmnleabeipmhmaaDoorW.PrintWords
namespace Go.Proofs.YtmnleabeipmhmaaDoorW.PrintWords
open Go.RowKit
namespace Kd
def V {α : Type} (d : Kd α) (_e : Nat) (W : World) (_base : Nat) (ok : Nat → Prop) (v : Value) (xs : List α) : Prop := ∃ A c, v = .slice A xs.length c ∧ xs.length ≤ c ∧ F d W ok A xs.length xs
section
variable {α β : Type} {d : Kd α} {e base base' n m c g N' lo hi : Nat} {ok ok' S : Nat → Prop} {w W w1 : World} {A : Option Addr} {ad : Addr} {u v v1 : Value} {xs : List α}
theorem V_nil (d : Kd α) (e : Nat) (W : World) (base : Nat) (ok : Nat → Prop) : V d e W base ok (.slice none 0 0) [] := ⟨none, 0, rfl, Nat.le_refl _, F_nil d W ok⟩
end
end Kd
end Go.Proofs.YtmnleabeipmhmaaDoorW.PrintWords
namespace Go.Proofs.YtmnleabeipmhmaaDoorW.PrintWords
open Go.RowKit
theorem za1 (l : List Value) (i : Nat) (a : Value) : l.toArray.setIfInBounds i a = (l.set i a).toArray := List.setIfInBounds_toArray l i a
theorem za2 (a b : Value) (l : List Value) : (a :: l).set 0 b = b :: l := rfl
theorem za3 (a b : Value) (l : List Value) (n : Nat) : (a :: l).set (n + 1) b = a :: l.set n b := rfl
theorem zb {p q : Prop} (x : Aside0 q) (h : q → p := by intro z; (with_reducible repeat (first | refine zab ?_ _ | refine zad ?_ | refine zac ?_ _)); exact z) : p := h x.out
theorem zk0 {w : World} {g : Nat} {t : TypeId} { a : Value} {l : List Value} (h : w.heap[g]? = some (.cells (List.toArray (a :: l)) t (0, 0))) : w.cell? ⟨g, 0, none⟩ = some a := (blk_cell h 0).trans rfl
theorem zk1 {w : World} {g : Nat} {t : TypeId} {x0 a : Value} {l : List Value} (h : w.heap[g]? = some (.cells (List.toArray (x0 :: a :: l)) t (0, 0))) : w.cell? ⟨g, 1, none⟩ = some a := (blk_cell h 1).trans rfl
theorem zk2 {w : World} {g : Nat} {t : TypeId} {x0 x1 a : Value} {l : List Value} (h : w.heap[g]? = some (.cells (List.toArray (x0 :: x1 :: a :: l)) t (0, 0))) : w.cell? ⟨g, 2, none⟩ = some a := (blk_cell h 2).trans rfl
theorem zk3 {w : World} {g : Nat} {t : TypeId} {x0 x1 x2 a : Value} {l : List Value} (h : w.heap[g]? = some (.cells (List.toArray (x0 :: x1 :: x2 :: a :: l)) t (0, 0))) : w.cell? ⟨g, 3, none⟩ = some a := (blk_cell h 3).trans rfl
theorem zk4 {w : World} {g : Nat} {t : TypeId} {x0 x1 x2 x3 a : Value} {l : List Value} (h : w.heap[g]? = some (.cells (List.toArray (x0 :: x1 :: x2 :: x3 :: a :: l)) t (0, 0))) : w.cell? ⟨g, 4, none⟩ = some a := (blk_cell h 4).trans rfl
theorem zk5 {w : World} {g : Nat} {t : TypeId} {x0 x1 x2 x3 x4 a : Value} {l : List Value} (h : w.heap[g]? = some (.cells (List.toArray (x0 :: x1 :: x2 :: x3 :: x4 :: a :: l)) t (0, 0))) : w.cell? ⟨g, 5, none⟩ = some a := (blk_cell h 5).trans rfl
theorem zk6 {w : World} {g : Nat} {t : TypeId} {x0 x1 x2 x3 x4 x5 a : Value} {l : List Value} (h : w.heap[g]? = some (.cells (List.toArray (x0 :: x1 :: x2 :: x3 :: x4 :: x5 :: a :: l)) t (0, 0))) : w.cell? ⟨g, 6, none⟩ = some a := (blk_cell h 6).trans rfl
theorem zrR {p q : Prop} (x : Aside0 q) (h : q → p := by intro z; (with_reducible repeat (first | apply Kd.R_alloc | apply Kd.R_drewN | apply Kd.R_drew)); exact z) : p := h x.out
theorem zs0 {p q : Prop} (x : Aside0 q) (h : q → p := by intro z; repeat (first | (with_reducible first | exact z | apply zao | apply zaw | apply zar) | exact z)) : p := h x.out
theorem zs1 {p q : Prop} {q0 : Prop} (x : Aside0 q) (e0 : Aside0 q0) (h : q → q0 → p := by intro z i0; repeat (first | (with_reducible first | exact z | apply zao | apply zaw | apply zar | refine za0 ?_ i0) | exact z)) : p := h x.out e0.out
theorem zs2 {p q : Prop} {q0 : Prop} {q1 : Prop} (x : Aside0 q) (e0 : Aside0 q0) (e1 : Aside0 q1) (h : q → q0 → q1 → p := by intro z i0 i1; repeat (first | (with_reducible first | exact z | apply zao | apply zaw | apply zar | refine za0 ?_ i0 | refine za0 ?_ i1) | exact z)) : p := h x.out e0.out e1.out
theorem zt {p : Prop} (h : p := by (try simp only [List.map_toArray, List.map_cons, List.map_nil]); first | done | rfl | (simp only [List.length_drop, List.length_take]; rfl)) : p := h
end Go.Proofs.YtmnleabeipmhmaaDoorW.PrintWords
end
