/- What is proved: a law of the walk for 'for x := range seq' whose body never leaves early, where what is handed to a round may be known by the memory it lies in; and the end of a function that has gone over several such loops. -/
import Derived.RangeFuncNested
import Derived.RangeFuncBound
import Derived.RangeFuncCalls
import Derived.RangeFuncLeaves
import Derived.RangeFuncFrom
import Derived.WalkKit
import Derived.OwnWalkIn
import Derived.TacticsInMore
import Derived.LoopNIn
import Derived.LoopIn
set_option linter.unusedVariables false
namespace Go.Proofs.Ytaalmmnjehfimaa.Rng
open Go.RowKit

/-- The caller's invariant abides new blocks (and draws). -/
def Abides1 {β : Type} (J : β → World → Prop) : Prop := ∀ s W W', J s W → Below W.heap.size W W' → J s W'

/-- The contract of an iterator value that goes through all its elements: 'ok' is what a round is told of the element in the world of the call. -/
def SeqOk {α : Type} (F : Fence) (n : Nat) (P : Program) (g : Nat) (lb : Array Value) (encs : α → Array Value) (ok : α → World → Prop) (Kp : World → World → Prop) (S : List α → World → Prop) (N : Nat) (w : World) : Prop :=
  ∀ (l : Nat) (J : List α → World → Prop) (W : World), Below w.heap.size w W → Abides1 J →
    (∀ pre x W1, J pre W1 → ok x W1 → pre.length < N → YieldAt F (n - 1) P l (encs x) W1 fun e W' => e = .returned (.bool true) ∧ J (pre ++ [x]) W' ∧ Kp W1 W') →
    J [] W →
    CallsIn F n P g (#[.func (.yield l) #[] #[]] ++ lb) W fun e W' => (∃ v, e = .returned v) ∧ ∃ xs, S xs W' ∧ J xs W'

variable {F : Fence} {n : Nat} {P : Program}

/-- The walk's law of the statement. -/
theorem wpIn_rangeFunc_all {α : Type} {g : Operand} {ps : Array Tmp} {assign body : Code} {Q : Exit → Act → World → Prop} {a : Act} {w : World}
    (hro : F.round = none) (h1 : 1 ≤ n) {gf : Nat} {lb : Array Value} (hg : a.eval g = .func (.func gf) #[] lb) (hFg : F.fn gf) (eg : ∀ args w, (callFunc gf args).run P w = .ok (.enter gf args) w)
    {encs : α → Array Value} {ok : α → World → Prop} {Kp : World → World → Prop} {S : List α → World → Prop} {N : Nat} {w0 : World} (hseq : SeqOk F (n - 1) P gf lb encs ok Kp S N w0)
    (hKt : ∀ {A B C : World}, Kp A B → Kp B C → Kp A C) (hKb : ∀ (W : World) (l : Nat) (o o' : Obj), w.heap.size ≤ l → W.heap[l]? = some o → o.isCells = false → o.isWalk = false → Kp W (W.putObj l o')) (hb0 : Below w0.heap.size w0 w) (hps : ∀ x, (encs x).size = ps.size)
    (hok : ∀ (x : α) (W : World) (l : Nat) (o o' : Obj), w.heap.size ≤ l → W.heap[l]? = some o → o.isCells = false → ok x W → ok x (W.putObj l o'))
    (hS : ∀ (xs : List α) (W : World) (l : Nat) (o o' : Obj), w.heap.size ≤ l → W.heap[l]? = some o → o.isCells = false → S xs W → S xs (W.putObj l o'))
    (I : List α → World → Prop) (hI : OwnFrom w.heap.size I) (hI1 : Abides1 I) (h0 : I [] w) (a₁ : α → Act)
    (hassign : ∀ (l : Nat) (x : α) (W : World) (K : Act → World → Prop), K (a₁ x) W →
      assign.wpIn (F.inRound l) (n - 1 - 1) P (Exit.then K (fun _ _ _ => False)) { tmps := (ps.zip (encs x)).foldl (fun t (p, v) => t.setIfInBounds p v) a.tmps, defers := [] } W)
    (hbody : ∀ (l : Nat) (pre : List α) (x : α) (W : World), I pre W → ok x W → pre.length < N → body.wpIn (F.inRound l) (n - 1 - 1) P (ownPostK Kp I (fun _ _ _ => False) (pre ++ [x]) W) (a₁ x) W)
    (hdone : ∀ (D : Nat) (xs : List α) (W : World), w.heap.size ≤ D → D < W.heap.size → S xs W → I xs W → W.heap[D]? = some (.deferred (some [])) → Q .normal { a with defers := { target := .collected D, args := #[] } :: a.defers } W) :
    (Code.rangeFunc g ps assign body).wpIn F n P Q a w := by
  refine wpIn_rangeFunc ?_
  intro fn hfn
  rw [hro]
  obtain ⟨rec, hrec⟩ : ∃ rec : LoopState → Option Code → Loop, rec = fun st pe => { state := st, pending := pe, fn, tmps := a.tmps, params := ps, assign, body, defers := w.heap.size } := ⟨_, rfl⟩
  obtain ⟨W1, hW1⟩ : ∃ W1, (w.alloc (.deferred (some []))).alloc (.loop (rec .ready none)) = W1 := ⟨_, rfl⟩
  have hL1 : W1.heap[w.heap.size + 1]? = some (.loop (rec .ready none)) := by
    rw [← hW1]; have := World.alloc_heap_new (w.alloc (.deferred (some []))) (.loop (rec .ready none)); rwa [World.size_alloc] at this
  have hK1 : W1.heap[w.heap.size]? = some (.deferred (some [])) := by
    rw [← hW1]; exact (Below.heap_alloc _ _ _ (by simp)).trans (World.alloc_heap_new w _)
  have hbw : Below w.heap.size w W1 := by
    rw [← hW1]; exact ((Below.refl _ w).alloc (Nat.le_refl _) _).alloc (by simp) _
  have hI1' : I [] W1 := hI1 _ _ _ h0 hbw
  have hb1 : Below w0.heap.size w0 W1 := hb0.trans (hbw.mono hb0.size)
  refine ⟨w.heap.size + 1, [{ target := .collected w.heap.size, args := #[] }], W1, { target := .fn (.func gf) lb, args := #[.func (.yield (w.heap.size + 1)) #[] #[]] }, W1, gf,
    #[.func (.yield (w.heap.size + 1)) #[] #[]] ++ lb, W1, ?_, ?_, ?_, ?_, fun _ => h1, ?_⟩
  · rw [← hW1, hrec]; exact run_enterLoop_outer _ _ _ _ _
  · simp only [resolve, hg]
    simp [go_sem]
  · intro f' hf'; simp [Target.leads] at hf'; subst hf'; exact hFg
  · simp [invoke, go_sem, eg]
  · have hJ : Abides1 (fun (pre : List α) W => I pre W ∧ W.heap[w.heap.size + 1]? = some (.loop (rec .ready none)) ∧ W.heap[w.heap.size]? = some (.deferred (some [])) ) :=
      fun s A B hs hb => ⟨hI1 _ _ _ hs.1 hb, (hb.block _ (Array.getElem?_eq_some_iff.1 hs.2.1).1).trans hs.2.1, (hb.block _ (Array.getElem?_eq_some_iff.1 hs.2.2).1).trans hs.2.2⟩
    refine (hseq (w.heap.size + 1) _ W1 hb1 hJ ?_ ⟨hI1', hL1, hK1⟩).mono ?_
    · rintro pre x W ⟨hi, hl, hk⟩ hx hlen
      have hlt : w.heap.size + 1 < W.heap.size := (Array.getElem?_eq_some_iff.1 hl).1
      have hy := run_yield (P := P) (args := encs x) hl (by rw [hrec]; exact hps x)
      rw [hrec] at hy
      refine ⟨fn, _, assign, body, hy, roundIn_of_wpIn hfn (hassign _ x W _ ⟨_, run_beginRound hl (by rw [hrec]), ?_⟩)⟩
      have hl2 : (W.putObj (w.heap.size + 1) (.loop { rec .ready none with state := .busy })).heap[w.heap.size + 1]? = some (.loop { rec .ready none with state := .busy }) := World.putObj_heap_same hlt
      have hk2 : (W.putObj (w.heap.size + 1) (.loop { rec .ready none with state := .busy })).heap[w.heap.size]? = some (.deferred (some [])) := (World.putObj_heap_other (by omega)).trans hk
      have hw2 : Kp W (W.putObj (w.heap.size + 1) (.loop { rec .ready none with state := .busy })) := hKb _ _ _ _ (by omega) hl rfl rfl
      refine wpIn_mono (hbody _ pre x _ (hI.putObj _ hi (by omega) hl rfl) (hok _ _ _ _ _ (by omega) hl rfl hx) hlen) ?_
      have fin : ∀ (W3 : World), KeepsOthers (W.putObj (w.heap.size + 1) (.loop { rec .ready none with state := .busy })) W3 →
          (Instr.endRound (w.heap.size + 1) none).run P W3 = .ok (.bool true) (W3.putObj (w.heap.size + 1) (.loop (rec .ready none))) ∧
          W3.heap[w.heap.size + 1]? = some (.loop { rec .ready none with state := .busy }) ∧
          (W3.putObj (w.heap.size + 1) (.loop (rec .ready none))).heap[w.heap.size + 1]? = some (.loop (rec .ready none)) ∧
          (W3.putObj (w.heap.size + 1) (.loop (rec .ready none))).heap[w.heap.size]? = some (.deferred (some [])) := fun W3 hk3 => by
        have hl3 := hk3.same _ _ hl2 rfl
        have := run_endRound (P := P) none hl3
        rw [hrec] at this ⊢
        exact ⟨this, by rw [hrec] at hl3; exact hl3, World.putObj_heap_same (Array.getElem?_eq_some_iff.1 hl3).1, (World.putObj_heap_other (by omega)).trans (hk3.same _ _ hk2 rfl)⟩
      rintro e a3 W3 hp
      cases e with
      | normal =>
        obtain ⟨hk3, hkp3, hi3⟩ := hp
        obtain ⟨hr, hl3, hl4, hk4⟩ := fin W3 hk3
        exact ⟨_, _, hr, rfl, ⟨hI.putObj _ hi3 (by omega) hl3 rfl, hl4, hk4⟩, hKt (hKt hw2 hkp3) (hKb _ _ _ _ (by omega) hl3 rfl rfl)⟩
      | ret => exact hp.2.elim
      | exit id => exact hp.2.elim
      | goto t => exact hp.2.elim
      | panic ch => exact hp.elim
      | outgrown => exact hp.elim
    · rintro e W2 ⟨⟨v, rfl⟩, xs, hs, hi, hl, hk⟩
      refine ⟨none, _, by have := run_endLoop (P := P) hl (by rw [hrec]; simp); rw [hrec] at this; exact this, ?_⟩
      have hz := (Array.getElem?_eq_some_iff.1 hk).1
      exact hdone _ xs _ (Nat.le_refl _) (by simpa using hz) (hS _ _ _ _ _ (by omega) hl rfl hs) (hI.putObj _ hi (by omega) hl rfl) ((World.putObj_heap_other (by omega)).trans hk)

/-- A list of marks: the blocks for deferred calls that each loop has laid; all are still empty. -/
def Marks (ds : List Deferred) (B : Nat) (W : World) : Prop :=
  ∃ Ds : List Nat, ds = Ds.map (fun D => { target := .collected D, args := #[] }) ∧ Ds.Nodup ∧ ∀ D ∈ Ds, B ≤ D ∧ W.heap[D]? = some (.deferred (some []))

theorem Marks.nil (B : Nat) (W : World) : Marks [] B W := ⟨[], rfl, List.nodup_nil, fun _ h => by cases h⟩
theorem Marks.cons {ds : List Deferred} {B : Nat} {W : World} (h : Marks ds B W) {D : Nat} (hB : B ≤ D) (hD : W.heap[D]? = some (.deferred (some []))) (hn : ∀ x ∈ ds, x.target ≠ .collected D) : Marks ({ target := .collected D, args := #[] } :: ds) B W := by
  obtain ⟨Ds, rfl, hnd, h⟩ := h
  refine ⟨D :: Ds, rfl, List.nodup_cons.2 ⟨fun hm => hn _ (List.mem_map_of_mem hm) rfl, hnd⟩, ?_⟩
  intro E hE
  rcases List.mem_cons.1 hE with rfl | hE
  · exact ⟨hB, hD⟩
  · exact h E hE
theorem Marks.lt {ds : List Deferred} {B : Nat} {W : World} (h : Marks ds B W) {D : Nat} (hD : W.heap.size ≤ D) : ∀ x ∈ ds, x.target ≠ .collected D := by
  obtain ⟨Ds, rfl, _, h⟩ := h
  intro x hx e
  obtain ⟨E, hE, rfl⟩ := List.mem_map.1 hx
  cases e
  have := (Array.getElem?_eq_some_iff.1 (h D hE).2).1
  omega
theorem Marks.kept {ds : List Deferred} {B : Nat} {W W' : World} (h : Marks ds B W) (hk : KeepsOthers W W') : Marks ds B W' := by
  obtain ⟨Ds, rfl, hnd, h⟩ := h
  exact ⟨Ds, rfl, hnd, fun D hD => ⟨(h D hD).1, hk.same _ _ (h D hD).2 rfl⟩⟩
theorem Marks.below {ds : List Deferred} {B : Nat} {W W' : World} (h : Marks ds B W) (hk : Below W.heap.size W W') : Marks ds B W' := by
  obtain ⟨Ds, rfl, hnd, h⟩ := h
  exact ⟨Ds, rfl, hnd, fun D hD => ⟨(h D hD).1, (hk.block _ (Array.getElem?_eq_some_iff.1 (h D hD).2).1).trans (h D hD).2⟩⟩
theorem Marks.put {ds : List Deferred} {B : Nat} {W : World} (h : Marks ds B W) {l : Nat} (hl : ∀ x ∈ ds, x.target ≠ .collected l) (o : Obj) : Marks ds B (W.putObj l o) := by
  obtain ⟨Ds, rfl, hnd, h⟩ := h
  refine ⟨Ds, rfl, hnd, fun D hD => ⟨(h D hD).1, (World.putObj_heap_other (fun e => ?_)).trans (h D hD).2⟩⟩
  subst e
  exact hl _ (List.mem_map_of_mem hD) rfl

theorem Marks.old {ds : List Deferred} {B : Nat} {W : World} (h : Marks ds B W) : ∀ x ∈ ds, ∀ D, x.target = .collected D → D < W.heap.size := by
  obtain ⟨Ds, rfl, _, h⟩ := h
  intro x hx D e
  obtain ⟨E, hE, rfl⟩ := List.mem_map.1 hx
  cases e
  exact (Array.getElem?_eq_some_iff.1 (h D hE).2).1
theorem Marks.grown {ds : List Deferred} {B : Nat} {W W' : World} {row : Option Nat} (h : Marks ds B W) (hg : W.grownBy W' row) (hr : ∀ r, row = some r → ∀ x ∈ ds, x.target ≠ .collected r) : Marks ds B W' := by
  obtain ⟨Ds, rfl, hnd, h⟩ := h
  refine ⟨Ds, rfl, hnd, fun D hD => ⟨(h D hD).1, (hg.block _ (Array.getElem?_eq_some_iff.1 (h D hD).2).1 (fun e => ?_)).trans (h D hD).2⟩⟩
  exact hr D e.symm _ (List.mem_map_of_mem hD) rfl

/-- A function's end behind the loops: the marks are taken up one after the other. -/
theorem leaves_marks {fn : Func} {tmps : Array Value} {R : Ending → World → Prop} {B : Nat} : ∀ (ds : List Deferred) (W : World), Marks ds B W →
    (∀ W', Below B W W' → LeavesIn F n P fn tmps R [] .returning W') → B ≤ W.heap.size → LeavesInM F n P fn tmps R ds .returning W := by
  intro ds
  induction ds with
  | nil => intro W _ h _; exact h W (Below.refl _ _)
  | cons d ds ih =>
    intro W hm h hB
    obtain ⟨Ds, e, hnd, hD⟩ := hm
    cases Ds with
    | nil => cases e
    | cons D Ds =>
      simp only [List.map_cons, List.cons.injEq] at e
      obtain ⟨rfl, rfl⟩ := e
      obtain ⟨hn1, hn2⟩ := List.nodup_cons.1 hnd
      have hk := (hD D (List.mem_cons_self ..)).2
      have hb : Below B W (W.putObj D (.deferred none)) := (Below.refl B W).grown (grownBy_putObj' W D _) hB (fun k e => by cases e; exact (hD _ (List.mem_cons_self ..)).1)
      refine ⟨by simp, .inl ⟨D, _, rfl, run_takeDeferred hk, ih _ ?_ (fun W' hW' => h W' (hb.trans hW')) (by have := hb.size; omega)⟩⟩
      refine ⟨Ds, rfl, hn2, fun E hE => ⟨(hD E (List.mem_cons_of_mem _ hE)).1, (World.putObj_heap_other (fun e => ?_)).trans (hD E (List.mem_cons_of_mem _ hE)).2⟩⟩
      subst e
      exact hn1 hE

end Go.Proofs.Ytaalmmnjehfimaa.Rng
