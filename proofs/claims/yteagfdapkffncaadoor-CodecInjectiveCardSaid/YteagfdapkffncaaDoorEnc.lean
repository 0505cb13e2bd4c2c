/- What is proved: the contracts of strings.Builder's copyCheck, WriteByte and WriteString at this seat's translation, over a builder that the call itself has made (at most 2^47 bytes). -/
/- What is proved: a law of the walk for 'for x := range seq' whose body never leaves early, where what is handed to a round may be known by the memory it lies in; and the end of a function that has gone over several such loops. -/
/- What is proved: the contract of codec.EncodeWords at this seat's translation: for every list of words of at most 2^47 bytes it returns the eight bytes of each word, lowest first. -/
import Derived.Shelf.Strings.BuilderK
import Derived.WalkKit
import Derived.RangeFuncOwn
import Derived.KernelRfl
import Derived.Test.YteagfdapkffncaaDoorShelf
import Derived.Test.YteagfdapkffncaaDoorProg
import Derived.RangeFuncNested
import Derived.RangeFuncBound
import Derived.RangeFuncCalls
import Derived.RangeFuncLeaves
import Derived.RangeFuncFrom
import Derived.OwnWalkIn
import Derived.TacticsInMore
import Derived.LoopNIn
import Derived.LoopIn
import Derived.Lib.Hide
import Derived.Shelf.Abstract
set_option linter.unusedVariables false
set_option linter.unusedSimpArgs false
namespace Go.Proofs.YteagfdapkffncaaDoor.Bld
open Go.RowKit

theorem infoByte : (Tryd.prog.info? 5).map (fun i => (i.zero, i.size, i.bytes)) = some (some (.int .u8 0), 1, 1) := by kernel_rfl
theorem sizeBuilder : (Tryd.prog.info? 48).map (fun i => i.size) = some 2 := by kernel_rfl
theorem liesBuilder : liesAt Tryd.prog Tryd.prog.depth 48 (2 / Tryd.prog.cellsOf 48) 0 48 1 = true := by kernel_rfl

set_option maxHeartbeats 1000000 in
set_option maxRecDepth 100000 in
theorem check_used (b : Nat) (w : World) (h0 : w.cell? ⟨b, 0, none⟩ = some (.pointer (some ⟨b, 0, none⟩))) :
    Calls Tryd.prog 35 #[.pointer (some ⟨b, 0, none⟩)] w fun e w' => e = .returned (.tuple #[]) ∧ w' = w := by
  obtain ⟨j, hj, _⟩ := Option.map_eq_some_iff.1 sizeBuilder
  go_enter Tryd.func35, Tryd.ntmps35
  go_wp2
  rw [Lib.run_neq_ptr_same w _ Tryd.underlying45 hj]
  go_wp2
  go_end0
  exact ⟨rfl, rfl⟩

set_option maxHeartbeats 1000000 in
set_option maxRecDepth 100000 in
theorem check_fresh (b : Nat) (w : World) (h0 : w.cell? ⟨b, 0, none⟩ = some (.pointer none)) (hsh : w.shape? b = some (48, 2)) (hfz : w.frozen? ⟨b, 0, none⟩ = false) :
    Calls Tryd.prog 35 #[.pointer (some ⟨b, 0, none⟩)] w fun e w' => e = .returned (.tuple #[]) ∧ w' = w.setCell ⟨b, 0, none⟩ (.pointer (some ⟨b, 0, none⟩)) := by
  obtain ⟨j, hj, hjs⟩ := Option.map_eq_some_iff.1 sizeBuilder
  go_enter Tryd.func35, Tryd.ntmps35
  go_wp2
  rw [Lib.run_to_unsafe w ⟨b, 0, none⟩ Tryd.underlying45 Tryd.underlying63 hj (by rw [hjs]; decide) hsh (Nat.zero_lt_succ 1)]
  simp only [Result.andThen]
  rw [Oper.upon_value]
  go_wp2
  rw [run_callFunc_extern Tryd.func39 (by kernel_rfl) (by kernel_rfl) (by kernel_rfl) (e := Extern.AbiNoEscape.same) (by kernel_rfl)]
  rw [Lib.run_noEscape]
  simp only [Result.andThen]
  rw [Oper.upon_value]
  go_wp2
  rw [Lib.run_from_unsafe w ⟨b, 0, none⟩ Tryd.underlying63 Tryd.underlying45 hj hsh liesBuilder]
  simp only [Result.andThen]
  rw [Oper.upon_value]
  go_wp2
  go_end0
  exact ⟨rfl, rfl⟩

/-- A builder of the call's own holds these bytes. -/
abbrev Is (B b : Nat) (bs : List Value) (w : World) : Prop := Lib.IsBuilderF 48 5 B b bs w
/-- What is neither the builder's block nor a row of bytes is kept. -/
abbrev Oth (b : Nat) (w w' : World) : Prop := Lib.OthersKept 5 (some b) w w'

theorem check (B b : Nat) (bs : List Value) (w : World) (h : Is B b bs w) :
    Calls Tryd.prog 35 #[.pointer (some ⟨b, 0, none⟩)] w fun e w' => e = .returned (.tuple #[]) ∧ (Lib.BuilderAtF 48 5 B b (.pointer (some ⟨b, 0, none⟩)) bs w' ∧ Below B w w' ∧ Oth b w w') := by
  rcases h with h | h
  · refine (check_fresh b w h.cell0 h.shape h.frozen0).mono ?_
    rintro e w' ⟨rfl, rfl⟩
    exact ⟨rfl, h.used _, (Below.refl B w).setCell (p := ⟨b, 0, none⟩) h.1 _, (Lib.OthersKept.refl _ _ w).setCell ⟨b, 0, none⟩ rfl _⟩
  · refine (check_used b w h.cell0).mono ?_
    rintro e w' ⟨rfl, rfl⟩
    exact ⟨rfl, h, Below.refl B _, Lib.OthersKept.refl _ _ _⟩

set_option maxHeartbeats 2000000 in
set_option maxRecDepth 100000 in
theorem writeByte (B b : Nat) (bs : List Value) (c : Int) (w : World) (h : Is B b bs w) (hlen : bs.length + 1 ≤ 140737488355328) (hBw : B ≤ w.heap.size) :
    Calls Tryd.prog 29 #[.pointer (some ⟨b, 0, none⟩), .int .u8 c] w fun e w' => e = .returned .nilIface ∧ (Is B b (bs ++ [.int .u8 c]) w' ∧ Below B w w' ∧ Oth b w w') := by
  obtain ⟨i0, hi, hz0, hz1, hz2⟩ := info_parts infoByte
  go_enter Tryd.func29, Tryd.ntmps29
  go_wp2_with (go_at_call 35; refine (check B b bs _ h).mono ?_)
  rintro e w1 ⟨rfl, h1, hb1, hk1⟩
  obtain ⟨hB, v, hbk, hown, hne⟩ := h1
  have c0 : w1.cell? ⟨b, 0, none⟩ = some (.pointer (some ⟨b, 0, none⟩)) := by rw [Lib.cell_of_heap hbk]; rfl
  have c1 : w1.cell? ⟨b, 1, none⟩ = some v := by rw [Lib.cell_of_heap hbk]; rfl
  go_wp2_with (at_builtin; refine wpList_append_ownF _ rfl _ _ 46 rfl B 5 i0 (.int .u8 0) 1 1 Tryd.underlying46 hi hz0 hz1 hz2 rfl (by decide) _ _ _ rfl (hown.alloc _) ⟨w1.heap.size, 0, none⟩ 1 1 [.int .u8 c] rfl rfl ?c1 ?c2 ?c3 ?c4 ?c5 ?_)
  case c1 =>
    intro j u hj
    match j, hj with
    | 0, hj => simp at hj; subst hj; simp [Addr.add]
  case c2 => intro u hu; simp at hu; subst hu; rfl
  case c3 => unfold maxLen; omega
  case c4 => omega
  case c5 => have := hb1.size; simp; omega
  intro v' w2 hown' hgrow _
  have hlt : b < w1.heap.size := by
    rcases Nat.lt_or_ge b w1.heap.size with h' | h'
    · exact h'
    · simp [Array.getElem?_eq_none h'] at hbk
  have hb2 : w2.heap[b]? = some (.cells #[.pointer (some ⟨b, 0, none⟩), v] 48 (0, 0)) := by
    rw [hgrow.block b (by simp; omega) (fun e => hne e.symm), Lib.alloc_old w1 _ b hlt]
    exact hbk
  have d0 : w2.cell? ⟨b, 0, none⟩ = some (.pointer (some ⟨b, 0, none⟩)) := by rw [Lib.cell_of_heap hb2]; rfl
  have d1 : w2.cell? ⟨b, 1, none⟩ = some v := by rw [Lib.cell_of_heap hb2]; rfl
  have f1 : w2.frozen? ⟨b, 1, none⟩ = false := Lib.frozen_of_heap hb2 1
  obtain ⟨g, cap, rfl⟩ : ∃ g cap, v' = .slice (some ⟨g, 0, none⟩) (bs.length + 1) cap := by
    rcases hown'.2 with ⟨_, h0⟩ | ⟨g, cap, cur, fz, hv, _⟩
    · omega
    · exact ⟨g, cap, hv⟩
  go_wp2
  go_ret
  refine ⟨rfl, ?_, ?_, ((hk1.alloc _).grown hgrow (Lib.ownsRowF_kind (hown.alloc _))).setCell ⟨b, 1, none⟩ rfl _⟩
  · exact Or.inr (Lib.BuilderAtF.put (T := 48) (e := 5) hB hb2 (bs' := bs ++ [.int .u8 c]) (by simpa using hown') (by decide))
  · exact ((hb1.alloc (by have := hb1.size; omega) _).grown hgrow (by have := hb1.size; simp; omega) (fun k hk => (hown.lt k hk).1)).setCell (p := ⟨b, 1, none⟩) hB _


/-- String: whatever the builder holds. -/
theorem string (B b : Nat) (l : List UInt8) (w : World) (h : Is B b (Lib.byteCells l) w) (hBw : B ≤ w.heap.size) :
    Calls Tryd.prog 30 #[.pointer (some ⟨b, 0, none⟩)] w fun e w' => e = .returned (.string ⟨l.toArray⟩) ∧ (Is B b (Lib.byteCells l) w' ∧ Below B w w' ∧ Oth b w w') := Tryd.Builder_String_any_k B b l w h hBw

/-- A new variable of the builder's type is an empty builder. -/
theorem fresh (w : World) : Is w.heap.size w.heap.size [] (w.alloc (.cells #[.pointer none, .slice none 0 0] 48)) := Lib.IsBuilderF.of (Lib.fresh_isBuilder _ _ w)

/-- A builder stays one while the world grows, or a block that is no cells turns. -/
theorem Is.grown {B b : Nat} {bs : List Value} {w w' : World} {row : Option Nat} (h : Is B b bs w) (hg : w.grownBy w' row) (hr : ∀ r, row = some r → ∃ o : Obj, w.heap[r]? = some o ∧ o.isCells = false) : Is B b bs w' := by
  have one : ∀ p, Lib.BuilderAtF 48 5 B b p bs w → Lib.BuilderAtF 48 5 B b p bs w' := by
    rintro p ⟨hB, v, hb, hown, hne⟩
    have hbr : some b ≠ row := fun e => by
      obtain ⟨o, ho, hc⟩ := hr b e.symm
      rw [hb] at ho; cases ho; simp [Obj.isCells] at hc
    refine ⟨hB, v, (hg.block b (Array.getElem?_eq_some_iff.1 hb).1 hbr).trans hb, hown.kept hg ?_, hne⟩
    rcases hown.2 with ⟨rfl, _⟩ | ⟨g, cap, cur, fz, rfl, _, hgg, _⟩
    · exact .inl rfl
    · refine .inr fun e => ?_
      obtain ⟨o, ho, hc⟩ := hr g (by simpa [Value.ownBlock] using e.symm)
      rw [hgg] at ho; cases ho; simp [Obj.isCells] at hc
  exact h.elim (fun x => .inl (one _ x)) (fun x => .inr (one _ x))
theorem Is.below {B b : Nat} {bs : List Value} {w w' : World} (h : Is B b bs w) (hb : Below w.heap.size w w') : Is B b bs w' :=
  Is.grown (row := none) h ⟨hb.os, hb.tape, hb.output, hb.size, fun k hk _ => hb.block k hk⟩ (fun r e => by cases e)
theorem Is.le {B b : Nat} {bs : List Value} {w : World} (h : Is B b bs w) : B ≤ b ∧ b < w.heap.size := by
  rcases h with h | h
  · exact ⟨h.1, h.lt⟩
  · exact ⟨h.1, h.lt⟩
/-- What is kept beside the builder: whatever is no cells. -/
theorem Oth.others {B b : Nat} {bs : List Value} {w w' : World} (h : Is B b bs w) (hz : w.heap.size ≤ w'.heap.size) (hk : Oth b w w') : KeepsOthers w w' := by
  refine ⟨hz, fun k o ho hc => hk k o ho (fun e => ?_) (fun c fz e => ?_)⟩
  · obtain ⟨p, hp⟩ : ∃ p, Lib.BuilderAtF 48 5 B b p bs w := h.elim (fun x => ⟨_, x⟩) (fun x => ⟨_, x⟩)
    obtain ⟨_, v, hb, _⟩ := hp
    cases Option.some.inj e
    rw [hb] at ho; cases ho; simp [Obj.isCells] at hc
  · rw [e] at hc; simp [Obj.isCells] at hc

end Go.Proofs.YteagfdapkffncaaDoor.Bld

set_option linter.unusedVariables false
namespace Go.Proofs.YteagfdapkffncaaDoor.Rng
open Go.RowKit

/-- The caller's invariant abides new blocks (and draws). -/
def Abides1 {β : Type} (J : β → World → Prop) : Prop := ∀ s W W', J s W → Below W.heap.size W W' → J s W'

/-- The contract of an iterator value that goes through all its elements: 'ok' is what a round is told of the element in the world of the call. -/
def SeqOk {α : Type} (F : Fence) (n : Nat) (P : Program) (g : Nat) (lb : Array Value) (encs : α → Array Value) (ok : α → World → Prop) (Kp : World → World → Prop) (S : List α → World → Prop) (N : Nat) (w : World) : Prop :=
  ∀ (l : Nat) (J : List α → World → Prop) (W : World), Below w.heap.size w W → Abides1 J →
    (∀ pre x W1, J pre W1 → ok x W1 → pre.length < N → YieldAt F (n - 1) P l (encs x) W1 fun e W' => e = .returned (.bool true) ∧ J (pre ++ [x]) W' ∧ Kp W1 W') →
    J [] W →
    CallsIn F n P g (#[.func (.yield l) #[] #[]] ++ lb) W fun e W' => (∃ v, e = .returned v) ∧ ∃ xs, S xs W' ∧ J xs W'

variable {F : Fence} {n : Nat} {P : Program}

/-- The walk's law of the statement. -/
theorem wpIn_rangeFunc_all {α : Type} {g : Operand} {ps : Array Tmp} {assign body : Code} {Q : Exit → Act → World → Prop} {a : Act} {w : World}
    (hro : F.round = none) (h1 : 1 ≤ n) {gf : Nat} {lb : Array Value} (hg : a.eval g = .func (.func gf) #[] lb) (hFg : F.fn gf) (eg : ∀ args w, (callFunc gf args).run P w = .ok (.enter gf args) w)
    {encs : α → Array Value} {ok : α → World → Prop} {Kp : World → World → Prop} {S : List α → World → Prop} {N : Nat} {w0 : World} (hseq : SeqOk F (n - 1) P gf lb encs ok Kp S N w0)
    (hKt : ∀ {A B C : World}, Kp A B → Kp B C → Kp A C) (hKb : ∀ (W : World) (l : Nat) (o o' : Obj), w.heap.size ≤ l → W.heap[l]? = some o → o.isCells = false → o.isWalk = false → Kp W (W.putObj l o')) (hb0 : Below w0.heap.size w0 w) (hps : ∀ x, (encs x).size = ps.size)
    (hok : ∀ (x : α) (W : World) (l : Nat) (o o' : Obj), w.heap.size ≤ l → W.heap[l]? = some o → o.isCells = false → ok x W → ok x (W.putObj l o'))
    (hS : ∀ (xs : List α) (W : World) (l : Nat) (o o' : Obj), w.heap.size ≤ l → W.heap[l]? = some o → o.isCells = false → S xs W → S xs (W.putObj l o'))
    (I : List α → World → Prop) (hI : OwnFrom w.heap.size I) (hI1 : Abides1 I) (h0 : I [] w) (a₁ : α → Act)
    (hassign : ∀ (l : Nat) (x : α) (W : World) (K : Act → World → Prop), K (a₁ x) W →
      assign.wpIn (F.inRound l) (n - 1 - 1) P (Exit.then K (fun _ _ _ => False)) { tmps := (ps.zip (encs x)).foldl (fun t (p, v) => t.setIfInBounds p v) a.tmps, defers := [] } W)
    (hbody : ∀ (l : Nat) (pre : List α) (x : α) (W : World), I pre W → ok x W → pre.length < N → body.wpIn (F.inRound l) (n - 1 - 1) P (ownPostK Kp I (fun _ _ _ => False) (pre ++ [x]) W) (a₁ x) W)
    (hdone : ∀ (D : Nat) (xs : List α) (W : World), w.heap.size ≤ D → D < W.heap.size → S xs W → I xs W → W.heap[D]? = some (.deferred (some [])) → Q .normal { a with defers := { target := .collected D, args := #[] } :: a.defers } W) :
    (Code.rangeFunc g ps assign body).wpIn F n P Q a w := by
  refine wpIn_rangeFunc ?_
  intro fn hfn
  rw [hro]
  obtain ⟨rec, hrec⟩ : ∃ rec : LoopState → Option Code → Loop, rec = fun st pe => { state := st, pending := pe, fn, tmps := a.tmps, params := ps, assign, body, defers := w.heap.size } := ⟨_, rfl⟩
  obtain ⟨W1, hW1⟩ : ∃ W1, (w.alloc (.deferred (some []))).alloc (.loop (rec .ready none)) = W1 := ⟨_, rfl⟩
  have hL1 : W1.heap[w.heap.size + 1]? = some (.loop (rec .ready none)) := by
    rw [← hW1]; have := World.alloc_heap_new (w.alloc (.deferred (some []))) (.loop (rec .ready none)); rwa [World.size_alloc] at this
  have hK1 : W1.heap[w.heap.size]? = some (.deferred (some [])) := by
    rw [← hW1]; exact (Below.heap_alloc _ _ _ (by simp)).trans (World.alloc_heap_new w _)
  have hbw : Below w.heap.size w W1 := by
    rw [← hW1]; exact ((Below.refl _ w).alloc (Nat.le_refl _) _).alloc (by simp) _
  have hI1' : I [] W1 := hI1 _ _ _ h0 hbw
  have hb1 : Below w0.heap.size w0 W1 := hb0.trans (hbw.mono hb0.size)
  refine ⟨w.heap.size + 1, [{ target := .collected w.heap.size, args := #[] }], W1, { target := .fn (.func gf) lb, args := #[.func (.yield (w.heap.size + 1)) #[] #[]] }, W1, gf,
    #[.func (.yield (w.heap.size + 1)) #[] #[]] ++ lb, W1, ?_, ?_, ?_, ?_, fun _ => h1, ?_⟩
  · rw [← hW1, hrec]; exact run_enterLoop_outer _ _ _ _ _
  · simp only [resolve, hg]
    simp [go_sem]
  · intro f' hf'; simp [Target.leads] at hf'; subst hf'; exact hFg
  · simp [invoke, go_sem, eg]
  · have hJ : Abides1 (fun (pre : List α) W => I pre W ∧ W.heap[w.heap.size + 1]? = some (.loop (rec .ready none)) ∧ W.heap[w.heap.size]? = some (.deferred (some [])) ) :=
      fun s A B hs hb => ⟨hI1 _ _ _ hs.1 hb, (hb.block _ (Array.getElem?_eq_some_iff.1 hs.2.1).1).trans hs.2.1, (hb.block _ (Array.getElem?_eq_some_iff.1 hs.2.2).1).trans hs.2.2⟩
    refine (hseq (w.heap.size + 1) _ W1 hb1 hJ ?_ ⟨hI1', hL1, hK1⟩).mono ?_
    · rintro pre x W ⟨hi, hl, hk⟩ hx hlen
      have hlt : w.heap.size + 1 < W.heap.size := (Array.getElem?_eq_some_iff.1 hl).1
      have hy := run_yield (P := P) (args := encs x) hl (by rw [hrec]; exact hps x)
      rw [hrec] at hy
      refine ⟨fn, _, assign, body, hy, roundIn_of_wpIn hfn (hassign _ x W _ ⟨_, run_beginRound hl (by rw [hrec]), ?_⟩)⟩
      have hl2 : (W.putObj (w.heap.size + 1) (.loop { rec .ready none with state := .busy })).heap[w.heap.size + 1]? = some (.loop { rec .ready none with state := .busy }) := World.putObj_heap_same hlt
      have hk2 : (W.putObj (w.heap.size + 1) (.loop { rec .ready none with state := .busy })).heap[w.heap.size]? = some (.deferred (some [])) := (World.putObj_heap_other (by omega)).trans hk
      have hw2 : Kp W (W.putObj (w.heap.size + 1) (.loop { rec .ready none with state := .busy })) := hKb _ _ _ _ (by omega) hl rfl rfl
      refine wpIn_mono (hbody _ pre x _ (hI.putObj _ hi (by omega) hl rfl) (hok _ _ _ _ _ (by omega) hl rfl hx) hlen) ?_
      have fin : ∀ (W3 : World), KeepsOthers (W.putObj (w.heap.size + 1) (.loop { rec .ready none with state := .busy })) W3 →
          (Instr.endRound (w.heap.size + 1) none).run P W3 = .ok (.bool true) (W3.putObj (w.heap.size + 1) (.loop (rec .ready none))) ∧
          W3.heap[w.heap.size + 1]? = some (.loop { rec .ready none with state := .busy }) ∧
          (W3.putObj (w.heap.size + 1) (.loop (rec .ready none))).heap[w.heap.size + 1]? = some (.loop (rec .ready none)) ∧
          (W3.putObj (w.heap.size + 1) (.loop (rec .ready none))).heap[w.heap.size]? = some (.deferred (some [])) := fun W3 hk3 => by
        have hl3 := hk3.same _ _ hl2 rfl
        have := run_endRound (P := P) none hl3
        rw [hrec] at this ⊢
        exact ⟨this, by rw [hrec] at hl3; exact hl3, World.putObj_heap_same (Array.getElem?_eq_some_iff.1 hl3).1, (World.putObj_heap_other (by omega)).trans (hk3.same _ _ hk2 rfl)⟩
      rintro e a3 W3 hp
      cases e with
      | normal =>
        obtain ⟨hk3, hkp3, hi3⟩ := hp
        obtain ⟨hr, hl3, hl4, hk4⟩ := fin W3 hk3
        exact ⟨_, _, hr, rfl, ⟨hI.putObj _ hi3 (by omega) hl3 rfl, hl4, hk4⟩, hKt (hKt hw2 hkp3) (hKb _ _ _ _ (by omega) hl3 rfl rfl)⟩
      | ret => exact hp.2.elim
      | exit id => exact hp.2.elim
      | goto t => exact hp.2.elim
      | panic ch => exact hp.elim
      | outgrown => exact hp.elim
    · rintro e W2 ⟨⟨v, rfl⟩, xs, hs, hi, hl, hk⟩
      refine ⟨none, _, by have := run_endLoop (P := P) hl (by rw [hrec]; simp); rw [hrec] at this; exact this, ?_⟩
      have hz := (Array.getElem?_eq_some_iff.1 hk).1
      exact hdone _ xs _ (Nat.le_refl _) (by simpa using hz) (hS _ _ _ _ _ (by omega) hl rfl hs) (hI.putObj _ hi (by omega) hl rfl) ((World.putObj_heap_other (by omega)).trans hk)

/-- A list of marks: the blocks for deferred calls that each loop has laid; all are still empty. -/
def Marks (ds : List Deferred) (B : Nat) (W : World) : Prop :=
  ∃ Ds : List Nat, ds = Ds.map (fun D => { target := .collected D, args := #[] }) ∧ Ds.Nodup ∧ ∀ D ∈ Ds, B ≤ D ∧ W.heap[D]? = some (.deferred (some []))

theorem Marks.nil (B : Nat) (W : World) : Marks [] B W := ⟨[], rfl, List.nodup_nil, fun _ h => by cases h⟩
theorem Marks.cons {ds : List Deferred} {B : Nat} {W : World} (h : Marks ds B W) {D : Nat} (hB : B ≤ D) (hD : W.heap[D]? = some (.deferred (some []))) (hn : ∀ x ∈ ds, x.target ≠ .collected D) : Marks ({ target := .collected D, args := #[] } :: ds) B W := by
  obtain ⟨Ds, rfl, hnd, h⟩ := h
  refine ⟨D :: Ds, rfl, List.nodup_cons.2 ⟨fun hm => hn _ (List.mem_map_of_mem hm) rfl, hnd⟩, ?_⟩
  intro E hE
  rcases List.mem_cons.1 hE with rfl | hE
  · exact ⟨hB, hD⟩
  · exact h E hE
theorem Marks.lt {ds : List Deferred} {B : Nat} {W : World} (h : Marks ds B W) {D : Nat} (hD : W.heap.size ≤ D) : ∀ x ∈ ds, x.target ≠ .collected D := by
  obtain ⟨Ds, rfl, _, h⟩ := h
  intro x hx e
  obtain ⟨E, hE, rfl⟩ := List.mem_map.1 hx
  cases e
  have := (Array.getElem?_eq_some_iff.1 (h D hE).2).1
  omega
theorem Marks.kept {ds : List Deferred} {B : Nat} {W W' : World} (h : Marks ds B W) (hk : KeepsOthers W W') : Marks ds B W' := by
  obtain ⟨Ds, rfl, hnd, h⟩ := h
  exact ⟨Ds, rfl, hnd, fun D hD => ⟨(h D hD).1, hk.same _ _ (h D hD).2 rfl⟩⟩
theorem Marks.below {ds : List Deferred} {B : Nat} {W W' : World} (h : Marks ds B W) (hk : Below W.heap.size W W') : Marks ds B W' := by
  obtain ⟨Ds, rfl, hnd, h⟩ := h
  exact ⟨Ds, rfl, hnd, fun D hD => ⟨(h D hD).1, (hk.block _ (Array.getElem?_eq_some_iff.1 (h D hD).2).1).trans (h D hD).2⟩⟩
theorem Marks.put {ds : List Deferred} {B : Nat} {W : World} (h : Marks ds B W) {l : Nat} (hl : ∀ x ∈ ds, x.target ≠ .collected l) (o : Obj) : Marks ds B (W.putObj l o) := by
  obtain ⟨Ds, rfl, hnd, h⟩ := h
  refine ⟨Ds, rfl, hnd, fun D hD => ⟨(h D hD).1, (World.putObj_heap_other (fun e => ?_)).trans (h D hD).2⟩⟩
  subst e
  exact hl _ (List.mem_map_of_mem hD) rfl

theorem Marks.old {ds : List Deferred} {B : Nat} {W : World} (h : Marks ds B W) : ∀ x ∈ ds, ∀ D, x.target = .collected D → D < W.heap.size := by
  obtain ⟨Ds, rfl, _, h⟩ := h
  intro x hx D e
  obtain ⟨E, hE, rfl⟩ := List.mem_map.1 hx
  cases e
  exact (Array.getElem?_eq_some_iff.1 (h D hE).2).1
theorem Marks.grown {ds : List Deferred} {B : Nat} {W W' : World} {row : Option Nat} (h : Marks ds B W) (hg : W.grownBy W' row) (hr : ∀ r, row = some r → ∀ x ∈ ds, x.target ≠ .collected r) : Marks ds B W' := by
  obtain ⟨Ds, rfl, hnd, h⟩ := h
  refine ⟨Ds, rfl, hnd, fun D hD => ⟨(h D hD).1, (hg.block _ (Array.getElem?_eq_some_iff.1 (h D hD).2).1 (fun e => ?_)).trans (h D hD).2⟩⟩
  exact hr D e.symm _ (List.mem_map_of_mem hD) rfl

/-- A function's end behind the loops: the marks are taken up one after the other. -/
theorem leaves_marks {fn : Func} {tmps : Array Value} {R : Ending → World → Prop} {B : Nat} : ∀ (ds : List Deferred) (W : World), Marks ds B W →
    (∀ W', Below B W W' → LeavesIn F n P fn tmps R [] .returning W') → B ≤ W.heap.size → LeavesInM F n P fn tmps R ds .returning W := by
  intro ds
  induction ds with
  | nil => intro W _ h _; exact h W (Below.refl _ _)
  | cons d ds ih =>
    intro W hm h hB
    obtain ⟨Ds, e, hnd, hD⟩ := hm
    cases Ds with
    | nil => cases e
    | cons D Ds =>
      simp only [List.map_cons, List.cons.injEq] at e
      obtain ⟨rfl, rfl⟩ := e
      obtain ⟨hn1, hn2⟩ := List.nodup_cons.1 hnd
      have hk := (hD D (List.mem_cons_self ..)).2
      have hb : Below B W (W.putObj D (.deferred none)) := (Below.refl B W).grown (grownBy_putObj' W D _) hB (fun k e => by cases e; exact (hD _ (List.mem_cons_self ..)).1)
      refine ⟨by simp, .inl ⟨D, _, rfl, run_takeDeferred hk, ih _ ?_ (fun W' hW' => h W' (hb.trans hW')) (by have := hb.size; omega)⟩⟩
      refine ⟨Ds, rfl, hn2, fun E hE => ⟨(hD E (List.mem_cons_of_mem _ hE)).1, (World.putObj_heap_other (fun e => ?_)).trans (hD E (List.mem_cons_of_mem _ hE)).2⟩⟩
      subst e
      exact hn1 hE

end Go.Proofs.YteagfdapkffncaaDoor.Rng

set_option linter.unusedVariables false
set_option linter.unusedSimpArgs false
namespace Go.Proofs.YteagfdapkffncaaDoor.Enc
open Go.RowKit Go.Shelf Go.Proofs.YteagfdapkffncaaDoor.Rng
attribute [local go_sem] Oper.semAt_some

/-- Byte number k of a word. -/
def byteAt (x : Int) (k : Nat) : UInt8 := UInt8.ofNat ((x / 2 ^ (8 * k)) % 256).toNat
theorem byteAt_toNat (x : Int) (k : Nat) : (((byteAt x k).toNat : Nat) : Int) = (x / 2 ^ (8 * k)) % 256 := by
  have h0 : 0 ≤ (x / 2 ^ (8 * k)) % 256 := Int.emod_nonneg _ (by decide)
  have h1 : (x / 2 ^ (8 * k)) % 256 < 256 := Int.emod_lt_of_pos _ (by decide)
  unfold byteAt
  rw [UInt8.toNat_ofNat']
  omega
def upto (x : Int) (k : Nat) : List UInt8 := (List.range k).map (byteAt x)
theorem upto_succ (x : Int) (k : Nat) : upto x (k + 1) = upto x k ++ [byteAt x k] := by simp [upto, List.range_succ]
theorem upto_length (x : Int) (k : Nat) : (upto x k).length = k := by simp [upto]

set_option maxRecDepth 100000 in
set_option maxHeartbeats 2000000 in
theorem bytes_in (F : Fence) (n : Nat) (hf : F.fn 28) (hro : F.round = none) (x : Int) (w : World) :
    CallsIn F n Tryd.prog 28 #[.int .u64 x] w fun e w' => e = .returned (.func (.func 34) #[] #[.pointer (some ⟨w.heap.size, 0, none⟩)]) ∧ w' = w.alloc (.cells #[.int .u64 x] 31) := by
  refine callsIn_of_wp Tryd.func28 rfl hf ?_ hro
  simp only [Tryd.ntmps28, List.size_toArray, List.length_cons, List.length_nil, Nat.reduceAdd, Nat.reduceSub, Array.replicate_succ, Array.replicate_zero, List.push_toArray, List.append_toArray, List.nil_append, List.cons_append]
  gi_wp2
  go_ret
  exact ⟨rfl, rfl⟩

set_option maxRecDepth 100000 in
set_option maxHeartbeats 2000000 in
theorem bytes1_in (F : Fence) (n : Nat) (hf : F.fn 34) (hro : F.round = none) (hn : 1 ≤ n) (l Bw : Nat) (x : Int) (J : List UInt8 → World → Prop)
    (hY : ∀ pre (c : UInt8) W, J pre W → pre.length < 8 → YieldAt F (n - 1) Tryd.prog l #[.int .u8 (c.toNat : Int)] W fun e W' => e = .returned (.bool true) ∧ J (pre ++ [c]) W' ∧ W'.heap[Bw]? = W.heap[Bw]?)
    (W : World) (hB : W.heap[Bw]? = some (.cells #[.int .u64 x] 31 (0, 0))) (h0 : J [] W) :
    CallsIn F n Tryd.prog 34 #[.func (.yield l) #[] #[], .pointer (some ⟨Bw, 0, none⟩)] W fun e W' => (∃ v, e = .returned v) ∧ J (upto x 8) W' := by
  refine callsIn_of_wp Tryd.func34 rfl hf ?_ hro
  simp only [Tryd.ntmps34, List.size_toArray, List.length_cons, List.length_nil, Nat.reduceAdd, Nat.reduceSub, Array.replicate_succ, Array.replicate_zero, List.push_toArray, List.append_toArray, List.nil_append, List.cons_append]
  gi_wp2
  gi_loopw [4] (fun i wr => ∃ k : Nat, k ≤ 8 ∧ i = .int .i64 k ∧ J (upto x k) wr ∧ wr.heap[Bw]? = some (.cells #[.int .u64 x] 31 (0, 0)))
    (fun i _ => 8 - (intOf i).toNat)
  case atStart => exact ⟨0, Nat.zero_le _, rfl, h0, hB⟩
  case round =>
    obtain ⟨k, hk, rfl, hJs, hBr⟩ := hrel
    have hcx : wr.cell? ⟨Bw, 0, none⟩ = some (.int .u64 x) := by simp [World.cell?, hBr]
    have HBr := Lib.hid hBr
    clear hBr hB
    by_cases hlt : k < 8
    · obtain ⟨fn, tmps, assign, body, hy, hR⟩ := hY _ (byteAt x k) wr hJs (by rw [upto_length]; exact hlt)
      rw [byteAt_toNat] at hy
      gi_wp2
      refine hR.mono ?_
      rintro e W3 ⟨rfl, hJ3, hk3⟩
      have hB3 := hk3.trans HBr.out
      have HB3 := Lib.hid hB3
      clear hB3 hk3 HBr
      gi_wp2
      go_roundw
      case rel => exact ⟨k + 1, by omega, by simp, by rw [upto_succ]; exact hJ3, HB3.out⟩
      case measure => simp [intOf]; omega
    · obtain rfl : k = 8 := by omega
      gi_wp2
      go_end0
      exact ⟨⟨_, rfl⟩, hJs⟩

theorem bytes1_ok (F : Fence) (n : Nat) (hf : F.fn 34) (hro : F.round = none) (hn : 1 ≤ n) (Bw : Nat) (x : Int) (w : World) (hB : w.heap[Bw]? = some (.cells #[.int .u64 x] 31 (0, 0))) :
    SeqOk F n Tryd.prog 34 #[.pointer (some ⟨Bw, 0, none⟩)] (fun c : UInt8 => #[.int .u8 (c.toNat : Int)]) (fun _ _ => True) (fun W W' => W'.heap[Bw]? = W.heap[Bw]?) (fun xs _ => xs = upto x 8) 8 w := fun l J W hW hJ hY h0 => by
  refine (bytes1_in F n hf hro hn l Bw x J (fun pre c W1 hj hl => hY pre c W1 hj trivial hl) W ((hW.block _ (Array.getElem?_eq_some_iff.1 hB).1).trans hB) h0).mono ?_
  rintro e W' ⟨he, hj⟩
  exact ⟨he, _, rfl, hj⟩

def enc (l : List Int) : List UInt8 := l.flatMap fun x => upto x 8
theorem enc_nil : enc [] = [] := rfl
theorem enc_append (a b : List Int) : enc (a ++ b) = enc a ++ enc b := by simp [enc]
theorem enc_one (x : Int) : enc [x] = upto x 8 := by simp [enc]
theorem enc_length (l : List Int) : (enc l).length = 8 * l.length := by
  induction l with
  | nil => rfl
  | cons x l ih => rw [show x :: l = [x] ++ l from rfl, enc_append, List.length_append, ih, enc_one, upto_length, List.length_append]; simp; omega

set_option maxRecDepth 100000 in
set_option maxHeartbeats 2000000 in
theorem EncodeWords_calls (A0 : Option Addr) (c0 : Nat) (l0 : List Int) (w : World) (hr : ∀ k, k < l0.length → ∃ ad, A0 = some ad ∧ w.cell? (ad.add k) = some (.int .u64 (l0.getD k 0))) (hlen : l0.length * 8 ≤ 140737488355328) :
    Calls Tryd.prog 13 #[.slice A0 l0.length c0] w fun e w' => e = .returned (.string ⟨(enc l0).toArray⟩) ∧ Below w.heap.size w w' := by
  refine (callsIn_wide (n := 4)).1 ?_
  refine callsIn_of_wp_marks Tryd.func13 rfl trivial ?_ rfl
  simp only [Tryd.ntmps13, List.size_toArray, List.length_cons, List.length_nil, Nat.reduceAdd, Nat.reduceSub, Array.replicate_succ, Array.replicate_zero, List.push_toArray, List.append_toArray, List.nil_append, List.cons_append]
  gi_wp2
  refine wpIn_loop (fun a W => ∃ (k : Nat) (ds : List Deferred) (u5 u6 u10 u11 u12 u13 u14 u15 u16 u17 u18 u19 : Value), k ≤ l0.length ∧
      a = { tmps := #[.slice A0 l0.length c0, undef, .string { data := #[] }, .pointer (some ⟨w.heap.size, 0, none⟩), undef, u5, u6, .slice A0 l0.length c0, .int .i64 (l0.length : Int), .int .i64 (k : Int), u10, u11, u12, u13, u14, u15, u16, u17, u18, u19], defers := ds } ∧
      Marks ds w.heap.size W ∧ Bld.Is w.heap.size w.heap.size (Lib.byteCells (enc (l0.take k))) W ∧ Below w.heap.size w W)
    (fun a _ => l0.length - (intOf (a.tmps.getD 9 undef)).toNat)
    ⟨0, [], _, _, _, _, _, _, _, _, _, _, _, _, Nat.zero_le _, rfl, Marks.nil _ _, by simpa [enc, Lib.byteCells] using Bld.fresh w, (Below.refl _ _).alloc (Nat.le_refl _) _⟩ ?_
  rintro a W ⟨k, ds, u5, u6, u10, u11, u12, u13, u14, u15, u16, u17, u18, u19, hk, rfl, hm, hb, hB⟩
  have hsz := hB.size
  by_cases hlt : k < l0.length
  · obtain ⟨ad, rfl, hc⟩ := hr k hlt
    have hcW : W.cell? (ad.add k) = some (.int .u64 (l0.getD k 0)) := (hB.cell (World.block_lt_of_cell? w _ hc)).trans hc
    clear hr
    obtain ⟨x, hx⟩ : ∃ x, x = l0.getD k 0 := ⟨_, rfl⟩
    rw [← hx] at hcW
    have HX := Lib.hid hx
    clear hx hc
    gi_wp2_with (refine ⟨trivial, ?_⟩; gi_at_call 28; refine (bytes_in Fence.wide _ trivial rfl _ _).mono ?_; rintro e w' ⟨rfl, rfl⟩)
    have hBw : (W.alloc (.cells #[.int .u64 x] 31)).heap[W.heap.size]? = some (.cells #[.int .u64 x] 31 (0, 0)) := World.alloc_heap_new W _
    have hal : Below W.heap.size W (W.alloc (.cells #[.int .u64 x] 31)) := (Below.refl _ _).alloc (Nat.le_refl _) _
    have hm1 := hm.below hal
    have hb1 := hb.below hal
    have hB1 := hB.trans (hal.mono hsz)
    have hlen' : (Lib.byteCells (enc (l0.take k))).length + 8 ≤ 140737488355328 := by
      rw [Lib.byteCells_length, enc_length, List.length_take]; omega
    have hbl := hb.le
    obtain ⟨W1, hW1⟩ : ∃ W1, W.alloc (.cells #[.int .u64 x] 31) = W1 := ⟨_, rfl⟩
    rw [hW1] at hBw hm1 hb1 hB1 ⊢
    have hz1 : W1.heap.size = W.heap.size + 1 := by rw [← hW1]; simp
    have hold := hm1.old
    clear hal hm hb hB hcW hW1
    refine wpIn_rangeFunc_all rfl (by omega) (gf := 34) (lb := #[.pointer (some ⟨W.heap.size, 0, none⟩)]) rfl trivial (enters_of Tryd.func34 (by kernel_rfl) rfl)
      (bytes1_ok Fence.wide _ trivial rfl (by omega) W.heap.size x W1 hBw) (fun h1 h2 => h2.trans h1)
      (fun W2 l o o' hl _ _ _ => World.putObj_heap_other (by omega)) (Below.refl _ _) (fun _ => rfl) (fun _ _ _ _ _ _ _ _ h => h) (fun _ _ _ _ _ _ _ _ h => h)
      (fun pre W2 => Bld.Is w.heap.size w.heap.size (Lib.byteCells (enc (l0.take k) ++ pre)) W2 ∧ Below w.heap.size w W2 ∧ Marks ds w.heap.size W2 ∧ W2.heap[W.heap.size]? = some (.cells #[.int .u64 x] 31 (0, 0)) ∧ W1.heap.size ≤ W2.heap.size)
      ?own ?abides ⟨by simpa using hb1, hB1, hm1, hBw, Nat.le_refl _⟩
      (fun c => { tmps := #[.slice (some ad) l0.length c0, undef, .string { data := #[] }, .pointer (some ⟨w.heap.size, 0, none⟩), undef, .int .u64 x, .int .u8 (c.toNat : Int), .slice (some ad) l0.length c0, .int .i64 (l0.length : Int), .int .i64 (k : Int), .bool true, .pointer (some (ad.add k)), .int .u64 x, .int .u64 x, .func (.func 34) #[] #[.pointer (some ⟨W.heap.size, 0, none⟩)], .int .u8 (c.toNat : Int), u16, u17, u18, u19], defers := [] }) ?assign ?body ?done
    case own =>
      rintro s A C row ⟨h1, h2, h3, h4, h5⟩ hg hrow
      have hrow' : ∀ r, row = some r → ∃ o : Obj, A.heap[r]? = some o ∧ o.isCells = false := fun r e => (hrow r e).2
      refine ⟨h1.grown hg hrow', h2.grown hg (by omega) (fun r e => by have := (hrow r e).1; omega), ?_, ?_, by have := hg.size; omega⟩
      · exact h3.grown hg (fun r e x hx he => by have := hold x hx r he; have := (hrow r e).1; omega)
      · refine (hg.block _ (by omega) (fun e => ?_)).trans h4
        have := (hrow _ e.symm).1
        omega
    case abides =>
      rintro s A C ⟨h1, h2, h3, h4, h5⟩ hb
      exact ⟨h1.below hb, h2.trans (hb.mono (by omega)), h3.below hb, (hb.block _ (by omega)).trans h4, by have := hb.size; omega⟩
    case assign =>
      intro l x W K hK
      gi_wp2
      exact hK
    case body =>
      rintro l pre c W2 ⟨h1, h2, h3, h4, h5⟩ _ hpre
      have hln : (Lib.byteCells (enc (l0.take k) ++ pre)).length + 1 ≤ 140737488355328 := by
        rw [Lib.byteCells_length] at hlen' ⊢
        rw [List.length_append]; omega
      gi_wp2_with (refine ⟨trivial, ?_⟩; gi_at_call 29; refine (CallsIn.inRound l (callsIn_wide.2 (Bld.writeByte w.heap.size w.heap.size _ _ W2 h1 hln (by omega)))).mono ?_; rintro e W3 ⟨rfl, g1, g2, g3⟩)
      have hko := Bld.Oth.others h1 g2.size g3
      refine ⟨hko, ?_, ?_, h2.trans g2, h3.kept hko, ?_, by have := g2.size; omega⟩
      · exact (g3 _ _ h4 (fun e => by have := Option.some.inj e; omega) (fun _ _ e => by cases e)).trans h4.symm
      · rw [← List.append_assoc, Lib.byteCells_append]
        exact g1
      · exact g3 _ _ h4 (fun e => by have := Option.some.inj e; omega) (fun _ _ e => by cases e)
    case done =>
      rintro D xs W2 hD hDl rfl ⟨h1, h2, h3, h4, h5⟩ hK
      have hnx : enc (l0.take (k + 1)) = enc (l0.take k) ++ upto x 8 := by
        rw [List.take_succ_eq_append_getElem hlt, enc_append, enc_one, HX.out, List.getD_eq_getElem?_getD, List.getElem?_eq_getElem hlt, Option.getD_some]
      have HN := Lib.hid hnx
      clear hnx
      gi_wp2
      refine ⟨⟨k + 1, _, _, _, _, _, _, _, _, _, _, _, _, _, by omega, by rw [show ((k + 1 : Nat) : Int) = (k : Int) + 1 from rfl], h3.cons (by omega) hK (fun y hy he => by have := hold y hy D he; omega), ?_, h2⟩, ?_⟩
      · rw [HN.out]; exact h1
      · simp [intOf]; omega
  · obtain rfl : k = l0.length := by omega
    have hfin : Bld.Is w.heap.size w.heap.size (Lib.byteCells (enc l0)) W := by simpa using hb
    have HF := Lib.hid hfin
    clear hfin hb
    gi_wp2_with (refine ⟨trivial, ?_⟩; gi_at_call 30; refine (callsIn_wide.2 (Bld.string w.heap.size w.heap.size _ W HF.out hsz)).mono ?_; rintro e W3 ⟨rfl, g1, g2, g3⟩)
    exact leaves_marks ds W3 (hm.kept (Bld.Oth.others HF.out g2.size g3)) (fun W' hb' => ⟨_, results_tmp rfl _ _ _, rfl, (hB.trans g2).trans hb'⟩) (by have := g2.size; omega)

end Go.Proofs.YteagfdapkffncaaDoor.Enc
