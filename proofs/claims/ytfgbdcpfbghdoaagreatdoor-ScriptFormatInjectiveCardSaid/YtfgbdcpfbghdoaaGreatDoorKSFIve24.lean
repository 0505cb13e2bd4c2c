/- What is proved here: a part of the proof of ScriptFormatInjective: Srt. No conditions beside those that each theorem states. -/
import Derived.Test.YtfgbdcpfbghdoaaGreatDoorKSFIve23
import Derived.Lib.ConvBytes
import Derived.Lib.SliceRun
import Derived.Lib.UnsafeStr
import Derived.Laws.IdiomStrings
import Derived.Deep.WholeRow
section
set_option linter.unusedVariables false
set_option linter.unusedSimpArgs false
namespace Go.Proofs.YtfgbdcpfbghdoaaGreatDoor.P
open Go.RowKit Go.Proofs.YtfgbdcpfbghdoaaGreatDoorW.PrintWords Go.Proofs.YtfgbdcpfbghdoaaGreatDoorW.PrintLast Go.Proofs.YtfgbdcpfbghdoaaGreatDoorW.PrintMore
def repOf (k : Nat) : Option (List UInt8) := if k = 10 then some [94, 110] else if k = 34 then some [94, 113] else if k = 94 then some [94, 99] else none
def ordOf (k : Nat) : Nat := if k = 10 then 1 else if k = 34 then 2 else 3
def Ent (w : World) (c : Option Value) : Option (List UInt8) → Prop
  | none => c = some (.slice none 0 0)
  | some l => ∃ p cap, c = some (.slice (some ⟨p, 0, none⟩) l.length cap) ∧ ∃ (cs : Array Value) (fr : Nat × Nat), w.heap[p]? = some (Obj.cells cs 5 fr) ∧ ∀ (j : Nat) (u : Value), (Lib.byteCells l)[j]? = some u → cs[j]? = some u
theorem Ent.kept {w w' : World} {c : Option Value} {o : Option (List UInt8)} (h : Ent w c o) (hk : ∀ (p : Nat) (cs : Array Value) (fr : Nat × Nat), w.heap[p]? = some (Obj.cells cs 5 fr) → w'.heap[p]? = some (Obj.cells cs 5 fr)) : Ent w' c o := by
  cases o with
  | none => exact h
  | some l =>
    obtain ⟨p, cap, h1, cs, fr, h2, h3⟩ := h
    exact ⟨p, cap, h1, cs, fr, hk _ _ _ h2, h3⟩
def tos : List Value := [.string ⟨#[10]⟩, .string ⟨#[34]⟩, .string ⟨#[94]⟩]
structure TS (base b m : Nat) (v : Value) (w : World) : Prop where
  hb : base ≤ b
  ex : ∃ cs : Array Value, w.heap[b]? = some (Obj.cells cs 122 (0, 0)) ∧ cs.size = 257 ∧ cs[256]? = some v ∧ ∀ k, k < 256 → Ent w (cs[k]?) (if ordOf k ≤ m then repOf k else none)
  own : w.ownsRow base 9 1 v m (tos.take m)
theorem infoByt : (Tryz.prog.info? 5).map (fun i => (i.zero, i.size, i.bytes)) = some (some (.int .u8 0), 1, 1) := by kernel_rfl
theorem zero122 : Tryz.zeroCells122 = (Array.replicate 256 (.slice none 0 0)).push (.slice none 0 0) := by kernel_rfl
theorem all122 : Tryz.zeroCells122.toList.all (fun v => v.oneCell') = true := by kernel_rfl
def tab1 (Z : Array Value) (v : Value) : Array Value := (Z.toList.set 256 v).toArray
theorem store122 (W : World) : (storeCells ⟨W.heap.size + 1, 0, none⟩ (Tryz.zeroCells122.toList.set 256 (.slice (some ⟨W.heap.size, 0, none⟩) 0 3))).run Tryz.prog ((W.alloc (.cells #[.string ⟨#[]⟩, .string ⟨#[]⟩, .string ⟨#[]⟩] 9)).alloc (.cells Tryz.zeroCells122 122)) = .ok () ((W.alloc (.cells #[.string ⟨#[]⟩, .string ⟨#[]⟩, .string ⟨#[]⟩] 9)).alloc (.cells (tab1 Tryz.zeroCells122 (.slice (some ⟨W.heap.size, 0, none⟩) 0 3)) 122)) := by
  have h1 := heap_alloc_new (W.alloc (.cells #[.string ⟨#[]⟩, .string ⟨#[]⟩, .string ⟨#[]⟩] 9)) (.cells Tryz.zeroCells122 122)
  have hn : (W.alloc (.cells #[.string ⟨#[]⟩, .string ⟨#[]⟩, .string ⟨#[]⟩] 9)).heap.size = W.heap.size + 1 := by show (W.heap.push _).size = _; rw [Array.size_push]
  have h2 := run_storeCells_from (P := Tryz.prog) (W.alloc (.cells #[.string ⟨#[]⟩, .string ⟨#[]⟩, .string ⟨#[]⟩] 9)).heap.size 122 (Tryz.zeroCells122.toList.set 256 (.slice (some ⟨W.heap.size, 0, none⟩) 0 3)) 0 _ _ h1 (by simp) (by
    intro v hv
    rcases List.mem_or_eq_of_mem_set hv with h | rfl
    · exact List.all_eq_true.1 all122 v h
    · rfl)
  rw [hn] at h2
  rw [h2]
  congr 1
  rw [← hn, World.setRow_alloc_new]
  simp only [List.take_zero, List.nil_append, tab1]
set_option maxRecDepth 100000 in
theorem ts_start (W : World) : TS W.heap.size (W.heap.size + 1) 0 (.slice (some ⟨W.heap.size, 0, none⟩) 0 3) ((W.alloc (.cells #[.string ⟨#[]⟩, .string ⟨#[]⟩, .string ⟨#[]⟩] 9)).alloc (.cells (tab1 Tryz.zeroCells122 (.slice (some ⟨W.heap.size, 0, none⟩) 0 3)) 122)) := by
  have hn : (W.alloc (.cells #[.string ⟨#[]⟩, .string ⟨#[]⟩, .string ⟨#[]⟩] 9)).heap.size = W.heap.size + 1 := by show (W.heap.push _).size = _; rw [Array.size_push]
  have h1 := heap_alloc_new (W.alloc (.cells #[.string ⟨#[]⟩, .string ⟨#[]⟩, .string ⟨#[]⟩] 9)) (.cells (tab1 Tryz.zeroCells122 (.slice (some ⟨W.heap.size, 0, none⟩) 0 3)) 122)
  rw [hn] at h1
  have h0 := blk_alloc (heap_alloc_new W (.cells #[.string ⟨#[]⟩, .string ⟨#[]⟩, .string ⟨#[]⟩] 9)) (.cells (tab1 Tryz.zeroCells122 (.slice (some ⟨W.heap.size, 0, none⟩) 0 3)) 122)
  have hz : Tryz.zeroCells122.toList = List.replicate 256 (.slice none 0 0) ++ [.slice none 0 0] := by rw [zero122]; simp
  refine ⟨by omega, ⟨_, h1, ?_, ?_, ?_⟩, rfl, .inr ⟨W.heap.size, 3, _, rfl, Nat.le_refl _, h0, by omega, by simp [maxLen], rfl, rfl⟩⟩
  · simp only [tab1, hz, List.size_toArray, List.length_set, List.length_append, List.length_replicate, List.length_cons, List.length_nil]
  · simp only [tab1, hz, List.getElem?_toArray]
    rw [List.getElem?_set_self (by simp)]
  · intro k hk
    rw [if_neg (by unfold ordOf; by_cases a : k = 10 <;> by_cases b : k = 34 <;> simp [a, b])]
    show (tab1 _ _)[k]? = _
    simp only [tab1, hz, List.getElem?_toArray]
    rw [List.getElem?_set_ne (by omega), List.getElem?_append_left (by simp; omega), List.getElem?_replicate, if_pos hk]
theorem own_ne {base b m : Nat} {v : Value} {w : World} {xs : List Value} (hown : w.ownsRow base 9 1 v m xs) {p : Nat} {cs : Array Value} {t : TypeId} {fr : Nat × Nat} (hp : w.heap[p]? = some (Obj.cells cs t fr)) (ht : t ≠ 9) : some p ≠ v.ownBlock := by
  rcases hown.2 with ⟨rfl, _⟩ | ⟨g, cap, cur, rfl, _, hg, _⟩
  · simp [Value.ownBlock]
  · intro e
    have e' : p = g := Option.some.inj e
    subst e'
    rw [hp] at hg
    simp at hg
    exact ht hg.2.1
theorem own_kept {base m : Nat} {v : Value} {w w' : World} {xs : List Value} (hown : w.ownsRow base 9 1 v m xs) (hk : ∀ (p : Nat) (cs : Array Value), w.heap[p]? = some (Obj.cells cs 9 (0, 0)) → w'.heap[p]? = some (Obj.cells cs 9 (0, 0))) : w'.ownsRow base 9 1 v m xs := by
  refine ⟨hown.1, ?_⟩
  rcases hown.2 with h | ⟨g, cap, cur, h1, h2, hg, h3⟩
  · exact .inl h
  · exact .inr ⟨g, cap, cur, h1, h2, hk _ _ hg, h3⟩
theorem ts_step {base b m : Nat} {v v' : Value} {w w1 w2 : World} {l : List UInt8} {o cap : Nat} (hT : TS base b m v w) (ho : o < 256) (hord : ordOf o = m + 1) (hrep : repOf o = some l)
    (hoth : ∀ k, k ≠ o → (if ordOf k ≤ m + 1 then repOf k else none) = (if ordOf k ≤ m then repOf k else none))
    (hB : Below w.heap.size w w1) (hown : w2.ownsRow base 9 1 v' (m + 1) (tos.take (m + 1))) (hgrow : w1.grownBy w2 v.ownBlock) (hcap : l.length ≤ cap) :
    TS base b (m + 1) v' ((Lib.bytesWorld (w2.setCell ⟨b, 256, none⟩ v') 5 ⟨l.toArray⟩).setCell ⟨b, o, none⟩ (.slice (some ⟨(w2.setCell ⟨b, 256, none⟩ v').heap.size, 0, none⟩) l.length cap)) := by
  obtain ⟨cs, hcb, hcs, hcv, hce⟩ := hT.ex
  have hbw : b < w.heap.size := (Array.getElem?_eq_some_iff.1 hcb).1
  -- what is of another type than strings stays until w2
  have keep2 : ∀ (p : Nat) (cs : Array Value) (t : TypeId) (fr : Nat × Nat), w.heap[p]? = some (Obj.cells cs t fr) → t ≠ 9 → w2.heap[p]? = some (Obj.cells cs t fr) := by
    intro p cs t fr hp ht
    have hlt : p < w.heap.size := (Array.getElem?_eq_some_iff.1 hp).1
    have h1 : w1.heap[p]? = some (Obj.cells cs t fr) := (hB.block p hlt).trans hp
    exact (hgrow.block p (Array.getElem?_eq_some_iff.1 h1).1 (own_ne (b := b) hT.own hp ht)).trans h1
  have hb2 := keep2 b cs _ _ hcb (by decide)
  have hblt : b < w2.heap.size := (Array.getElem?_eq_some_iff.1 hb2).1
  have hb3 := blk_set hb2 256 v'
  have hs3 : (w2.setCell ⟨b, 256, none⟩ v').heap.size = w2.heap.size := World.size_setCell _ _ _
  have hfar3 : ∀ k, k ≠ b → (w2.setCell ⟨b, 256, none⟩ v').heap[k]? = w2.heap[k]? := fun k hk => Below.heap_setCell w2 ⟨b, 256, none⟩ v' k hk
  generalize hw3 : w2.setCell ⟨b, 256, none⟩ v' = w3 at *
  have hs4 := Lib.bytesWorld_size w3 5 ⟨l.toArray⟩
  have hold4 : ∀ k, k < w3.heap.size → (Lib.bytesWorld w3 5 ⟨l.toArray⟩).heap[k]? = w3.heap[k]? := fun k hk => Lib.bytesWorld_at_old w3 5 ⟨l.toArray⟩ k hk
  have hnew4 := Lib.bytesWorld_at_new w3 5 ⟨l.toArray⟩
  have hcell4 := Lib.bytesWorld_cell w3 5 ⟨l.toArray⟩
  generalize hw4 : Lib.bytesWorld w3 5 ⟨l.toArray⟩ = w4 at *
  have hb4 : w4.heap[b]? = some (Obj.cells (cs.setIfInBounds 256 v') 122 (0, 0)) := (hold4 b (by omega)).trans hb3
  have hb5 := blk_set hb4 o (.slice (some ⟨w3.heap.size, 0, none⟩) l.length cap)
  have hfar5 : ∀ k, k ≠ b → (w4.setCell ⟨b, o, none⟩ (.slice (some ⟨w3.heap.size, 0, none⟩) l.length cap)).heap[k]? = w4.heap[k]? := fun k hk => Below.heap_setCell w4 ⟨b, o, none⟩ _ k hk
  generalize hw5 : w4.setCell ⟨b, o, none⟩ (.slice (some ⟨w3.heap.size, 0, none⟩) l.length cap) = w5 at *
  have keep5 : ∀ k, k ≠ b → k < w2.heap.size → w5.heap[k]? = w2.heap[k]? := fun k hk hlt => (hfar5 k hk).trans ((hold4 k (by omega)).trans (hfar3 k hk))
  refine ⟨hT.hb, ⟨_, hb5, by simp [hcs], ?_, ?_⟩, ?_⟩
  · rw [Array.getElem?_setIfInBounds_ne (by omega), Array.getElem?_setIfInBounds_self_of_lt (by omega)]
  · intro k hk
    by_cases hko : k = o
    · subst hko
      rw [if_pos (by omega), hrep]
      refine ⟨w3.heap.size, cap, ?_, _, _, (hfar5 _ (by omega)).trans hnew4, ?_⟩
      · rw [Array.getElem?_setIfInBounds_self_of_lt (by simp; omega)]
      · intro j u hj
        have hjl : j < l.length := by
          have := (List.getElem?_eq_some_iff.1 hj).1
          simpa [Lib.byteCells] using this
        have h1 := hcell4 j (by simpa [ByteArray.size] using hjl)
        simp only [World.cell?, hnew4] at h1
        simp only [Lib.byteCells, List.getElem?_map, List.getElem?_eq_getElem hjl, Option.map_some, Option.some.injEq] at hj
        subst hj
        simp only [List.getD_eq_getElem?_getD, List.getElem?_eq_getElem hjl, Option.getD_some] at h1
        exact h1
    · rw [Array.getElem?_setIfInBounds_ne (fun e => hko e.symm), Array.getElem?_setIfInBounds_ne (by omega), hoth k hko]
      refine (hce k hk).kept fun p cs2 fr hp => ?_
      have h2 := keep2 p cs2 _ fr hp (by decide)
      have hpb : p ≠ b := by
        rintro rfl
        rw [hcb] at hp
        simp at hp
      exact (keep5 p hpb (Array.getElem?_eq_some_iff.1 h2).1).trans h2
  · refine own_kept hown fun p cs2 hp => ?_
    have hpb : p ≠ b := by
      rintro rfl
      rw [hb2] at hp
      simp at hp
    exact (keep5 p hpb (Array.getElem?_eq_some_iff.1 hp).1).trans hp
end Go.Proofs.YtfgbdcpfbghdoaaGreatDoor.P
end
