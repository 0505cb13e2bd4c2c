/- What is proved here: a part of the proof of CircuitAppendMul: Cde. No conditions beside those that each theorem states. -/
import Derived.Test.YtmnleabeipmhmaaDoorKCAMul16
import Derived.Deep.OwnRows
import Derived.Deep.DeepCutAuto
import Derived.Deep.CutRange
import Derived.StillTail
import Derived.StillTactics
section
set_option linter.unusedVariables false
set_option linter.unusedSimpArgs false
namespace Go.Proofs.YtmnleabeipmhmaaDoor.P
open Go.RowKit Go.Proofs.YtmnleabeipmhmaaDoorW.PrintWords Go.Proofs.YtmnleabeipmhmaaDoorW.PrintLast Go.Proofs.YtmnleabeipmhmaaDoorW.PrintMore
attribute [local go_sem] zb4 zb2 zcg zcf
def mx (x y : Int) : Int := if x < y then y else x
def stepA (f : Form) (D : List Int) (a : Int) : Int := if f.a then D.getD a.toNat 0 else 0
def stepB (f : Form) (D : List Int) (b x : Int) : Int := if f.b then mx x (D.getD b.toNat 0) else x
def zc0 (k x : Int) : Int := if k == 6 then x + 1 else x
def zb7 (D : List Int) (g : S43) : Int := zc0 g.f0 (stepB (ofF g.f0 g.f4).1 D g.f3 (stepA (ofF g.f0 g.f4).1 D g.f2))
def deps (l : List S43) : List Int := l.foldl (fun D g => D ++ [zb7 D g]) []
def maxAll (D : List Int) : Int := D.foldl mx 0
def earlier (g : S43) (i : Nat) : Bool := (!(ofF g.f0 g.f4).1.a || (decide (0 ≤ g.f2) && decide (g.f2 < i))) && (!(ofF g.f0 g.f4).1.b || (decide (0 ≤ g.f3) && decide (g.f3 < i)))
def backward : Nat → List S43 → Bool
  | _, [] => true
  | i, g :: r => earlier g i && backward (i + 1) r
theorem backward_at : ∀ (l : List S43) (i j : Nat) (hj : j < l.length), backward i l = true → earlier l[j] (i + j) = true
  | [], _, _, hj, _ => absurd hj (Nat.not_lt_zero _)
  | g :: r, i, 0, _, h => by simp only [backward, Bool.and_eq_true] at h; simpa using h.1
  | g :: r, i, j + 1, hj, h => by
    simp only [backward, Bool.and_eq_true] at h
    have := backward_at r (i + 1) j (by simpa using hj) h.2
    simpa [Nat.add_assoc, Nat.add_comm 1 j] using this
theorem deps_snoc (l : List S43) (g : S43) : deps (l ++ [g]) = deps l ++ [zb7 (deps l) g] := by simp [deps]
theorem snocInd {α : Type} {p : List α → Prop} (h0 : p []) (h1 : ∀ l a, p l → p (l ++ [a])) (l : List α) : p l := by
  have : ∀ r : List α, p r.reverse := by
    intro r
    induction r with
    | nil => exact h0
    | cons a r ih => rw [List.reverse_cons]; exact h1 _ _ ih
  have h := this l.reverse
  rwa [List.reverse_reverse] at h
theorem deps_length (l : List S43) : (deps l).length = l.length := by
  refine snocInd (p := fun l => (deps l).length = l.length) rfl (fun l g ih => ?_) l
  rw [deps_snoc]; simp [ih]
theorem zco (D : List Int) (x : Int) : maxAll (D ++ [x]) = mx (maxAll D) x := by simp [maxAll]
def bnd (n : Nat) (D : List Int) : Prop := ∀ x ∈ D, 0 ≤ x ∧ x ≤ n
theorem bnd_getD {n : Nat} {D : List Int} (h : bnd n D) (j : Nat) : 0 ≤ D.getD j 0 ∧ D.getD j 0 ≤ n := by
  rw [List.getD_eq_getElem?_getD]
  cases hj : D[j]? with
  | none => exact ⟨Int.le_refl 0, Int.natCast_nonneg n⟩
  | some x => exact h x (List.mem_of_getElem? hj)
theorem step_bnd {n : Nat} {D : List Int} (h : bnd n D) (f : Form) (a b : Int) : (0 ≤ stepA f D a ∧ stepA f D a ≤ n) ∧ (0 ≤ stepB f D b (stepA f D a) ∧ stepB f D b (stepA f D a) ≤ n) := by
  have h1 := bnd_getD h a.toNat
  have h2 := bnd_getD h b.toNat
  have hA : 0 ≤ stepA f D a ∧ stepA f D a ≤ n := by unfold stepA; split <;> omega
  refine ⟨hA, ?_⟩
  unfold stepB mx
  split <;> first | omega | (split <;> omega)
theorem deps_bnd (l : List S43) : bnd l.length (deps l) := by
  refine snocInd (p := fun l => bnd l.length (deps l)) (fun x hx => by cases hx) (fun l g ih => ?_) l
  rw [deps_snoc]
  intro x hx
  simp only [List.length_append, List.length_singleton]
  rcases List.mem_append.1 hx with hx | hx
  · have := ih x hx; omega
  · have e : x = zb7 (deps l) g := by simpa using hx
    have := (step_bnd ih (ofF g.f0 g.f4).1 g.f2 g.f3).2
    rw [e]; unfold zb7 zc0; split <;> omega
def zas.f (a0 : Int) (l0 : List S43) (l1 : List Int) : Option Int := if l0.length ≤ 100000 ∧ backward 0 l0 = true then some (maxAll (deps l0)) else none
def Dp (w : World) (b : Nat) (xs : List Int) : Prop := w.heap[b]? = some (.cells (xs.map (Value.int .i64)).toArray 3 (0, 0))
theorem Dp.cell {w : World} {b : Nat} {xs : List Int} (h : Dp w b xs) (i : Nat) : w.cell? ⟨b, i, none⟩ = (xs[i]?).map (Value.int .i64) := by
  rw [zak h i]; simp
theorem Dp.frozen {w : World} {b : Nat} {xs : List Int} (h : Dp w b xs) (i : Nat) : w.frozen? ⟨b, i, none⟩ = false := zaa h i
theorem Dp.set {w : World} {b : Nat} {D r : List Int} {x : Int} (h : Dp w b (D ++ x :: r)) (y : Int) : Dp (w.setCell ⟨b, D.length, none⟩ (.int .i64 y)) b (D ++ y :: r) := by
  refine zap h D.length _ ?_
  apply Array.ext'
  simp [List.set_append]
theorem Dp.at {w : World} {b : Nat} {D r : List Int} {x : Int} (h : Dp w b (D ++ x :: r)) : w.cell? ⟨b, D.length, none⟩ = some (.int .i64 x) := by rw [h.cell]; simp
theorem Dp.before {w : World} {b : Nat} {D r : List Int} (h : Dp w b (D ++ r)) (j : Nat) (hj : j < D.length) : w.cell? ⟨b, j, none⟩ = some (.int .i64 (D.getD j 0)) := by
  rw [h.cell, List.getElem?_append_left hj, List.getElem?_eq_getElem hj]; simp [hj]
theorem Dp.put {w w' : World} {b : Nat} {D r : List Int} {x y : Int} {gB fB n0 : Nat} {og of : Obj} {w0 : World} (h : Dp w b (D ++ x :: r)) (hw : w' = w.setCell ⟨b, D.length, none⟩ (.int .i64 y)) (hg : w.heap[gB]? = some og) (hgb : gB ≠ b) (hf : w.heap[fB]? = some of) (hfb : fB ≠ b) (hB : Below n0 w0 w) (hn : n0 ≤ b) (_ : Int) :
    Dp w' b (D ++ y :: r) ∧ w'.heap[gB]? = some og ∧ w'.heap[fB]? = some of ∧ Below n0 w0 w' := by
  subst hw
  exact ⟨h.set y, (Below.heap_setCell w ⟨b, D.length, none⟩ _ gB hgb).trans hg, (Below.heap_setCell w ⟨b, D.length, none⟩ _ fB hfb).trans hf, hB.setCell (p := ⟨b, D.length, none⟩) hn _⟩
theorem zeros_row (n : Nat) : madeCells #[Value.int .i64 0] n = ((List.replicate n (0 : Int)).map (Value.int .i64)).toArray := by
  apply Array.ext
  · simp [madeCells]
  · intro i h1 h2
    simp [madeCells, Nat.mod_one]
theorem Dp.below {w w' : World} {b : Nat} {xs : List Int} (h : Dp w b xs) (hb : Below w.heap.size w w') : Dp w' b xs := zbl h hb
theorem mixed : Tryd.prog.follows .mixedOrders = true := by kernel_rfl
set_option maxHeartbeats 8000000 in
set_option maxRecDepth 100000 in
theorem zas.calls (a0 : Int) (A0 : Option Addr) (c0 : Nat) (l0 : List S43) (A1 : Option Addr) (c1 : Nat) (l1 : List Int) (r : Int) (w : World) (hLd : Ld w) (hr0 : Kd.C k43 w A0 l0.length l0) (hc0 : l0.length ≤ c0) (hr1 : Kd.C (Kd.int .i64) w A1 l1.length l1) (hc1 : l1.length ≤ c1) (h : zas.f a0 l0 l1 = some r) :
    Calls Tryd.prog 17 #[.agg #[.int .u64 a0, .slice A0 l0.length c0, .slice A1 l1.length c1]] w fun e w' => e = .returned (.int .i64 r) ∧ Below w.heap.size w w' := by
  unfold zas.f at h
  split at h
  case isFalse => cases h
  case isTrue hq =>
  obtain ⟨hlen, hback⟩ := hq
  obtain rfl := Option.some.inj h
  clear h hr1 hc1
  have hB0 := zao (Below.refl w.heap.size w) (.cells #[.int .u64 a0, .slice A0 l0.length c0, .slice A1 l1.length c1] 26)
  have hx0 := heap_alloc_new w (.cells #[.int .u64 a0, .slice A0 l0.length c0, .slice A1 l1.length c1] 26)
  have HR0 := Lib.hid hr0
  have HLD := Lib.hid hLd
  clear hr0 hLd
  have HBK := Lib.hid (fun (i : Nat) (hi : i < l0.length) => backward_at l0 0 i hi hback)
  clear hback
  have hmk := run_make_row' (P := Tryd.prog) 24 3 (.int .i64 0) 8 Tryd.underlying24 (by kernel_rfl) rfl .i64 .i64 l0.length (by omega) (by omega)
  go_enter Tryd.func17, Tryd.ntmps17
  go_upto_region 1 with (fail)
  generalize w.alloc (.cells #[.int .u64 a0, .slice A0 l0.length c0, .slice A1 l1.length c1] 26) = w1 at *
  have q1 : w1.cell? ⟨w.heap.size, 1, none⟩ = some (.slice A0 l0.length c0) := zak hx0 1
  have HX0 := Lib.hid hx0
  have HB0 := Lib.hid hB0
  clear hx0 hB0
  go_upto_region 3 with (fail)
  clear q1
  have hd0 : Dp (w1.alloc (.cells (madeCells #[.int .i64 0] l0.length) 3)) w1.heap.size (List.replicate l0.length 0) := by
    unfold Dp
    rw [← zeros_row]
    exact heap_alloc_new w1 (.cells (madeCells #[.int .i64 0] l0.length) 3)
  have hx2 := (zcp w1 (.cells (madeCells #[.int .i64 0] l0.length) 3) _ (zbg HX0.out)).trans HX0.out
  have hB2 := zao HB0.out (.cells (madeCells #[.int .i64 0] l0.length) 3)
  have hs2 := zcq w1 (.cells (madeCells #[.int .i64 0] l0.length) 3)
  have hge : w.heap.size ≤ w1.heap.size := HB0.out.size
  clear hmk HX0 HB0
  generalize w1.alloc (.cells (madeCells #[.int .i64 0] l0.length) 3) = w2 at *
  generalize w1.heap.size = b at *
  clear w1
  have q1 : w2.cell? ⟨w.heap.size, 1, none⟩ = some (.slice A0 l0.length c0) := zak hx2 1
  have HD0 := Lib.hid hd0
  have HB := Lib.hid hB2
  clear hd0 hB2 hx2
  go_wp2_with fail
  go_loopw [4, 5, 6, 7, 8, 16] (fun v4 _ _ _ _ v16 wr => ∃ (i : Nat) (D : List Int), v16 = .int .i64 i ∧ i ≤ l0.length ∧ v4 = .int .i64 (maxAll D) ∧ D = deps (l0.take i) ∧ Dp wr b (D ++ List.replicate (l0.length - i) 0) ∧ Below w.heap.size w wr) (fun _ _ _ _ _ v16 _ => ((l0.length : Int) - intOf v16).toNat)
  case atStart => exact ⟨0, [], rfl, Nat.zero_le _, rfl, rfl, by simpa using HD0.out, HB.out⟩
  case round =>
    clear q1 HD0 HB hs2
    obtain ⟨i, D, rfl, hi, rfl, hD, hd, hBw⟩ := hrel
    by_cases hlt : i < l0.length
    · obtain ⟨ad, rfl, e0, e1, e2, e3, e4⟩ := at_T43 (Kd.C_below HR0.out hBw) (i : Int) (by omega) (by omega)
      have hg : zae l0 (i : Int) = l0[i] := by simp [zae, hlt]
      rw [hg, Int.toNat_natCast] at e0 e1 e2 e3 e4
      have hDl : D.length = i := by rw [hD, deps_length, List.length_take]; omega
      have hbn : bnd i D := by have := deps_bnd (l0.take i); rw [← hD, List.length_take, Nat.min_eq_left hi] at this; exact this
      have hnext : deps (l0.take (i + 1)) = D ++ [zb7 D l0[i]] := by rw [List.take_succ_eq_append_getElem hlt, deps_snoc, ← hD]
      have hear := HBK.out i hlt
      rw [Nat.zero_add] at hear
      rw [show l0.length - i = (l0.length - (i + 1)) + 1 by omega, List.replicate_succ] at hd
      generalize l0[i] = g at *
      obtain ⟨k, fr, A, B, K⟩ := g
      obtain ⟨f, ok, hF⟩ : ∃ f ok, ofF k K = (f, ok) := ⟨_, _, rfl⟩
      simp only [earlier, zb7, hF] at hear hnext
      simp only at e0 e1 e2 e3 e4
      have HC : Hid (∀ w, Ld w → Calls Tryd.prog 32 #[.agg #[.int .i64 k, .int .i64 fr, .int .i64 A, .int .i64 B, .int .u64 K]] w fun r w' => r = .returned (.tuple #[.agg #[.string ⟨f.word.toArray⟩, .int .i64 f.kind, .bool f.from_, .bool f.k, .bool f.a, .bool f.b, .bool f.bit], .bool ok]) ∧ Below w.heap.size w w') := Lib.hid (fun w h => by
        have := of_calls k fr A B K w h
        rw [hF] at this
        exact this)
      have hst := step_bnd hbn f A B
      have HL := Lib.hid (HLD.out.below hBw)
      have HNX := Lib.hid hnext
      have HE := Lib.hid hear
      have HST := Lib.hid hst
      have HD := Lib.hid hd
      have HBw := Lib.hid hBw
      clear hD hg hF hnext hear hst hbn hd hBw
      generalize hZ : List.replicate (l0.length - (i + 1)) (0 : Int) = Z at *
      go_upto_region 6 with (
        refine wpList_store_row rfl 43 (.tmp 6) (.tmp 20) rfl wr.heap.size #[.int .i64 k, .int .i64 fr, .int .i64 A, .int .i64 B, .int .u64 K] ?e1 ?e2 43 #[.int .i64 0, .int .i64 0, .int .i64 0, .int .i64 0, .int .u64 0] (heap_alloc_new wr _) ?e4 ?e5 ?e6 ?_
        (case e1 => rfl)
        (case e2 => rfl)
        (case e4 => kernel_rfl)
        (case e5 => rfl)
        (case e6 => simp [Value.oneCell'])
        rw [World.setRow_alloc_new]
        have hnw := heap_alloc_new wr (.cells #[.int .i64 k, .int .i64 fr, .int .i64 A, .int .i64 B, .int .u64 K] 43)
        have hb2 := zao (Below.refl wr.heap.size wr) (.cells #[.int .i64 k, .int .i64 fr, .int .i64 A, .int .i64 B, .int .u64 K] 43)
        have hgb : wr.heap.size ≠ b := by have := zbg HD.out; omega
        have HBw2 := Lib.hid (HBw.out.trans (hb2.mono HBw.out.size))
        have HL2 := Lib.hid (HL.out.below hb2)
        have HD2 := Lib.hid (HD.out.below hb2)
        generalize wr.alloc (.cells #[.int .i64 k, .int .i64 fr, .int .i64 A, .int .i64 B, .int .u64 K] 43) = w3 at *
        have HG := Lib.hid hnw
        clear hnw hb2 HBw HL HD)
      clear e0 e1 e2 e3 e4
      generalize wr.heap.size = gB at *
      go_upto_region 7 with (first
        | (refine wpList_load_row rfl 43 (.tmp 6) rfl gB rfl 43 #[.int .i64 k, .int .i64 fr, .int .i64 A, .int .i64 B, .int .u64 K] (0, 0) _ HG.out Tryd.underlying43 rfl (by kernel_rfl) ?_)
        | (go_at_call 32
           refine (HC.out _ HL2.out).mono ?_
           rintro r w4 ⟨rfl, hB4⟩
           have HG4 := Lib.hid (zbl HG.out hB4)
           have HD4 := Lib.hid (HD2.out.below hB4)
           have HB4 := Lib.hid (HBw2.out.trans (hB4.mono HBw2.out.size))
           clear HG HD2 HBw2 HL2 hB4)
        | (refine wpList_store_row rfl 50 (.tmp 7) (.tmp 24) rfl w4.heap.size #[.string ⟨f.word.toArray⟩, .int .i64 f.kind, .bool f.from_, .bool f.k, .bool f.a, .bool f.b, .bool f.bit] ?e1 ?e2 50 #[.string ⟨#[]⟩, .int .i64 0, .bool false, .bool false, .bool false, .bool false, .bool false] (heap_alloc_new w4 _) ?e4 ?e5 ?e6 ?_
           (case e1 => rfl)
           (case e2 => rfl)
           (case e4 => kernel_rfl)
           (case e5 => rfl)
           (case e6 => simp [Value.oneCell'])
           rw [World.setRow_alloc_new]
           have hnw := heap_alloc_new w4 (.cells #[.string ⟨f.word.toArray⟩, .int .i64 f.kind, .bool f.from_, .bool f.k, .bool f.a, .bool f.b, .bool f.bit] 50)
           have hb2 := zao (Below.refl w4.heap.size w4) (.cells #[.string ⟨f.word.toArray⟩, .int .i64 f.kind, .bool f.from_, .bool f.k, .bool f.a, .bool f.b, .bool f.bit] 50)
           have hfb : w4.heap.size ≠ b := by have := zbg HD4.out; omega
           have HB5 := Lib.hid (HB4.out.trans (hb2.mono HB4.out.size))
           have HG5 := Lib.hid (zbl HG4.out hb2)
           have HD5 := Lib.hid (HD4.out.below hb2)
           generalize w4.alloc (.cells #[.string ⟨f.word.toArray⟩, .int .i64 f.kind, .bool f.from_, .bool f.k, .bool f.a, .bool f.b, .bool f.bit] 50) = w5 at *
           generalize w4.heap.size = fB at *
           have HF5 := Lib.hid hnw
           have g0 : w5.cell? ⟨gB, 0, none⟩ = some (.int .i64 k) := zak HG5.out 0
           have g2 : w5.cell? ⟨gB, 2, none⟩ = some (.int .i64 A) := zak HG5.out 2
           have g3 : w5.cell? ⟨gB, 3, none⟩ = some (.int .i64 B) := zak HG5.out 3
           have n4 : w5.cell? ⟨fB, 4, none⟩ = some (.bool f.a) := zak HF5.out 4
           have n5 : w5.cell? ⟨fB, 5, none⟩ = some (.bool f.b) := zak HF5.out 5
           clear hnw hb2 HB4 HG4 HD4)
        )
      clear HC
      have cur : w5.cell? ⟨b, i, none⟩ = some (.int .i64 0) := hDl ▸ HD5.out.at
      have cfz : w5.frozen? ⟨b, i, none⟩ = false := HD5.out.frozen i
      cases ha : f.a
      · rw [ha] at n4
        obtain ⟨x, hx0⟩ : ∃ x : Int, x = 0 := ⟨_, rfl⟩
        have hst : stepA f D A = x := by simp [stepA, ha, hx0]
        rw [← hx0] at cur
        rw [show (0 : Int) :: Z = x :: Z by rw [hx0]] at HD5
        clear hx0
        go_upto_region 9 with (fail)
        cases hb : f.b
        · rw [hb] at n5
          obtain ⟨y, hy⟩ : ∃ y : Int, y = x := ⟨_, rfl⟩
          have hst2 : stepB f D B x = y := by simp [stepB, hb, hy]
          rw [← hy] at cur
          rw [← hy] at HD5
          clear hy
          go_upto_region 11 with (fail)
          have hyb : 0 ≤ y ∧ y ≤ i := by have := HST.out.2; rw [hst, hst2] at this; exact this
          cases hm : (k == 6)
          · have hst3 : zc0 k y = y := by simp [zc0, hm]
            go_upto_region 13 with (fail)
            go_wp2_with fail
            exact ⟨⟨i + 1, D ++ [y], rfl, by omega, by rw [zco]; rfl, by rw [HNX.out, hst, hst2, hst3], by rw [List.append_assoc, hZ]; exact HD5.out, HB5.out⟩, by simp only [intOf]; omega⟩
          · have hst3 : zc0 k y = y + 1 := by simp [zc0, hm]
            have hw1 : IntKind.i64.wrap (y + 1) = y + 1 := by simp [IntKind.wrap, IntKind.bits, IntKind.signed]; omega
            generalize hv : y + 1 = v at *
            go_upto_region 13 with (
              (with_reducible refine zbj (t := 3) (p := 59) rfl ?_)
              refine zbn (t := 3) (p := 59) (v := .tmp 58) (w1 := w5.setCell ⟨b, i, none⟩ (.int .i64 (v))) ?hg ?ho ?hn ?hr ?_
              (case ho => rfl)
              (case hg => rfl)
              (case hn => rfl)
              (case hr => first | (go_simp; done) | (go_simp; rfl))
              intro w8 hw
              obtain ⟨hd, hg, hf, hB⟩ := HD5.out.put (hDl ▸ hw) HG5.out hgb HF5.out hfb HB5.out hge (v)
              clear hw g0 g2 g3 n4 n5 cur cfz
              clear HD5 HG5 HF5 HB5
              have HD6 := Lib.hid hd
              have HG6 := Lib.hid hg
              have HF6 := Lib.hid hf
              have HB6 := Lib.hid hB
              clear hd hg hf hB
              have g0 : w8.cell? ⟨gB, 0, none⟩ = some (.int .i64 k) := zak HG6.out 0
              have g2 : w8.cell? ⟨gB, 2, none⟩ = some (.int .i64 A) := zak HG6.out 2
              have g3 : w8.cell? ⟨gB, 3, none⟩ = some (.int .i64 B) := zak HG6.out 3
              have n4 : w8.cell? ⟨fB, 4, none⟩ = some (.bool f.a) := zak HF6.out 4
              have n5 : w8.cell? ⟨fB, 5, none⟩ = some (.bool f.b) := zak HF6.out 5
              have cur : w8.cell? ⟨b, i, none⟩ = some (.int .i64 (v)) := hDl ▸ HD6.out.at
              have cfz : w8.frozen? ⟨b, i, none⟩ = false := HD6.out.frozen i)
            go_wp2_with fail
            exact ⟨⟨i + 1, D ++ [v], rfl, by omega, by rw [zco]; rfl, by rw [HNX.out, hst, hst2, hst3], by rw [List.append_assoc, hZ]; exact HD6.out, HB6.out⟩, by simp only [intOf]; omega⟩
        · rw [hb] at n5
          obtain ⟨hB0, hB1⟩ : 0 ≤ B ∧ B < i := by have := HE.out; simp [hb] at this; exact this.2
          obtain ⟨c, rfl⟩ := Int.eq_ofNat_of_zero_le hB0
          have hcD : c < D.length := by omega
          have hcl : c < l0.length := by omega
          have ca : w5.cell? ⟨b, c, none⟩ = some (.int .i64 (D.getD c 0)) := HD5.out.before c hcD
          generalize hz : D.getD c 0 = z at *
          have hst2 : stepB f D (c : Int) x = (if x < z then z else x) := by simp only [stepB, mx, hb, if_true, Int.toNat_natCast, hz]
          generalize hy : (if x < z then z else x) = y at *
          go_upto_region 10 with (fail)
          have Ng0 : w5.drew.cell? ⟨gB, 0, none⟩ = some (.int .i64 k) := g0
          have Ng2 : w5.drew.cell? ⟨gB, 2, none⟩ = some (.int .i64 A) := g2
          have Ng3 : w5.drew.cell? ⟨gB, 3, none⟩ = some (.int .i64 (c : Int)) := g3
          have Nn4 : w5.drew.cell? ⟨fB, 4, none⟩ = some (.bool false) := n4
          have Nn5 : w5.drew.cell? ⟨fB, 5, none⟩ = some (.bool true) := n5
          have Ncur : w5.drew.cell? ⟨b, i, none⟩ = some (.int .i64 x) := cur
          have Ncfz : w5.drew.frozen? ⟨b, i, none⟩ = false := cfz
          have Nca : w5.drew.cell? ⟨b, c, none⟩ = some (.int .i64 z) := ca
          have HDD : Hid (Dp w5.drew b (D ++ x :: Z)) := HD5
          have HGD := Lib.hid (zad HG5.out)
          have HFD := Lib.hid (zad HF5.out)
          have HBD := Lib.hid (HB5.out.trans ((Below.refl _ w5).drew))
          clear g0 g2 g3 n4 n5 cur cfz ca HD5 HG5 HF5 HB5
          refine wp_region_still_tail 13 mixed (by kernel_rfl) ?_
          simp only [List.take_succ_cons, List.take_zero, List.drop_succ_cons, List.drop_zero]
          change wpStill _ _ w5.drew _ _ _
          repeat still_step
          try refine wpStill_nil ?_
          change wpList _ _ _ _ _ w5.drew
          generalize w5.drew = wd at *
          have g0 := Ng0
          have g2 := Ng2
          have g3 := Ng3
          have n4 := Nn4
          have n5 := Nn5
          have cur := Ncur
          have cfz := Ncfz
          have ca := Nca
          have HD5 := HDD
          have HG5 := HGD
          have HF5 := HFD
          have HB5 := HBD
          clear Ng0 Ng2 Ng3 Nn4 Nn5 Ncur Ncfz Nca HDD HGD HFD HBD
          go_upto_region 11 with (
            (with_reducible refine zbj (t := 3) (p := 50) rfl ?_)
            refine zbn (t := 3) (p := 50) (v := .tmp 49) (w1 := wd.setCell ⟨b, i, none⟩ (.int .i64 (y))) ?hg ?ho ?hn ?hr ?_
            (case ho => rfl)
            (case hg => rfl)
            (case hn => rfl)
            (case hr => first | (go_simp; done) | (go_simp; rfl))
            intro w7 hw
            obtain ⟨hd, hg, hf, hB⟩ := HD5.out.put (hDl ▸ hw) HG5.out hgb HF5.out hfb HB5.out hge (y)
            clear hw g0 g2 g3 n4 n5 cur cfz
            clear HD5 HG5 HF5 HB5
            have HD6 := Lib.hid hd
            have HG6 := Lib.hid hg
            have HF6 := Lib.hid hf
            have HB6 := Lib.hid hB
            clear hd hg hf hB
            have g0 : w7.cell? ⟨gB, 0, none⟩ = some (.int .i64 k) := zak HG6.out 0
            have g2 : w7.cell? ⟨gB, 2, none⟩ = some (.int .i64 A) := zak HG6.out 2
            have g3 : w7.cell? ⟨gB, 3, none⟩ = some (.int .i64 (c : Int)) := zak HG6.out 3
            have n4 : w7.cell? ⟨fB, 4, none⟩ = some (.bool f.a) := zak HF6.out 4
            have n5 : w7.cell? ⟨fB, 5, none⟩ = some (.bool f.b) := zak HF6.out 5
            have cur : w7.cell? ⟨b, i, none⟩ = some (.int .i64 (y)) := hDl ▸ HD6.out.at
            have cfz : w7.frozen? ⟨b, i, none⟩ = false := HD6.out.frozen i)
          clear ca
          have hyb : 0 ≤ y ∧ y ≤ i := by have := HST.out.2; rw [hst, hst2] at this; exact this
          cases hm : (k == 6)
          · have hst3 : zc0 k y = y := by simp [zc0, hm]
            go_upto_region 13 with (fail)
            go_wp2_with fail
            exact ⟨⟨i + 1, D ++ [y], rfl, by omega, by rw [zco]; rfl, by rw [HNX.out, hst, hst2, hst3], by rw [List.append_assoc, hZ]; exact HD6.out, HB6.out⟩, by simp only [intOf]; omega⟩
          · have hst3 : zc0 k y = y + 1 := by simp [zc0, hm]
            have hw1 : IntKind.i64.wrap (y + 1) = y + 1 := by simp [IntKind.wrap, IntKind.bits, IntKind.signed]; omega
            generalize hv : y + 1 = v at *
            go_upto_region 13 with (
              (with_reducible refine zbj (t := 3) (p := 59) rfl ?_)
              refine zbn (t := 3) (p := 59) (v := .tmp 58) (w1 := w7.setCell ⟨b, i, none⟩ (.int .i64 (v))) ?hg ?ho ?hn ?hr ?_
              (case ho => rfl)
              (case hg => rfl)
              (case hn => rfl)
              (case hr => first | (go_simp; done) | (go_simp; rfl))
              intro w8 hw
              obtain ⟨hd, hg, hf, hB⟩ := HD6.out.put (hDl ▸ hw) HG6.out hgb HF6.out hfb HB6.out hge (v)
              clear hw g0 g2 g3 n4 n5 cur cfz
              clear HD6 HG6 HF6 HB6
              have HD7 := Lib.hid hd
              have HG7 := Lib.hid hg
              have HF7 := Lib.hid hf
              have HB7 := Lib.hid hB
              clear hd hg hf hB
              have g0 : w8.cell? ⟨gB, 0, none⟩ = some (.int .i64 k) := zak HG7.out 0
              have g2 : w8.cell? ⟨gB, 2, none⟩ = some (.int .i64 A) := zak HG7.out 2
              have g3 : w8.cell? ⟨gB, 3, none⟩ = some (.int .i64 (c : Int)) := zak HG7.out 3
              have n4 : w8.cell? ⟨fB, 4, none⟩ = some (.bool f.a) := zak HF7.out 4
              have n5 : w8.cell? ⟨fB, 5, none⟩ = some (.bool f.b) := zak HF7.out 5
              have cur : w8.cell? ⟨b, i, none⟩ = some (.int .i64 (v)) := hDl ▸ HD7.out.at
              have cfz : w8.frozen? ⟨b, i, none⟩ = false := HD7.out.frozen i)
            go_wp2_with fail
            exact ⟨⟨i + 1, D ++ [v], rfl, by omega, by rw [zco]; rfl, by rw [HNX.out, hst, hst2, hst3], by rw [List.append_assoc, hZ]; exact HD7.out, HB7.out⟩, by simp only [intOf]; omega⟩
      · rw [ha] at n4
        obtain ⟨hA0, hA1⟩ : 0 ≤ A ∧ A < i := by have := HE.out; simp [ha] at this; exact this.1
        obtain ⟨a, rfl⟩ := Int.eq_ofNat_of_zero_le hA0
        have haD : a < D.length := by omega
        have hal : a < l0.length := by omega
        have ca : w5.cell? ⟨b, a, none⟩ = some (.int .i64 (D.getD a 0)) := HD5.out.before a haD
        generalize hx : D.getD a 0 = x at *
        have hst : stepA f D (a : Int) = x := by simp only [stepA, ha, if_true, Int.toNat_natCast]; exact hx
        go_upto_region 9 with (
          (with_reducible refine zbj (t := 3) (p := 35) rfl ?_)
          refine zbn (t := 3) (p := 35) (v := .tmp 34) (w1 := w5.setCell ⟨b, i, none⟩ (.int .i64 (x))) ?hg ?ho ?hn ?hr ?_
          (case ho => rfl)
          (case hg => rfl)
          (case hn => rfl)
          (case hr => first | (go_simp; done) | (go_simp; rfl))
          intro w6 hw
          obtain ⟨hd, hg, hf, hB⟩ := HD5.out.put (hDl ▸ hw) HG5.out hgb HF5.out hfb HB5.out hge (x)
          clear hw g0 g2 g3 n4 n5 cur cfz
          clear HD5 HG5 HF5 HB5
          have HD6 := Lib.hid hd
          have HG6 := Lib.hid hg
          have HF6 := Lib.hid hf
          have HB6 := Lib.hid hB
          clear hd hg hf hB
          have g0 : w6.cell? ⟨gB, 0, none⟩ = some (.int .i64 k) := zak HG6.out 0
          have g2 : w6.cell? ⟨gB, 2, none⟩ = some (.int .i64 (a : Int)) := zak HG6.out 2
          have g3 : w6.cell? ⟨gB, 3, none⟩ = some (.int .i64 B) := zak HG6.out 3
          have n4 : w6.cell? ⟨fB, 4, none⟩ = some (.bool f.a) := zak HF6.out 4
          have n5 : w6.cell? ⟨fB, 5, none⟩ = some (.bool f.b) := zak HF6.out 5
          have cur : w6.cell? ⟨b, i, none⟩ = some (.int .i64 (x)) := hDl ▸ HD6.out.at
          have cfz : w6.frozen? ⟨b, i, none⟩ = false := HD6.out.frozen i)
        clear ca
        cases hb : f.b
        · rw [hb] at n5
          obtain ⟨y, hy⟩ : ∃ y : Int, y = x := ⟨_, rfl⟩
          have hst2 : stepB f D B x = y := by simp [stepB, hb, hy]
          rw [← hy] at cur
          rw [← hy] at HD6
          clear hy
          go_upto_region 11 with (fail)
          have hyb : 0 ≤ y ∧ y ≤ i := by have := HST.out.2; rw [hst, hst2] at this; exact this
          cases hm : (k == 6)
          · have hst3 : zc0 k y = y := by simp [zc0, hm]
            go_upto_region 13 with (fail)
            go_wp2_with fail
            exact ⟨⟨i + 1, D ++ [y], rfl, by omega, by rw [zco]; rfl, by rw [HNX.out, hst, hst2, hst3], by rw [List.append_assoc, hZ]; exact HD6.out, HB6.out⟩, by simp only [intOf]; omega⟩
          · have hst3 : zc0 k y = y + 1 := by simp [zc0, hm]
            have hw1 : IntKind.i64.wrap (y + 1) = y + 1 := by simp [IntKind.wrap, IntKind.bits, IntKind.signed]; omega
            generalize hv : y + 1 = v at *
            go_upto_region 13 with (
              (with_reducible refine zbj (t := 3) (p := 59) rfl ?_)
              refine zbn (t := 3) (p := 59) (v := .tmp 58) (w1 := w6.setCell ⟨b, i, none⟩ (.int .i64 (v))) ?hg ?ho ?hn ?hr ?_
              (case ho => rfl)
              (case hg => rfl)
              (case hn => rfl)
              (case hr => first | (go_simp; done) | (go_simp; rfl))
              intro w8 hw
              obtain ⟨hd, hg, hf, hB⟩ := HD6.out.put (hDl ▸ hw) HG6.out hgb HF6.out hfb HB6.out hge (v)
              clear hw g0 g2 g3 n4 n5 cur cfz
              clear HD6 HG6 HF6 HB6
              have HD7 := Lib.hid hd
              have HG7 := Lib.hid hg
              have HF7 := Lib.hid hf
              have HB7 := Lib.hid hB
              clear hd hg hf hB
              have g0 : w8.cell? ⟨gB, 0, none⟩ = some (.int .i64 k) := zak HG7.out 0
              have g2 : w8.cell? ⟨gB, 2, none⟩ = some (.int .i64 (a : Int)) := zak HG7.out 2
              have g3 : w8.cell? ⟨gB, 3, none⟩ = some (.int .i64 B) := zak HG7.out 3
              have n4 : w8.cell? ⟨fB, 4, none⟩ = some (.bool f.a) := zak HF7.out 4
              have n5 : w8.cell? ⟨fB, 5, none⟩ = some (.bool f.b) := zak HF7.out 5
              have cur : w8.cell? ⟨b, i, none⟩ = some (.int .i64 (v)) := hDl ▸ HD7.out.at
              have cfz : w8.frozen? ⟨b, i, none⟩ = false := HD7.out.frozen i)
            go_wp2_with fail
            exact ⟨⟨i + 1, D ++ [v], rfl, by omega, by rw [zco]; rfl, by rw [HNX.out, hst, hst2, hst3], by rw [List.append_assoc, hZ]; exact HD7.out, HB7.out⟩, by simp only [intOf]; omega⟩
        · rw [hb] at n5
          obtain ⟨hB0, hB1⟩ : 0 ≤ B ∧ B < i := by have := HE.out; simp [hb] at this; exact this.2
          obtain ⟨c, rfl⟩ := Int.eq_ofNat_of_zero_le hB0
          have hcD : c < D.length := by omega
          have hcl : c < l0.length := by omega
          have ca : w6.cell? ⟨b, c, none⟩ = some (.int .i64 (D.getD c 0)) := HD6.out.before c hcD
          generalize hz : D.getD c 0 = z at *
          have hst2 : stepB f D (c : Int) x = (if x < z then z else x) := by simp only [stepB, mx, hb, if_true, Int.toNat_natCast, hz]
          generalize hy : (if x < z then z else x) = y at *
          go_upto_region 10 with (fail)
          have Ng0 : w6.drew.cell? ⟨gB, 0, none⟩ = some (.int .i64 k) := g0
          have Ng2 : w6.drew.cell? ⟨gB, 2, none⟩ = some (.int .i64 (a : Int)) := g2
          have Ng3 : w6.drew.cell? ⟨gB, 3, none⟩ = some (.int .i64 (c : Int)) := g3
          have Nn4 : w6.drew.cell? ⟨fB, 4, none⟩ = some (.bool f.a) := n4
          have Nn5 : w6.drew.cell? ⟨fB, 5, none⟩ = some (.bool true) := n5
          have Ncur : w6.drew.cell? ⟨b, i, none⟩ = some (.int .i64 x) := cur
          have Ncfz : w6.drew.frozen? ⟨b, i, none⟩ = false := cfz
          have Nca : w6.drew.cell? ⟨b, c, none⟩ = some (.int .i64 z) := ca
          have HDD : Hid (Dp w6.drew b (D ++ x :: Z)) := HD6
          have HGD := Lib.hid (zad HG6.out)
          have HFD := Lib.hid (zad HF6.out)
          have HBD := Lib.hid (HB6.out.trans ((Below.refl _ w6).drew))
          clear g0 g2 g3 n4 n5 cur cfz ca HD6 HG6 HF6 HB6
          refine wp_region_still_tail 13 mixed (by kernel_rfl) ?_
          simp only [List.take_succ_cons, List.take_zero, List.drop_succ_cons, List.drop_zero]
          change wpStill _ _ w6.drew _ _ _
          repeat still_step
          try refine wpStill_nil ?_
          change wpList _ _ _ _ _ w6.drew
          generalize w6.drew = wd at *
          have g0 := Ng0
          have g2 := Ng2
          have g3 := Ng3
          have n4 := Nn4
          have n5 := Nn5
          have cur := Ncur
          have cfz := Ncfz
          have ca := Nca
          have HD6 := HDD
          have HG6 := HGD
          have HF6 := HFD
          have HB6 := HBD
          clear Ng0 Ng2 Ng3 Nn4 Nn5 Ncur Ncfz Nca HDD HGD HFD HBD
          go_upto_region 11 with (
            (with_reducible refine zbj (t := 3) (p := 50) rfl ?_)
            refine zbn (t := 3) (p := 50) (v := .tmp 49) (w1 := wd.setCell ⟨b, i, none⟩ (.int .i64 (y))) ?hg ?ho ?hn ?hr ?_
            (case ho => rfl)
            (case hg => rfl)
            (case hn => rfl)
            (case hr => first | (go_simp; done) | (go_simp; rfl))
            intro w7 hw
            obtain ⟨hd, hg, hf, hB⟩ := HD6.out.put (hDl ▸ hw) HG6.out hgb HF6.out hfb HB6.out hge (y)
            clear hw g0 g2 g3 n4 n5 cur cfz
            clear HD6 HG6 HF6 HB6
            have HD7 := Lib.hid hd
            have HG7 := Lib.hid hg
            have HF7 := Lib.hid hf
            have HB7 := Lib.hid hB
            clear hd hg hf hB
            have g0 : w7.cell? ⟨gB, 0, none⟩ = some (.int .i64 k) := zak HG7.out 0
            have g2 : w7.cell? ⟨gB, 2, none⟩ = some (.int .i64 (a : Int)) := zak HG7.out 2
            have g3 : w7.cell? ⟨gB, 3, none⟩ = some (.int .i64 (c : Int)) := zak HG7.out 3
            have n4 : w7.cell? ⟨fB, 4, none⟩ = some (.bool f.a) := zak HF7.out 4
            have n5 : w7.cell? ⟨fB, 5, none⟩ = some (.bool f.b) := zak HF7.out 5
            have cur : w7.cell? ⟨b, i, none⟩ = some (.int .i64 (y)) := hDl ▸ HD7.out.at
            have cfz : w7.frozen? ⟨b, i, none⟩ = false := HD7.out.frozen i)
          clear ca
          have hyb : 0 ≤ y ∧ y ≤ i := by have := HST.out.2; rw [hst, hst2] at this; exact this
          cases hm : (k == 6)
          · have hst3 : zc0 k y = y := by simp [zc0, hm]
            go_upto_region 13 with (fail)
            go_wp2_with fail
            exact ⟨⟨i + 1, D ++ [y], rfl, by omega, by rw [zco]; rfl, by rw [HNX.out, hst, hst2, hst3], by rw [List.append_assoc, hZ]; exact HD7.out, HB7.out⟩, by simp only [intOf]; omega⟩
          · have hst3 : zc0 k y = y + 1 := by simp [zc0, hm]
            have hw1 : IntKind.i64.wrap (y + 1) = y + 1 := by simp [IntKind.wrap, IntKind.bits, IntKind.signed]; omega
            generalize hv : y + 1 = v at *
            go_upto_region 13 with (
              (with_reducible refine zbj (t := 3) (p := 59) rfl ?_)
              refine zbn (t := 3) (p := 59) (v := .tmp 58) (w1 := w7.setCell ⟨b, i, none⟩ (.int .i64 (v))) ?hg ?ho ?hn ?hr ?_
              (case ho => rfl)
              (case hg => rfl)
              (case hn => rfl)
              (case hr => first | (go_simp; done) | (go_simp; rfl))
              intro w8 hw
              obtain ⟨hd, hg, hf, hB⟩ := HD7.out.put (hDl ▸ hw) HG7.out hgb HF7.out hfb HB7.out hge (v)
              clear hw g0 g2 g3 n4 n5 cur cfz
              clear HD7 HG7 HF7 HB7
              have HD8 := Lib.hid hd
              have HG8 := Lib.hid hg
              have HF8 := Lib.hid hf
              have HB8 := Lib.hid hB
              clear hd hg hf hB
              have g0 : w8.cell? ⟨gB, 0, none⟩ = some (.int .i64 k) := zak HG8.out 0
              have g2 : w8.cell? ⟨gB, 2, none⟩ = some (.int .i64 (a : Int)) := zak HG8.out 2
              have g3 : w8.cell? ⟨gB, 3, none⟩ = some (.int .i64 (c : Int)) := zak HG8.out 3
              have n4 : w8.cell? ⟨fB, 4, none⟩ = some (.bool f.a) := zak HF8.out 4
              have n5 : w8.cell? ⟨fB, 5, none⟩ = some (.bool f.b) := zak HF8.out 5
              have cur : w8.cell? ⟨b, i, none⟩ = some (.int .i64 (v)) := hDl ▸ HD8.out.at
              have cfz : w8.frozen? ⟨b, i, none⟩ = false := HD8.out.frozen i)
            go_wp2_with fail
            exact ⟨⟨i + 1, D ++ [v], rfl, by omega, by rw [zco]; rfl, by rw [HNX.out, hst, hst2, hst3], by rw [List.append_assoc, hZ]; exact HD8.out, HB8.out⟩, by simp only [intOf]; omega⟩
    · have hil : i = l0.length := by omega
      have hv : maxAll (deps l0) = maxAll D := by rw [hD, hil, List.take_length]
      have HBC := Lib.hid hBw
      clear hD hBw hd
      go_wp2_with fail
      go_ret
      exact ⟨by rw [hv]; rfl, HBC.out⟩
end Go.Proofs.YtmnleabeipmhmaaDoor.P
end
