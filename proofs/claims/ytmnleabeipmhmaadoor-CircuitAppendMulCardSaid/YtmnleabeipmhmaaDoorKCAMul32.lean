/- What is proved here: a part of the proof of CircuitAppendMul: Cma. No conditions beside those that each theorem states. -/
import Derived.Test.YtmnleabeipmhmaaDoorKCAMul31
import Derived.Test.YtmnleabeipmhmaaDoorKCAMul23
import Derived.Deep.RegionWith
import Derived.BigQuiet
section
set_option linter.unusedVariables false
set_option linter.unusedSimpArgs false
namespace Go.Proofs.YtmnleabeipmhmaaDoor.P
open Go.RowKit Go.Proofs.YtmnleabeipmhmaaDoorW.PrintWords Go.Proofs.YtmnleabeipmhmaaDoorW.PrintLast Go.Proofs.YtmnleabeipmhmaaDoorW.PrintMore
def zbh (n : Int) : Int := if n > 20000 then -1 else wrap64 n
def cntF (f : Form) : Nat := (zcy f 0 0 0 0).length
theorem cntF_eq (f : Form) (b c d e : Int) : (zcy f b c d e).length = cntF f := by
  unfold cntF zcy
  simp only [List.length_append]
  congr 1
  · split <;> rfl
  · congr 1
    · split <;> rfl
    · congr 1 <;> (split <;> rfl)
def kF (f : Form) (l : List Int) : Int := if f.k then zbm true (za4 f.from_ l) else if f.bit then 1 else 0
def kL (f : Form) (l : List Int) : List Int := if f.k then za4 true (za4 f.from_ l) else za4 f.from_ l
def zc3 (f : Form) (l : List Int) : S43 := ⟨f.kind, zbh (zbm f.from_ l), zbh (zbm f.a (kL f l)), zbh (zbm f.b (za4 f.a (kL f l))), kF f l⟩
def madeG (f : Form) (P : Int) (l : List Int) (at_ : Int) : S43 × Bool :=
  if l.length = cntF f then (zc3 f l, zcj P at_ (zc3 f l).f0 (zc3 f l).f1 (zc3 f l).f2 (zc3 f l).f3 (zc3 f l).f4) else (z43, false)
def wordNe (f : Form) (word : ByteArray) : Bool := !(f.word == word.toList)
def madeF (P : Int) (word : ByteArray) (l : List Int) (at_ : Int) : S43 × Bool := match forms.find? (fun f => !wordNe f word) with
  | some f => madeG f P l at_
  | none => (z43, false)
theorem zcb (n : Int) (w : World) : Calls Tryd.prog 60 #[.int .u64 n] w fun e w' => e = .returned (.int .i64 (zbh n)) ∧ Below w.heap.size w w' := small_calls n w
structure MS (w W : World) (b rB fB gB : Nat) (l : List Int) (f : Form) (gc : Array Value) : Prop where
  nb : NumBox w W b l
  r : W.heap[rB]? = some (.cells #[.int .i64 0, .int .i64 0, .int .i64 0, .int .i64 0, .int .u64 0] 43 (0, 0))
  f : W.heap[fB]? = some (.cells #[.string ⟨f.word.toArray⟩, .int .i64 f.kind, .bool f.from_, .bool f.k, .bool f.a, .bool f.b, .bool f.bit] 50 (0, 0))
  g : W.heap[gB]? = some (.cells gc 43 (0, 0))
  below : Below w.heap.size w W
  bg : gB ≠ b
  rg : gB ≠ rB
  fg : gB ≠ fB
  br : rB ≠ b
  bf : fB ≠ b
  lo : w.heap.size ≤ b
  lg : w.heap.size ≤ gB
theorem MS.kept {w W W' : World} {b rB fB gB : Nat} {l : List Int} {f : Form} {gc : Array Value} (h : MS w W b rB fB gB l f gc) (hb : Below W.heap.size W W') : MS w W' b rB fB gB l f gc :=
  ⟨h.nb.kept hb, zbl h.r hb, zbl h.f hb, zbl h.g hb, h.below.trans (hb.mono h.below.size), h.bg, h.rg, h.fg, h.br, h.bf, h.lo, h.lg⟩
theorem MS.only {w W W' : World} {b rB fB gB : Nat} {l l' : List Int} {f : Form} {gc : Array Value} (h : MS w W b rB fB gB l f gc) (hn : NumBox w W' b l') (ho : OnlyB b W W') : MS w W' b rB fB gB l' f gc :=
  ⟨hn, (ho.block _ h.br).trans h.r, (ho.block _ h.bf).trans h.f, (ho.block _ h.bg).trans h.g, h.below.trans (ho.below h.lo), h.bg, h.rg, h.fg, h.br, h.bf, h.lo, h.lg⟩
theorem MS.put {w W W' : World} {b rB fB gB : Nat} {l : List Int} {f : Form} {gc : Array Value} (h : MS w W b rB fB gB l f gc) (i : Nat) (v : Value) (hw : W' = W.setCell ⟨gB, i, none⟩ v) : MS w W' b rB fB gB l f (gc.setIfInBounds i v) := by
  subst hw
  exact ⟨h.nb.far ⟨gB, i, none⟩ h.bg h.lg v, zaq h.r (p := ⟨gB, i, none⟩) (Ne.symm h.rg) v, zaq h.f (p := ⟨gB, i, none⟩) (Ne.symm h.fg) v, blk_set h.g i v, h.below.setCell (p := ⟨gB, i, none⟩) h.lg v, h.bg, h.rg, h.fg, h.br, h.bf, h.lo, h.lg⟩
theorem MS.cell {w W : World} {b rB fB gB : Nat} {l : List Int} {f : Form} {gc : Array Value} (h : MS w W b rB fB gB l f gc) (i : Nat) : W.cell? ⟨gB, i, none⟩ = gc[i]? := zak h.g i
theorem MS.fz {w W : World} {b rB fB gB : Nat} {l : List Int} {f : Form} {gc : Array Value} (h : MS w W b rB fB gB l f gc) (i : Nat) : W.frozen? ⟨gB, i, none⟩ = false := zaa h.g i
set_option maxHeartbeats 16000000 in
set_option maxRecDepth 100000 in
theorem made_calls (P : Int) (word : ByteArray) (l : List Int) (at_ : Int) (A : Option Addr) (c : Nat) (w : World) (hLd : Ld w) (hr : Kd.C (Kd.int .u64) w A l.length l) (hc : l.length ≤ c) :
    Calls Tryd.prog 61 #[.int .u64 P, .string word, .slice A l.length c, .int .i64 at_] w
      fun r w' => r = .returned (.tuple #[.agg #[.int .i64 (madeF P word l at_).1.f0, .int .i64 (madeF P word l at_).1.f1, .int .i64 (madeF P word l at_).1.f2, .int .i64 (madeF P word l at_).1.f3, .int .u64 (madeF P word l at_).1.f4], .bool (madeF P word l at_).2]) ∧ Below w.heap.size w w' := by
  obtain ⟨ft, ffr, hft⟩ := hLd.2.1
  have hlt : 0 < w.heap.size := (Array.getElem?_eq_some_iff.1 hft).1
  have hmf : ∀ (fn : Fn) (first cap : Array Value) (w : World), (Instr.makeFunc fn first cap).run Tryd.prog w = .ok (.func fn first cap) w := fun _ _ _ _ => rfl
  have hml : l.length ≤ 9223372036854775807 := hr.2.1
  have HLD := Lib.hid hLd
  have HR := Lib.hid hr
  clear hLd hr
  go_enter Tryd.func61, Tryd.ntmps61
  go_upto_region 1 with (fail)
  have hx0 : ((w.alloc (.cells #[.slice A l.length c] 62)).alloc (.cells #[.int .i64 0, .int .i64 0, .int .i64 0, .int .i64 0, .int .u64 0] 43)).heap[w.heap.size]? = some (.cells #[.slice A l.length c] 62 (0, 0)) := by
    rw [zcp _ _ _ (by rw [zcq]; omega)]; exact heap_alloc_new _ _
  have hx1 : ((w.alloc (.cells #[.slice A l.length c] 62)).alloc (.cells #[.int .i64 0, .int .i64 0, .int .i64 0, .int .i64 0, .int .u64 0] 43)).heap[w.heap.size + 1]? = some (.cells #[.int .i64 0, .int .i64 0, .int .i64 0, .int .i64 0, .int .u64 0] 43 (0, 0)) := heap_alloc2_new _ _ _
  have hB : Below w.heap.size w ((w.alloc (.cells #[.slice A l.length c] 62)).alloc (.cells #[.int .i64 0, .int .i64 0, .int .i64 0, .int .i64 0, .int .u64 0] 43)) := zao (zao (Below.refl _ _) _) _
  generalize hW : ((w.alloc (.cells #[.slice A l.length c] 62)).alloc (.cells #[.int .i64 0, .int .i64 0, .int .i64 0, .int .i64 0, .int .u64 0] 43)) = W1 at *
  clear hW
  have HFT := Lib.hid (zbl hft hB)
  have HX0 := Lib.hid hx0
  have HX1 := Lib.hid hx1
  have HB := Lib.hid hB
  clear hx0 hx1 hB hft hlt
  go_wp2_with (refine wpList_load_row rfl 88 (.global 0) rfl 0 rfl ft formsCells.toArray ffr _ HFT.out Tryd.underlying88 rfl (by kernel_rfl) ?_)
  go_loopw [11, 12, 13, 14, 16] (fun _ _ _ _ v16 wr => ∃ i : Nat, v16 = .int .i64 i ∧ i ≤ 7 ∧ (∀ j (f : Form), j < i → forms[j]? = some f → wordNe f word = true) ∧ wr.heap[w.heap.size]? = some (.cells #[.slice A l.length c] 62 (0, 0)) ∧ wr.heap[w.heap.size + 1]? = some (.cells #[.int .i64 0, .int .i64 0, .int .i64 0, .int .i64 0, .int .u64 0] 43 (0, 0)) ∧ Below w.heap.size w wr) (fun _ _ _ _ v16 _ => (7 - intOf v16).toNat)
  case atStart => exact ⟨0, rfl, by omega, fun j f hj => absurd hj (Nat.not_lt_zero _), HX0.out, HX1.out, HB.out⟩
  case round =>
    clear HX0 HX1 HB HFT
    obtain ⟨i, rfl, hi, hno, hx0, hx1, hB⟩ := hrel
    have HX0 := Lib.hid hx0
    have HX1 := Lib.hid hx1
    have HB := Lib.hid hB
    clear hx0 hx1 hB
    by_cases hi7 : i = 7
    · subst hi7
      have hnone : madeF P word l at_ = (z43, false) := by
        have : forms.find? (fun f => !wordNe f word) = none := by
          rw [List.find?_eq_none]
          intro f hf
          obtain ⟨j, hj, rfl⟩ := List.getElem_of_mem hf
          have hj7 : j < 7 := by simpa [forms] using hj
          rw [hno j _ hj7 (List.getElem?_eq_getElem hj)]; simp
        rw [madeF, this]
      clear hno
      go_wp2_with (
        (refine zbj (t := 43) (p := 8) (v := .tmp 68) rfl ?_)
        refine wpList_store_row rfl 43 (.tmp 8) (.tmp 68) rfl (w.heap.size + 1) #[.int .i64 0, .int .i64 0, .int .i64 0, .int .i64 0, .int .u64 0] ?e1 ?e2 43 #[.int .i64 0, .int .i64 0, .int .i64 0, .int .i64 0, .int .u64 0] HX1.out ?e4 ?e5 ?e6 ?_
        (case e1 => rfl)
        (case e2 => rfl)
        (case e4 => kernel_rfl)
        (case e5 => rfl)
        (case e6 => simp [Value.oneCell'])
        have hx2 := setRow_heap wr (w.heap.size + 1) _ #[.int .i64 0, .int .i64 0, .int .i64 0, .int .i64 0, .int .u64 0] _ _ HX1.out
        have hB2 := below_setRow HB.out (Nat.le_succ w.heap.size) #[.int .i64 0, .int .i64 0, .int .i64 0, .int .i64 0, .int .u64 0]
        clear HX0 HX1 HB
        generalize wr.setRow (w.heap.size + 1) #[.int .i64 0, .int .i64 0, .int .i64 0, .int .i64 0, .int .u64 0] = w2 at *)
      (try simp only [Exit.inBlock, Exit.then])
      refine bodyPost_ret (zbu rfl _ w2 (w.heap.size + 1) _ _ _ _ rfl hx2 Tryd.underlying43 rfl (by kernel_rfl)) rfl ?_
      rw [hnone]
      exact ⟨rfl, hB2⟩
    · have hlt7 : i < 7 := by omega
      obtain ⟨f, hf⟩ : ∃ f, forms[i]? = some f := ⟨forms[i]'(by simpa [forms] using hlt7), List.getElem?_eq_getElem _⟩
      have hidx : ∀ W', (Instr.index 88 (.agg formsCells.toArray) (.int .i64 i)).run Tryd.prog W' = .ok (.agg #[.string ⟨f.word.toArray⟩, .int .i64 f.kind, .bool f.from_, .bool f.k, .bool f.a, .bool f.b, .bool f.bit]) W' := by
        intro W'
        have h1 := form_index i hlt7 W'
        have h2 : forms[i]'(by simpa [forms] using hlt7) = f := by
          have h3 := List.getElem?_eq_getElem (l := forms) (i := i) (by simpa [forms] using hlt7)
          exact Option.some.inj (h3.symm.trans hf)
        rw [h2] at h1
        exact h1
      have hil : decide (i < 7) = true := decide_eq_true hlt7
      have GO : Hid (wordNe f word = true → ∀ (j : Nat) (g : Form), j < i + 1 → forms[j]? = some g → wordNe g word = true) := Lib.hid (by
        intro h j g hj hg
        rcases Nat.lt_succ_iff_lt_or_eq.1 hj with h1 | h1
        · exact hno j g h1 hg
        · subst h1; rw [hf] at hg; cases hg; exact h)
      have FO : Hid (wordNe f word = false → madeF P word l at_ = madeG f P l at_) := Lib.hid (by
        intro h
        have : forms.find? (fun g => !wordNe g word) = some f := by
          rw [List.find?_eq_some_iff_getElem]
          obtain ⟨hj, he⟩ := List.getElem?_eq_some_iff.1 hf
          refine ⟨by rw [h]; rfl, i, hj, he, fun j hj2 => ?_⟩
          rw [hno j _ hj2 (List.getElem?_eq_getElem (by omega))]; rfl
        rw [madeF, this])
      clear hno hf
      go_upto_region 4 with (
        refine wpList_store_row rfl 50 (.tmp 11) (.tmp 18) rfl wr.heap.size #[.string ⟨f.word.toArray⟩, .int .i64 f.kind, .bool f.from_, .bool f.k, .bool f.a, .bool f.b, .bool f.bit] ?e1 ?e2 50 #[.string ⟨#[]⟩, .int .i64 0, .bool false, .bool false, .bool false, .bool false, .bool false] (heap_alloc_new wr _) ?e4 ?e5 ?e6 ?_
        (case e1 => rfl)
        (case e2 => rfl)
        (case e4 => kernel_rfl)
        (case e5 => rfl)
        (case e6 => simp [Value.oneCell'])
        rw [World.setRow_alloc_new]
        have hn := heap_alloc_new wr (.cells #[.string ⟨f.word.toArray⟩, .int .i64 f.kind, .bool f.from_, .bool f.k, .bool f.a, .bool f.b, .bool f.bit] 50)
        have hb := zao (Below.refl wr.heap.size wr) (.cells #[.string ⟨f.word.toArray⟩, .int .i64 f.kind, .bool f.from_, .bool f.k, .bool f.a, .bool f.b, .bool f.bit] 50)
        have hs := zcq wr (.cells #[.string ⟨f.word.toArray⟩, .int .i64 f.kind, .bool f.from_, .bool f.k, .bool f.a, .bool f.b, .bool f.bit] 50)
        have HS : Hid (wr.heap.size ≠ w.heap.size ∧ wr.heap.size ≠ w.heap.size + 1) := Lib.hid (by have := zbg HX1.out; omega)
        have HXa := Lib.hid (zbl HX0.out hb)
        have HXb := Lib.hid (zbl HX1.out hb)
        have HB2 := Lib.hid (HB.out.trans (hb.mono HB.out.size))
        generalize wr.alloc (.cells #[.string ⟨f.word.toArray⟩, .int .i64 f.kind, .bool f.from_, .bool f.k, .bool f.a, .bool f.b, .bool f.bit] 50) = w2 at *
        have HS2 : Hid (wr.heap.size < w2.heap.size) := Lib.hid (by omega)
        generalize wr.heap.size = fB at *
        have HF2 := Lib.hid hn
        have n0 : w2.cell? ⟨fB, 0, none⟩ = some (.string ⟨f.word.toArray⟩) := zak HF2.out 0
        clear hn hb hs HX0 HX1 HB hidx)
      clear hil hi
      cases hw : (f.word == word.toList)
      · have HNO := Lib.hid (GO.out (by rw [wordNe, hw]; rfl))
        clear GO FO
        go_wp2_with fail
        exact ⟨⟨i + 1, rfl, by omega, HNO.out, HXa.out, HXb.out, HB2.out⟩, by simp only [intOf]; omega⟩
      · have hmd := FO.out (by rw [wordNe, hw]; rfl)
        have hmd2 : madeF P word l at_ = if l.length = cntF f then (zc3 f l, zcj P at_ (zc3 f l).f0 (zc3 f l).f1 (zc3 f l).f2 (zc3 f l).f3 (zc3 f l).f4) else (z43, false) := hmd
        have HMD := Lib.hid hmd2
        clear hmd hmd2 GO FO
        have n1 : w2.cell? ⟨fB, 1, none⟩ = some (.int .i64 f.kind) := zak HF2.out 1
        go_upto_region 6 with (
          refine wpList_store_row rfl 43 (.tmp 12) (.tmp 25) rfl w2.heap.size #[.int .i64 f.kind, .int .i64 0, .int .i64 0, .int .i64 0, .int .u64 0] ?e1 ?e2 43 #[.int .i64 0, .int .i64 0, .int .i64 0, .int .i64 0, .int .u64 0] (heap_alloc_new w2 _) ?e4 ?e5 ?e6 ?_
          (case e1 => rfl)
          (case e2 => rfl)
          (case e4 => kernel_rfl)
          (case e5 => rfl)
          (case e6 => simp [Value.oneCell'])
          rw [World.setRow_alloc_new]
          have hn := heap_alloc_new w2 (.cells #[.int .i64 f.kind, .int .i64 0, .int .i64 0, .int .i64 0, .int .u64 0] 43)
          have hb := zao (Below.refl w2.heap.size w2) (.cells #[.int .i64 f.kind, .int .i64 0, .int .i64 0, .int .i64 0, .int .u64 0] 43)
          have hM : MS w (w2.alloc (.cells #[.int .i64 f.kind, .int .i64 0, .int .i64 0, .int .i64 0, .int .u64 0] 43)) w.heap.size (w.heap.size + 1) fB w2.heap.size l f #[.int .i64 f.kind, .int .i64 0, .int .i64 0, .int .i64 0, .int .u64 0] :=
            ⟨⟨A, c, zbl HXa.out hb, HR.out, hc, HB2.out.trans (hb.mono HB2.out.size), Nat.le_refl _⟩, zbl HXb.out hb, zbl HF2.out hb, hn, HB2.out.trans (hb.mono HB2.out.size), by have := zbg HXb.out; omega, by have := zbg HXb.out; omega, by have := HS2.out; omega, by omega, HS.out.1, Nat.le_refl _, HB2.out.size⟩
          have HX3 := Lib.hid (zbl HXa.out hb)
          generalize w2.alloc (.cells #[.int .i64 f.kind, .int .i64 0, .int .i64 0, .int .i64 0, .int .u64 0] 43) = w3 at *
          generalize w2.heap.size = gB at *
          have M := Lib.hid hM
          clear hn hb hM n0 n1 HXa HXb HB2 HF2 HS HS2)
        have n6 : w3.cell? ⟨fB, 6, none⟩ = some (.bool f.bit) := zak M.out.f 6
        have g4 : w3.cell? ⟨gB, 4, none⟩ = some (.int .u64 0) := M.out.cell 4
        have z4 : w3.frozen? ⟨gB, 4, none⟩ = false := M.out.fz 4
        cases hbit : f.bit
        · rw [hbit] at n6
          have HBIT := Lib.hid hbit
          clear hbit
          go_upto_region 8 with (fail)
          clear g4 z4 n6
          have hnc := numbers_calls f f.kind 0 0 0 0
          have hcn := cntF_eq f 0 0 0 0
          have hkk : (if f.bit then (1 : Int) else 0) = 0 := by rw [HBIT.out]; rfl
          generalize zcy f 0 0 0 0 = ns at hnc hcn
          have HNC := Lib.hid hnc
          have HCN := Lib.hid hcn
          have HKK := Lib.hid hkk
          clear hnc hcn hkk
          go_upto_region 10 with (first
            | (refine wpList_load_row rfl 50 (.tmp 11) rfl fB rfl 50 #[.string ⟨f.word.toArray⟩, .int .i64 f.kind, .bool f.from_, .bool f.k, .bool f.a, .bool f.b, .bool f.bit] (0, 0) _ M.out.f Tryd.underlying50 rfl (by kernel_rfl) ?_)
            | (refine wpList_load_row rfl 43 (.tmp 12) rfl gB rfl 43 #[.int .i64 f.kind, .int .i64 0, .int .i64 0, .int .i64 0, .int .u64 0] (0, 0) _ M.out.g Tryd.underlying43 rfl (by kernel_rfl) ?_)
            | (go_at_call 35
               refine (HNC.out w3).mono ?_
               rintro e w5 ⟨v, rfl, hRv, hb⟩
               obtain ⟨A9, c9, rfl⟩ := Kd.R_slice hRv
               have HX5 := Lib.hid (zbl HX3.out hb)
               have M5 := Lib.hid (M.out.kept hb)
               have q0 : w5.cell? ⟨w.heap.size, 0, none⟩ = some (.slice A l.length c) := zak HX5.out 0
               clear hRv hb HX3 HX5 HNC M))
          cases hcc : ((l.length : Int) != (ns.length : Int))
          · have hcl : l.length = cntF f := by
              have h := HCN.out
              have h2 : (l.length : Int) = (ns.length : Int) := by simpa using hcc
              omega
            have hmd := HMD.out
            rw [if_pos hcl] at hmd
            have HM2 := Lib.hid hmd
            clear hmd hcl HMD HCN
            go_upto_region 12 with (fail)
            clear q0 hcc
            have m2 : w5.cell? ⟨fB, 2, none⟩ = some (.bool f.from_) := zak M5.out.f 2
            go_upto_region 13 with (first
              | (go_at_call 75
                 refine (zci f.from_ l w.heap.size w w5 M5.out.nb).mono ?_
                 rintro e w6 ⟨rfl, hnb, ho⟩
                 have Mw6 := Lib.hid (M5.out.only hnb ho)
                 clear hnb ho m2 M5)
              | (go_at_call 60
                 refine (zcb (zbm f.from_ l) w6).mono ?_
                 rintro e w7 ⟨rfl, hb⟩
                 have Mw7 := Lib.hid (Mw6.out.kept hb)
                 clear hb
                 have cur : w7.cell? ⟨gB, 1, none⟩ = some (.int .i64 0) := Mw7.out.cell 1; have cfz : w7.frozen? ⟨gB, 1, none⟩ = false := Mw7.out.fz 1; clear Mw6)
              | ((with_reducible refine zbj (t := 3) (p := 44) rfl ?_)
                 refine zbn (t := 3) (p := 44) (v := .tmp 43) (w1 := w7.setCell ⟨gB, 1, none⟩ (.int .i64 (zbh (zbm f.from_ l)))) ?hg ?ho ?hn ?hr ?_
                 (case ho => rfl)
                 (case hg => rfl)
                 (case hn => rfl)
                 (case hr => first | (go_simp; done) | (go_simp; rfl))
                 intro w8 hw
                 have hM : MS w w8 w.heap.size (w.heap.size + 1) fB gB (za4 f.from_ l) f #[.int .i64 f.kind, .int .i64 (zbh (zbm f.from_ l)), .int .i64 0, .int .i64 0, .int .u64 0] := Mw7.out.put 1 _ hw
                 have Mw8 := Lib.hid hM
                 clear hM hw cur cfz Mw7))
            have m3 : w8.cell? ⟨fB, 3, none⟩ = some (.bool f.k) := zak Mw8.out.f 3
            cases hk : f.k
            · rw [hk] at m3
              have HK := Lib.hid hk
              clear hk
              go_upto_region 15 with (fail)
              clear m3
              have hkL : kL f l = (za4 f.from_ l) := by simp [kL, HK.out]
              have hkF : kF f l = 0 := by have h := HKK.out; unfold kF; rw [HK.out]; exact h
              have HKL := Lib.hid hkL
              have HKF := Lib.hid hkF
              clear hkL hkF
              have m4 : w8.cell? ⟨fB, 4, none⟩ = some (.bool f.a) := zak Mw8.out.f 4
              go_upto_region 16 with (first
                | (go_at_call 75
                   refine (zci f.a (za4 f.from_ l) w.heap.size w w8 Mw8.out.nb).mono ?_
                   rintro e w11 ⟨rfl, hnb, ho⟩
                   have Mw11 := Lib.hid (Mw8.out.only hnb ho)
                   clear hnb ho m4 Mw8)
                | (go_at_call 60
                   refine (zcb (zbm f.a (za4 f.from_ l)) w11).mono ?_
                   rintro e w12 ⟨rfl, hb⟩
                   have Mw12 := Lib.hid (Mw11.out.kept hb)
                   clear hb
                   have cur : w12.cell? ⟨gB, 2, none⟩ = some (.int .i64 0) := Mw12.out.cell 2; have cfz : w12.frozen? ⟨gB, 2, none⟩ = false := Mw12.out.fz 2; clear Mw11)
                | ((with_reducible refine zbj (t := 3) (p := 55) rfl ?_)
                   refine zbn (t := 3) (p := 55) (v := .tmp 54) (w1 := w12.setCell ⟨gB, 2, none⟩ (.int .i64 (zbh (zbm f.a (za4 f.from_ l))))) ?hg ?ho ?hn ?hr ?_
                   (case ho => rfl)
                   (case hg => rfl)
                   (case hn => rfl)
                   (case hr => first | (go_simp; done) | (go_simp; rfl))
                   intro w13 hw
                   have hM : MS w w13 w.heap.size (w.heap.size + 1) fB gB (za4 f.a (za4 f.from_ l)) f #[.int .i64 f.kind, .int .i64 (zbh (zbm f.from_ l)), .int .i64 (zbh (zbm f.a (za4 f.from_ l))), .int .i64 0, .int .u64 0] := Mw12.out.put 2 _ hw
                   have Mw13 := Lib.hid hM
                   clear hM hw cur cfz Mw12))
              have m5 : w13.cell? ⟨fB, 5, none⟩ = some (.bool f.b) := zak Mw13.out.f 5
              go_upto_region 17 with (first
                | (go_at_call 75
                   refine (zci f.b (za4 f.a (za4 f.from_ l)) w.heap.size w w13 Mw13.out.nb).mono ?_
                   rintro e w14 ⟨rfl, hnb, ho⟩
                   have Mw14 := Lib.hid (Mw13.out.only hnb ho)
                   clear hnb ho m5 Mw13)
                | (go_at_call 60
                   refine (zcb (zbm f.b (za4 f.a (za4 f.from_ l))) w14).mono ?_
                   rintro e w15 ⟨rfl, hb⟩
                   have Mw15 := Lib.hid (Mw14.out.kept hb)
                   clear hb
                   have cur : w15.cell? ⟨gB, 3, none⟩ = some (.int .i64 0) := Mw15.out.cell 3; have cfz : w15.frozen? ⟨gB, 3, none⟩ = false := Mw15.out.fz 3; clear Mw14)
                | ((with_reducible refine zbj (t := 3) (p := 61) rfl ?_)
                   refine zbn (t := 3) (p := 61) (v := .tmp 60) (w1 := w15.setCell ⟨gB, 3, none⟩ (.int .i64 (zbh (zbm f.b (za4 f.a (za4 f.from_ l)))))) ?hg ?ho ?hn ?hr ?_
                   (case ho => rfl)
                   (case hg => rfl)
                   (case hn => rfl)
                   (case hr => first | (go_simp; done) | (go_simp; rfl))
                   intro w16 hw
                   have hM : MS w w16 w.heap.size (w.heap.size + 1) fB gB (za4 f.b (za4 f.a (za4 f.from_ l))) f #[.int .i64 f.kind, .int .i64 (zbh (zbm f.from_ l)), .int .i64 (zbh (zbm f.a (za4 f.from_ l))), .int .i64 (zbh (zbm f.b (za4 f.a (za4 f.from_ l)))), .int .u64 0] := Mw15.out.put 3 _ hw
                   have Mw16 := Lib.hid hM
                   clear hM hw cur cfz Mw15))
              have hu := Tryd.underlying43
              have MD : Hid (MS w w16.drew w.heap.size (w.heap.size + 1) fB gB (za4 f.b (za4 f.a (za4 f.from_ l))) f #[.int .i64 f.kind, .int .i64 (zbh (zbm f.from_ l)), .int .i64 (zbh (zbm f.a (za4 f.from_ l))), .int .i64 (zbh (zbm f.b (za4 f.a (za4 f.from_ l)))), .int .u64 0]) := Lib.hid (Mw16.out.kept ((Below.refl _ w16).drew))
              have hS : w16.drew.cell? ⟨gB, 0, none⟩ = some (.int .i64 f.kind) ∧ w16.drew.cell? ⟨gB, 1, none⟩ = some (.int .i64 (zbh (zbm f.from_ l))) ∧ w16.drew.cell? ⟨gB, 2, none⟩ = some (.int .i64 (zbh (zbm f.a (za4 f.from_ l)))) ∧ w16.drew.cell? ⟨gB, 3, none⟩ = some (.int .i64 (zbh (zbm f.b (za4 f.a (za4 f.from_ l))))) ∧ w16.drew.cell? ⟨gB, 4, none⟩ = some (.int .u64 0) := ⟨MD.out.cell 0, MD.out.cell 1, MD.out.cell 2, MD.out.cell 3, MD.out.cell 4⟩
              clear Mw16
              generalize hv1 : zbh (zbm f.from_ l) = v1 at *
              generalize hv2 : zbh (zbm f.a (za4 f.from_ l)) = v2 at *
              generalize hv3 : zbh (zbm f.b (za4 f.a (za4 f.from_ l))) = v3 at *
              generalize (za4 f.b (za4 f.a (za4 f.from_ l))) = lz at *
              have HV1 := Lib.hid hv1
              have HV2 := Lib.hid hv2
              have HV3 := Lib.hid hv3
              clear hv1 hv2 hv3
              obtain ⟨s0, s1, s2, s3, s4⟩ := hS
              go_region_with (first
                | (go_at_call 48
                   refine (right_calls P f.kind v1 v2 v3 0 at_ w16.drew (HLD.out.below MD.out.below)).mono ?_
                   rintro e w17 ⟨rfl, hb⟩
                   have M17 := Lib.hid (MD.out.kept hb)
                   have k17 : w17.cell? ⟨gB, 0, none⟩ = some (.int .i64 f.kind) ∧ w17.cell? ⟨gB, 1, none⟩ = some (.int .i64 v1) ∧ w17.cell? ⟨gB, 2, none⟩ = some (.int .i64 v2) ∧ w17.cell? ⟨gB, 3, none⟩ = some (.int .i64 v3) ∧ w17.cell? ⟨gB, 4, none⟩ = some (.int .u64 0) := ⟨M17.out.cell 0, M17.out.cell 1, M17.out.cell 2, M17.out.cell 3, M17.out.cell 4⟩
                   obtain ⟨k0, k1, k2, k3, k4⟩ := k17
                   have r0 : w17.cell? ⟨w.heap.size + 1, 0, none⟩ = some (.int .i64 0) := zak M17.out.r 0
                   have r1 : w17.cell? ⟨w.heap.size + 1, 1, none⟩ = some (.int .i64 0) := zak M17.out.r 1
                   have r2 : w17.cell? ⟨w.heap.size + 1, 2, none⟩ = some (.int .i64 0) := zak M17.out.r 2
                   have r3 : w17.cell? ⟨w.heap.size + 1, 3, none⟩ = some (.int .i64 0) := zak M17.out.r 3
                   have r4 : w17.cell? ⟨w.heap.size + 1, 4, none⟩ = some (.int .u64 0) := zak M17.out.r 4
                   have f0 : w17.frozen? ⟨w.heap.size + 1, 0, none⟩ = false := zaa M17.out.r 0
                   have f1 : w17.frozen? ⟨w.heap.size + 1, 1, none⟩ = false := zaa M17.out.r 1
                   have f2 : w17.frozen? ⟨w.heap.size + 1, 2, none⟩ = false := zaa M17.out.r 2
                   have f3 : w17.frozen? ⟨w.heap.size + 1, 3, none⟩ = false := zaa M17.out.r 3
                   have f4 : w17.frozen? ⟨w.heap.size + 1, 4, none⟩ = false := zaa M17.out.r 4
                   clear hb))
              all_goals
                go_wp2_with fail
                (try simp only [Exit.inBlock, Exit.then])
                refine bodyPost_ret (zbu rfl _ _ (w.heap.size + 1) _ _ _ _ rfl (zap (zap (zap (zap (zap M17.out.r 0 _ (by rfl)) 1 _ (by rfl)) 2 _ (by rfl)) 3 _ (by rfl)) 4 _ (by rfl)) Tryd.underlying43 rfl (by kernel_rfl)) rfl ?_
                rw [HM2.out]
                simp only [zc3, HKL.out, HKF.out, HV1.out, HV2.out, HV3.out]
                exact ⟨rfl, ((((M17.out.below.setCell (p := ⟨_, 0, none⟩) (Nat.le_succ _) _).setCell (p := ⟨_, 1, none⟩) (Nat.le_succ _) _).setCell (p := ⟨_, 2, none⟩) (Nat.le_succ _) _).setCell (p := ⟨_, 3, none⟩) (Nat.le_succ _) _).setCell (p := ⟨_, 4, none⟩) (Nat.le_succ _) _⟩
            · rw [hk] at m3
              have HK := Lib.hid hk
              clear hk
              go_upto_region 15 with (first
                | (go_at_call 75
                   refine (zci true (za4 f.from_ l) w.heap.size w w8 Mw8.out.nb).mono ?_
                   rintro e w9 ⟨rfl, hnb, ho⟩
                   have Mw9 := Lib.hid (Mw8.out.only hnb ho)
                   clear hnb ho m3 Mw8; have cur : w9.cell? ⟨gB, 4, none⟩ = some (.int .u64 0) := Mw9.out.cell 4; have cfz : w9.frozen? ⟨gB, 4, none⟩ = false := Mw9.out.fz 4)
                | ((with_reducible refine zbj (t := 22) (p := 49) rfl ?_)
                   refine zbn (t := 22) (p := 49) (v := .tmp 48) (w1 := w9.setCell ⟨gB, 4, none⟩ (.int .u64 (zbm true (za4 f.from_ l)))) ?hg ?ho ?hn ?hr ?_
                   (case ho => rfl)
                   (case hg => rfl)
                   (case hn => rfl)
                   (case hr => first | (go_simp; done) | (go_simp; rfl))
                   intro w10 hw
                   have hM : MS w w10 w.heap.size (w.heap.size + 1) fB gB (za4 true (za4 f.from_ l)) f #[.int .i64 f.kind, .int .i64 (zbh (zbm f.from_ l)), .int .i64 0, .int .i64 0, .int .u64 ((zbm true (za4 f.from_ l)))] := Mw9.out.put 4 _ hw
                   have Mw10 := Lib.hid hM
                   clear hM hw cur cfz Mw9))
              have hkL : kL f l = (za4 true (za4 f.from_ l)) := by simp [kL, HK.out]
              have hkF : kF f l = zbm true (za4 f.from_ l) := by simp [kF, HK.out]
              have HKL := Lib.hid hkL
              have HKF := Lib.hid hkF
              clear hkL hkF
              have m4 : w10.cell? ⟨fB, 4, none⟩ = some (.bool f.a) := zak Mw10.out.f 4
              go_upto_region 16 with (first
                | (go_at_call 75
                   refine (zci f.a (za4 true (za4 f.from_ l)) w.heap.size w w10 Mw10.out.nb).mono ?_
                   rintro e w11 ⟨rfl, hnb, ho⟩
                   have Mw11 := Lib.hid (Mw10.out.only hnb ho)
                   clear hnb ho m4 Mw10)
                | (go_at_call 60
                   refine (zcb (zbm f.a (za4 true (za4 f.from_ l))) w11).mono ?_
                   rintro e w12 ⟨rfl, hb⟩
                   have Mw12 := Lib.hid (Mw11.out.kept hb)
                   clear hb
                   have cur : w12.cell? ⟨gB, 2, none⟩ = some (.int .i64 0) := Mw12.out.cell 2; have cfz : w12.frozen? ⟨gB, 2, none⟩ = false := Mw12.out.fz 2; clear Mw11)
                | ((with_reducible refine zbj (t := 3) (p := 55) rfl ?_)
                   refine zbn (t := 3) (p := 55) (v := .tmp 54) (w1 := w12.setCell ⟨gB, 2, none⟩ (.int .i64 (zbh (zbm f.a (za4 true (za4 f.from_ l)))))) ?hg ?ho ?hn ?hr ?_
                   (case ho => rfl)
                   (case hg => rfl)
                   (case hn => rfl)
                   (case hr => first | (go_simp; done) | (go_simp; rfl))
                   intro w13 hw
                   have hM : MS w w13 w.heap.size (w.heap.size + 1) fB gB (za4 f.a (za4 true (za4 f.from_ l))) f #[.int .i64 f.kind, .int .i64 (zbh (zbm f.from_ l)), .int .i64 (zbh (zbm f.a (za4 true (za4 f.from_ l)))), .int .i64 0, .int .u64 ((zbm true (za4 f.from_ l)))] := Mw12.out.put 2 _ hw
                   have Mw13 := Lib.hid hM
                   clear hM hw cur cfz Mw12))
              have m5 : w13.cell? ⟨fB, 5, none⟩ = some (.bool f.b) := zak Mw13.out.f 5
              go_upto_region 17 with (first
                | (go_at_call 75
                   refine (zci f.b (za4 f.a (za4 true (za4 f.from_ l))) w.heap.size w w13 Mw13.out.nb).mono ?_
                   rintro e w14 ⟨rfl, hnb, ho⟩
                   have Mw14 := Lib.hid (Mw13.out.only hnb ho)
                   clear hnb ho m5 Mw13)
                | (go_at_call 60
                   refine (zcb (zbm f.b (za4 f.a (za4 true (za4 f.from_ l)))) w14).mono ?_
                   rintro e w15 ⟨rfl, hb⟩
                   have Mw15 := Lib.hid (Mw14.out.kept hb)
                   clear hb
                   have cur : w15.cell? ⟨gB, 3, none⟩ = some (.int .i64 0) := Mw15.out.cell 3; have cfz : w15.frozen? ⟨gB, 3, none⟩ = false := Mw15.out.fz 3; clear Mw14)
                | ((with_reducible refine zbj (t := 3) (p := 61) rfl ?_)
                   refine zbn (t := 3) (p := 61) (v := .tmp 60) (w1 := w15.setCell ⟨gB, 3, none⟩ (.int .i64 (zbh (zbm f.b (za4 f.a (za4 true (za4 f.from_ l))))))) ?hg ?ho ?hn ?hr ?_
                   (case ho => rfl)
                   (case hg => rfl)
                   (case hn => rfl)
                   (case hr => first | (go_simp; done) | (go_simp; rfl))
                   intro w16 hw
                   have hM : MS w w16 w.heap.size (w.heap.size + 1) fB gB (za4 f.b (za4 f.a (za4 true (za4 f.from_ l)))) f #[.int .i64 f.kind, .int .i64 (zbh (zbm f.from_ l)), .int .i64 (zbh (zbm f.a (za4 true (za4 f.from_ l)))), .int .i64 (zbh (zbm f.b (za4 f.a (za4 true (za4 f.from_ l))))), .int .u64 ((zbm true (za4 f.from_ l)))] := Mw15.out.put 3 _ hw
                   have Mw16 := Lib.hid hM
                   clear hM hw cur cfz Mw15))
              have hu := Tryd.underlying43
              have MD : Hid (MS w w16.drew w.heap.size (w.heap.size + 1) fB gB (za4 f.b (za4 f.a (za4 true (za4 f.from_ l)))) f #[.int .i64 f.kind, .int .i64 (zbh (zbm f.from_ l)), .int .i64 (zbh (zbm f.a (za4 true (za4 f.from_ l)))), .int .i64 (zbh (zbm f.b (za4 f.a (za4 true (za4 f.from_ l))))), .int .u64 ((zbm true (za4 f.from_ l)))]) := Lib.hid (Mw16.out.kept ((Below.refl _ w16).drew))
              have hS : w16.drew.cell? ⟨gB, 0, none⟩ = some (.int .i64 f.kind) ∧ w16.drew.cell? ⟨gB, 1, none⟩ = some (.int .i64 (zbh (zbm f.from_ l))) ∧ w16.drew.cell? ⟨gB, 2, none⟩ = some (.int .i64 (zbh (zbm f.a (za4 true (za4 f.from_ l))))) ∧ w16.drew.cell? ⟨gB, 3, none⟩ = some (.int .i64 (zbh (zbm f.b (za4 f.a (za4 true (za4 f.from_ l)))))) ∧ w16.drew.cell? ⟨gB, 4, none⟩ = some (.int .u64 ((zbm true (za4 f.from_ l)))) := ⟨MD.out.cell 0, MD.out.cell 1, MD.out.cell 2, MD.out.cell 3, MD.out.cell 4⟩
              clear Mw16
              generalize hv1 : zbh (zbm f.from_ l) = v1 at *
              generalize hv2 : zbh (zbm f.a (za4 true (za4 f.from_ l))) = v2 at *
              generalize hv3 : zbh (zbm f.b (za4 f.a (za4 true (za4 f.from_ l)))) = v3 at *
              generalize hvK : zbm true (za4 f.from_ l) = vK at *
              generalize (za4 f.b (za4 f.a (za4 true (za4 f.from_ l)))) = lz at *
              have HV1 := Lib.hid hv1
              have HV2 := Lib.hid hv2
              have HV3 := Lib.hid hv3
              have HVK := Lib.hid hvK
              clear hvK
              clear hv1 hv2 hv3
              obtain ⟨s0, s1, s2, s3, s4⟩ := hS
              go_region_with (first
                | (go_at_call 48
                   refine (right_calls P f.kind v1 v2 v3 vK at_ w16.drew (HLD.out.below MD.out.below)).mono ?_
                   rintro e w17 ⟨rfl, hb⟩
                   have M17 := Lib.hid (MD.out.kept hb)
                   have k17 : w17.cell? ⟨gB, 0, none⟩ = some (.int .i64 f.kind) ∧ w17.cell? ⟨gB, 1, none⟩ = some (.int .i64 v1) ∧ w17.cell? ⟨gB, 2, none⟩ = some (.int .i64 v2) ∧ w17.cell? ⟨gB, 3, none⟩ = some (.int .i64 v3) ∧ w17.cell? ⟨gB, 4, none⟩ = some (.int .u64 vK) := ⟨M17.out.cell 0, M17.out.cell 1, M17.out.cell 2, M17.out.cell 3, M17.out.cell 4⟩
                   obtain ⟨k0, k1, k2, k3, k4⟩ := k17
                   have r0 : w17.cell? ⟨w.heap.size + 1, 0, none⟩ = some (.int .i64 0) := zak M17.out.r 0
                   have r1 : w17.cell? ⟨w.heap.size + 1, 1, none⟩ = some (.int .i64 0) := zak M17.out.r 1
                   have r2 : w17.cell? ⟨w.heap.size + 1, 2, none⟩ = some (.int .i64 0) := zak M17.out.r 2
                   have r3 : w17.cell? ⟨w.heap.size + 1, 3, none⟩ = some (.int .i64 0) := zak M17.out.r 3
                   have r4 : w17.cell? ⟨w.heap.size + 1, 4, none⟩ = some (.int .u64 0) := zak M17.out.r 4
                   have f0 : w17.frozen? ⟨w.heap.size + 1, 0, none⟩ = false := zaa M17.out.r 0
                   have f1 : w17.frozen? ⟨w.heap.size + 1, 1, none⟩ = false := zaa M17.out.r 1
                   have f2 : w17.frozen? ⟨w.heap.size + 1, 2, none⟩ = false := zaa M17.out.r 2
                   have f3 : w17.frozen? ⟨w.heap.size + 1, 3, none⟩ = false := zaa M17.out.r 3
                   have f4 : w17.frozen? ⟨w.heap.size + 1, 4, none⟩ = false := zaa M17.out.r 4
                   clear hb))
              all_goals
                go_wp2_with fail
                (try simp only [Exit.inBlock, Exit.then])
                refine bodyPost_ret (zbu rfl _ _ (w.heap.size + 1) _ _ _ _ rfl (zap (zap (zap (zap (zap M17.out.r 0 _ (by rfl)) 1 _ (by rfl)) 2 _ (by rfl)) 3 _ (by rfl)) 4 _ (by rfl)) Tryd.underlying43 rfl (by kernel_rfl)) rfl ?_
                rw [HM2.out]
                simp only [zc3, HKL.out, HKF.out, HV1.out, HV2.out, HV3.out, HVK.out]
                exact ⟨rfl, ((((M17.out.below.setCell (p := ⟨_, 0, none⟩) (Nat.le_succ _) _).setCell (p := ⟨_, 1, none⟩) (Nat.le_succ _) _).setCell (p := ⟨_, 2, none⟩) (Nat.le_succ _) _).setCell (p := ⟨_, 3, none⟩) (Nat.le_succ _) _).setCell (p := ⟨_, 4, none⟩) (Nat.le_succ _) _⟩
          · have hcl : ¬ l.length = cntF f := by
              have h := HCN.out
              have h2 : ¬ (l.length : Int) = (ns.length : Int) := by simpa using hcc
              omega
            have hmd := HMD.out
            rw [if_neg hcl] at hmd
            have HM2 := Lib.hid hmd
            clear hmd hcl HMD HCN
            go_wp2_with (
              (refine zbj (t := 43) (p := 8) (v := .tmp 38) rfl ?_)
              refine wpList_store_row rfl 43 (.tmp 8) (.tmp 38) rfl (w.heap.size + 1) #[.int .i64 0, .int .i64 0, .int .i64 0, .int .i64 0, .int .u64 0] ?e1 ?e2 43 #[.int .i64 0, .int .i64 0, .int .i64 0, .int .i64 0, .int .u64 0] M5.out.r ?e4 ?e5 ?e6 ?_
              (case e1 => rfl)
              (case e2 => rfl)
              (case e4 => kernel_rfl)
              (case e5 => rfl)
              (case e6 => simp [Value.oneCell'])
              have hx2 := setRow_heap w5 (w.heap.size + 1) _ #[.int .i64 0, .int .i64 0, .int .i64 0, .int .i64 0, .int .u64 0] _ _ M5.out.r
              have hB2 := below_setRow M5.out.below (Nat.le_succ w.heap.size) #[.int .i64 0, .int .i64 0, .int .i64 0, .int .i64 0, .int .u64 0]
              clear M5 q0
              generalize w5.setRow (w.heap.size + 1) #[.int .i64 0, .int .i64 0, .int .i64 0, .int .i64 0, .int .u64 0] = w6 at *)
            (try simp only [Exit.inBlock, Exit.then])
            refine bodyPost_ret (zbu rfl _ w6 (w.heap.size + 1) _ _ _ _ rfl hx2 Tryd.underlying43 rfl (by kernel_rfl)) rfl ?_
            rw [HM2.out]
            exact ⟨rfl, hB2⟩
        · rw [hbit] at n6
          have HBIT := Lib.hid hbit
          clear hbit
          go_upto_region 8 with (first
            | ((with_reducible refine zbj (t := 22) (p := 28) rfl ?_)
               refine zbn (t := 22) (p := 28) (v := .const (.int .u64 1)) (w1 := w3.setCell ⟨gB, 4, none⟩ (.int .u64 1)) ?hg ?ho ?hn ?hr ?_
               (case ho => rfl)
               (case hg => rfl)
               (case hn => rfl)
               (case hr => first | (go_simp; done) | (go_simp; rfl))
               intro w4 hw
               have hM : MS w w4 w.heap.size (w.heap.size + 1) fB gB l f #[.int .i64 f.kind, .int .i64 0, .int .i64 0, .int .i64 0, .int .u64 1] := M.out.put 4 _ hw
               have Mw4 := Lib.hid hM
               clear hM hw))
          clear g4 z4 n6
          have hnc := numbers_calls f f.kind 0 0 0 1
          have hcn := cntF_eq f 0 0 0 1
          have hkk : (if f.bit then (1 : Int) else 0) = 1 := by rw [HBIT.out]; rfl
          generalize zcy f 0 0 0 1 = ns at hnc hcn
          have HNC := Lib.hid hnc
          have HCN := Lib.hid hcn
          have HKK := Lib.hid hkk
          clear hnc hcn hkk
          obtain ⟨A, c, hx, hC, hc, hB0, _⟩ := Mw4.out.nb
          have HX3 := Lib.hid hx
          clear hx hC hB0
          go_upto_region 10 with (first
            | (refine wpList_load_row rfl 50 (.tmp 11) rfl fB rfl 50 #[.string ⟨f.word.toArray⟩, .int .i64 f.kind, .bool f.from_, .bool f.k, .bool f.a, .bool f.b, .bool f.bit] (0, 0) _ Mw4.out.f Tryd.underlying50 rfl (by kernel_rfl) ?_)
            | (refine wpList_load_row rfl 43 (.tmp 12) rfl gB rfl 43 #[.int .i64 f.kind, .int .i64 0, .int .i64 0, .int .i64 0, .int .u64 1] (0, 0) _ Mw4.out.g Tryd.underlying43 rfl (by kernel_rfl) ?_)
            | (go_at_call 35
               refine (HNC.out w4).mono ?_
               rintro e w5 ⟨v, rfl, hRv, hb⟩
               obtain ⟨A9, c9, rfl⟩ := Kd.R_slice hRv
               have HX5 := Lib.hid (zbl HX3.out hb)
               have M5 := Lib.hid (Mw4.out.kept hb)
               have q0 : w5.cell? ⟨w.heap.size, 0, none⟩ = some (.slice A l.length c) := zak HX5.out 0
               clear hRv hb HX3 HX5 HNC Mw4))
          cases hcc : ((l.length : Int) != (ns.length : Int))
          · have hcl : l.length = cntF f := by
              have h := HCN.out
              have h2 : (l.length : Int) = (ns.length : Int) := by simpa using hcc
              omega
            have hmd := HMD.out
            rw [if_pos hcl] at hmd
            have HM2 := Lib.hid hmd
            clear hmd hcl HMD HCN
            go_upto_region 12 with (fail)
            clear q0 hcc
            have m2 : w5.cell? ⟨fB, 2, none⟩ = some (.bool f.from_) := zak M5.out.f 2
            go_upto_region 13 with (first
              | (go_at_call 75
                 refine (zci f.from_ l w.heap.size w w5 M5.out.nb).mono ?_
                 rintro e w6 ⟨rfl, hnb, ho⟩
                 have Mw6 := Lib.hid (M5.out.only hnb ho)
                 clear hnb ho m2 M5)
              | (go_at_call 60
                 refine (zcb (zbm f.from_ l) w6).mono ?_
                 rintro e w7 ⟨rfl, hb⟩
                 have Mw7 := Lib.hid (Mw6.out.kept hb)
                 clear hb
                 have cur : w7.cell? ⟨gB, 1, none⟩ = some (.int .i64 0) := Mw7.out.cell 1; have cfz : w7.frozen? ⟨gB, 1, none⟩ = false := Mw7.out.fz 1; clear Mw6)
              | ((with_reducible refine zbj (t := 3) (p := 44) rfl ?_)
                 refine zbn (t := 3) (p := 44) (v := .tmp 43) (w1 := w7.setCell ⟨gB, 1, none⟩ (.int .i64 (zbh (zbm f.from_ l)))) ?hg ?ho ?hn ?hr ?_
                 (case ho => rfl)
                 (case hg => rfl)
                 (case hn => rfl)
                 (case hr => first | (go_simp; done) | (go_simp; rfl))
                 intro w8 hw
                 have hM : MS w w8 w.heap.size (w.heap.size + 1) fB gB (za4 f.from_ l) f #[.int .i64 f.kind, .int .i64 (zbh (zbm f.from_ l)), .int .i64 0, .int .i64 0, .int .u64 1] := Mw7.out.put 1 _ hw
                 have Mw8 := Lib.hid hM
                 clear hM hw cur cfz Mw7))
            have m3 : w8.cell? ⟨fB, 3, none⟩ = some (.bool f.k) := zak Mw8.out.f 3
            cases hk : f.k
            · rw [hk] at m3
              have HK := Lib.hid hk
              clear hk
              go_upto_region 15 with (fail)
              clear m3
              have hkL : kL f l = (za4 f.from_ l) := by simp [kL, HK.out]
              have hkF : kF f l = 1 := by have h := HKK.out; unfold kF; rw [HK.out]; exact h
              have HKL := Lib.hid hkL
              have HKF := Lib.hid hkF
              clear hkL hkF
              have m4 : w8.cell? ⟨fB, 4, none⟩ = some (.bool f.a) := zak Mw8.out.f 4
              go_upto_region 16 with (first
                | (go_at_call 75
                   refine (zci f.a (za4 f.from_ l) w.heap.size w w8 Mw8.out.nb).mono ?_
                   rintro e w11 ⟨rfl, hnb, ho⟩
                   have Mw11 := Lib.hid (Mw8.out.only hnb ho)
                   clear hnb ho m4 Mw8)
                | (go_at_call 60
                   refine (zcb (zbm f.a (za4 f.from_ l)) w11).mono ?_
                   rintro e w12 ⟨rfl, hb⟩
                   have Mw12 := Lib.hid (Mw11.out.kept hb)
                   clear hb
                   have cur : w12.cell? ⟨gB, 2, none⟩ = some (.int .i64 0) := Mw12.out.cell 2; have cfz : w12.frozen? ⟨gB, 2, none⟩ = false := Mw12.out.fz 2; clear Mw11)
                | ((with_reducible refine zbj (t := 3) (p := 55) rfl ?_)
                   refine zbn (t := 3) (p := 55) (v := .tmp 54) (w1 := w12.setCell ⟨gB, 2, none⟩ (.int .i64 (zbh (zbm f.a (za4 f.from_ l))))) ?hg ?ho ?hn ?hr ?_
                   (case ho => rfl)
                   (case hg => rfl)
                   (case hn => rfl)
                   (case hr => first | (go_simp; done) | (go_simp; rfl))
                   intro w13 hw
                   have hM : MS w w13 w.heap.size (w.heap.size + 1) fB gB (za4 f.a (za4 f.from_ l)) f #[.int .i64 f.kind, .int .i64 (zbh (zbm f.from_ l)), .int .i64 (zbh (zbm f.a (za4 f.from_ l))), .int .i64 0, .int .u64 1] := Mw12.out.put 2 _ hw
                   have Mw13 := Lib.hid hM
                   clear hM hw cur cfz Mw12))
              have m5 : w13.cell? ⟨fB, 5, none⟩ = some (.bool f.b) := zak Mw13.out.f 5
              go_upto_region 17 with (first
                | (go_at_call 75
                   refine (zci f.b (za4 f.a (za4 f.from_ l)) w.heap.size w w13 Mw13.out.nb).mono ?_
                   rintro e w14 ⟨rfl, hnb, ho⟩
                   have Mw14 := Lib.hid (Mw13.out.only hnb ho)
                   clear hnb ho m5 Mw13)
                | (go_at_call 60
                   refine (zcb (zbm f.b (za4 f.a (za4 f.from_ l))) w14).mono ?_
                   rintro e w15 ⟨rfl, hb⟩
                   have Mw15 := Lib.hid (Mw14.out.kept hb)
                   clear hb
                   have cur : w15.cell? ⟨gB, 3, none⟩ = some (.int .i64 0) := Mw15.out.cell 3; have cfz : w15.frozen? ⟨gB, 3, none⟩ = false := Mw15.out.fz 3; clear Mw14)
                | ((with_reducible refine zbj (t := 3) (p := 61) rfl ?_)
                   refine zbn (t := 3) (p := 61) (v := .tmp 60) (w1 := w15.setCell ⟨gB, 3, none⟩ (.int .i64 (zbh (zbm f.b (za4 f.a (za4 f.from_ l)))))) ?hg ?ho ?hn ?hr ?_
                   (case ho => rfl)
                   (case hg => rfl)
                   (case hn => rfl)
                   (case hr => first | (go_simp; done) | (go_simp; rfl))
                   intro w16 hw
                   have hM : MS w w16 w.heap.size (w.heap.size + 1) fB gB (za4 f.b (za4 f.a (za4 f.from_ l))) f #[.int .i64 f.kind, .int .i64 (zbh (zbm f.from_ l)), .int .i64 (zbh (zbm f.a (za4 f.from_ l))), .int .i64 (zbh (zbm f.b (za4 f.a (za4 f.from_ l)))), .int .u64 1] := Mw15.out.put 3 _ hw
                   have Mw16 := Lib.hid hM
                   clear hM hw cur cfz Mw15))
              have hu := Tryd.underlying43
              have MD : Hid (MS w w16.drew w.heap.size (w.heap.size + 1) fB gB (za4 f.b (za4 f.a (za4 f.from_ l))) f #[.int .i64 f.kind, .int .i64 (zbh (zbm f.from_ l)), .int .i64 (zbh (zbm f.a (za4 f.from_ l))), .int .i64 (zbh (zbm f.b (za4 f.a (za4 f.from_ l)))), .int .u64 1]) := Lib.hid (Mw16.out.kept ((Below.refl _ w16).drew))
              have hS : w16.drew.cell? ⟨gB, 0, none⟩ = some (.int .i64 f.kind) ∧ w16.drew.cell? ⟨gB, 1, none⟩ = some (.int .i64 (zbh (zbm f.from_ l))) ∧ w16.drew.cell? ⟨gB, 2, none⟩ = some (.int .i64 (zbh (zbm f.a (za4 f.from_ l)))) ∧ w16.drew.cell? ⟨gB, 3, none⟩ = some (.int .i64 (zbh (zbm f.b (za4 f.a (za4 f.from_ l))))) ∧ w16.drew.cell? ⟨gB, 4, none⟩ = some (.int .u64 1) := ⟨MD.out.cell 0, MD.out.cell 1, MD.out.cell 2, MD.out.cell 3, MD.out.cell 4⟩
              clear Mw16
              generalize hv1 : zbh (zbm f.from_ l) = v1 at *
              generalize hv2 : zbh (zbm f.a (za4 f.from_ l)) = v2 at *
              generalize hv3 : zbh (zbm f.b (za4 f.a (za4 f.from_ l))) = v3 at *
              generalize (za4 f.b (za4 f.a (za4 f.from_ l))) = lz at *
              have HV1 := Lib.hid hv1
              have HV2 := Lib.hid hv2
              have HV3 := Lib.hid hv3
              clear hv1 hv2 hv3
              obtain ⟨s0, s1, s2, s3, s4⟩ := hS
              go_region_with (first
                | (go_at_call 48
                   refine (right_calls P f.kind v1 v2 v3 1 at_ w16.drew (HLD.out.below MD.out.below)).mono ?_
                   rintro e w17 ⟨rfl, hb⟩
                   have M17 := Lib.hid (MD.out.kept hb)
                   have k17 : w17.cell? ⟨gB, 0, none⟩ = some (.int .i64 f.kind) ∧ w17.cell? ⟨gB, 1, none⟩ = some (.int .i64 v1) ∧ w17.cell? ⟨gB, 2, none⟩ = some (.int .i64 v2) ∧ w17.cell? ⟨gB, 3, none⟩ = some (.int .i64 v3) ∧ w17.cell? ⟨gB, 4, none⟩ = some (.int .u64 1) := ⟨M17.out.cell 0, M17.out.cell 1, M17.out.cell 2, M17.out.cell 3, M17.out.cell 4⟩
                   obtain ⟨k0, k1, k2, k3, k4⟩ := k17
                   have r0 : w17.cell? ⟨w.heap.size + 1, 0, none⟩ = some (.int .i64 0) := zak M17.out.r 0
                   have r1 : w17.cell? ⟨w.heap.size + 1, 1, none⟩ = some (.int .i64 0) := zak M17.out.r 1
                   have r2 : w17.cell? ⟨w.heap.size + 1, 2, none⟩ = some (.int .i64 0) := zak M17.out.r 2
                   have r3 : w17.cell? ⟨w.heap.size + 1, 3, none⟩ = some (.int .i64 0) := zak M17.out.r 3
                   have r4 : w17.cell? ⟨w.heap.size + 1, 4, none⟩ = some (.int .u64 0) := zak M17.out.r 4
                   have f0 : w17.frozen? ⟨w.heap.size + 1, 0, none⟩ = false := zaa M17.out.r 0
                   have f1 : w17.frozen? ⟨w.heap.size + 1, 1, none⟩ = false := zaa M17.out.r 1
                   have f2 : w17.frozen? ⟨w.heap.size + 1, 2, none⟩ = false := zaa M17.out.r 2
                   have f3 : w17.frozen? ⟨w.heap.size + 1, 3, none⟩ = false := zaa M17.out.r 3
                   have f4 : w17.frozen? ⟨w.heap.size + 1, 4, none⟩ = false := zaa M17.out.r 4
                   clear hb))
              all_goals
                go_wp2_with fail
                (try simp only [Exit.inBlock, Exit.then])
                refine bodyPost_ret (zbu rfl _ _ (w.heap.size + 1) _ _ _ _ rfl (zap (zap (zap (zap (zap M17.out.r 0 _ (by rfl)) 1 _ (by rfl)) 2 _ (by rfl)) 3 _ (by rfl)) 4 _ (by rfl)) Tryd.underlying43 rfl (by kernel_rfl)) rfl ?_
                rw [HM2.out]
                simp only [zc3, HKL.out, HKF.out, HV1.out, HV2.out, HV3.out]
                exact ⟨rfl, ((((M17.out.below.setCell (p := ⟨_, 0, none⟩) (Nat.le_succ _) _).setCell (p := ⟨_, 1, none⟩) (Nat.le_succ _) _).setCell (p := ⟨_, 2, none⟩) (Nat.le_succ _) _).setCell (p := ⟨_, 3, none⟩) (Nat.le_succ _) _).setCell (p := ⟨_, 4, none⟩) (Nat.le_succ _) _⟩
            · rw [hk] at m3
              have HK := Lib.hid hk
              clear hk
              go_upto_region 15 with (first
                | (go_at_call 75
                   refine (zci true (za4 f.from_ l) w.heap.size w w8 Mw8.out.nb).mono ?_
                   rintro e w9 ⟨rfl, hnb, ho⟩
                   have Mw9 := Lib.hid (Mw8.out.only hnb ho)
                   clear hnb ho m3 Mw8; have cur : w9.cell? ⟨gB, 4, none⟩ = some (.int .u64 1) := Mw9.out.cell 4; have cfz : w9.frozen? ⟨gB, 4, none⟩ = false := Mw9.out.fz 4)
                | ((with_reducible refine zbj (t := 22) (p := 49) rfl ?_)
                   refine zbn (t := 22) (p := 49) (v := .tmp 48) (w1 := w9.setCell ⟨gB, 4, none⟩ (.int .u64 (zbm true (za4 f.from_ l)))) ?hg ?ho ?hn ?hr ?_
                   (case ho => rfl)
                   (case hg => rfl)
                   (case hn => rfl)
                   (case hr => first | (go_simp; done) | (go_simp; rfl))
                   intro w10 hw
                   have hM : MS w w10 w.heap.size (w.heap.size + 1) fB gB (za4 true (za4 f.from_ l)) f #[.int .i64 f.kind, .int .i64 (zbh (zbm f.from_ l)), .int .i64 0, .int .i64 0, .int .u64 ((zbm true (za4 f.from_ l)))] := Mw9.out.put 4 _ hw
                   have Mw10 := Lib.hid hM
                   clear hM hw cur cfz Mw9))
              have hkL : kL f l = (za4 true (za4 f.from_ l)) := by simp [kL, HK.out]
              have hkF : kF f l = zbm true (za4 f.from_ l) := by simp [kF, HK.out]
              have HKL := Lib.hid hkL
              have HKF := Lib.hid hkF
              clear hkL hkF
              have m4 : w10.cell? ⟨fB, 4, none⟩ = some (.bool f.a) := zak Mw10.out.f 4
              go_upto_region 16 with (first
                | (go_at_call 75
                   refine (zci f.a (za4 true (za4 f.from_ l)) w.heap.size w w10 Mw10.out.nb).mono ?_
                   rintro e w11 ⟨rfl, hnb, ho⟩
                   have Mw11 := Lib.hid (Mw10.out.only hnb ho)
                   clear hnb ho m4 Mw10)
                | (go_at_call 60
                   refine (zcb (zbm f.a (za4 true (za4 f.from_ l))) w11).mono ?_
                   rintro e w12 ⟨rfl, hb⟩
                   have Mw12 := Lib.hid (Mw11.out.kept hb)
                   clear hb
                   have cur : w12.cell? ⟨gB, 2, none⟩ = some (.int .i64 0) := Mw12.out.cell 2; have cfz : w12.frozen? ⟨gB, 2, none⟩ = false := Mw12.out.fz 2; clear Mw11)
                | ((with_reducible refine zbj (t := 3) (p := 55) rfl ?_)
                   refine zbn (t := 3) (p := 55) (v := .tmp 54) (w1 := w12.setCell ⟨gB, 2, none⟩ (.int .i64 (zbh (zbm f.a (za4 true (za4 f.from_ l)))))) ?hg ?ho ?hn ?hr ?_
                   (case ho => rfl)
                   (case hg => rfl)
                   (case hn => rfl)
                   (case hr => first | (go_simp; done) | (go_simp; rfl))
                   intro w13 hw
                   have hM : MS w w13 w.heap.size (w.heap.size + 1) fB gB (za4 f.a (za4 true (za4 f.from_ l))) f #[.int .i64 f.kind, .int .i64 (zbh (zbm f.from_ l)), .int .i64 (zbh (zbm f.a (za4 true (za4 f.from_ l)))), .int .i64 0, .int .u64 ((zbm true (za4 f.from_ l)))] := Mw12.out.put 2 _ hw
                   have Mw13 := Lib.hid hM
                   clear hM hw cur cfz Mw12))
              have m5 : w13.cell? ⟨fB, 5, none⟩ = some (.bool f.b) := zak Mw13.out.f 5
              go_upto_region 17 with (first
                | (go_at_call 75
                   refine (zci f.b (za4 f.a (za4 true (za4 f.from_ l))) w.heap.size w w13 Mw13.out.nb).mono ?_
                   rintro e w14 ⟨rfl, hnb, ho⟩
                   have Mw14 := Lib.hid (Mw13.out.only hnb ho)
                   clear hnb ho m5 Mw13)
                | (go_at_call 60
                   refine (zcb (zbm f.b (za4 f.a (za4 true (za4 f.from_ l)))) w14).mono ?_
                   rintro e w15 ⟨rfl, hb⟩
                   have Mw15 := Lib.hid (Mw14.out.kept hb)
                   clear hb
                   have cur : w15.cell? ⟨gB, 3, none⟩ = some (.int .i64 0) := Mw15.out.cell 3; have cfz : w15.frozen? ⟨gB, 3, none⟩ = false := Mw15.out.fz 3; clear Mw14)
                | ((with_reducible refine zbj (t := 3) (p := 61) rfl ?_)
                   refine zbn (t := 3) (p := 61) (v := .tmp 60) (w1 := w15.setCell ⟨gB, 3, none⟩ (.int .i64 (zbh (zbm f.b (za4 f.a (za4 true (za4 f.from_ l))))))) ?hg ?ho ?hn ?hr ?_
                   (case ho => rfl)
                   (case hg => rfl)
                   (case hn => rfl)
                   (case hr => first | (go_simp; done) | (go_simp; rfl))
                   intro w16 hw
                   have hM : MS w w16 w.heap.size (w.heap.size + 1) fB gB (za4 f.b (za4 f.a (za4 true (za4 f.from_ l)))) f #[.int .i64 f.kind, .int .i64 (zbh (zbm f.from_ l)), .int .i64 (zbh (zbm f.a (za4 true (za4 f.from_ l)))), .int .i64 (zbh (zbm f.b (za4 f.a (za4 true (za4 f.from_ l))))), .int .u64 ((zbm true (za4 f.from_ l)))] := Mw15.out.put 3 _ hw
                   have Mw16 := Lib.hid hM
                   clear hM hw cur cfz Mw15))
              have hu := Tryd.underlying43
              have MD : Hid (MS w w16.drew w.heap.size (w.heap.size + 1) fB gB (za4 f.b (za4 f.a (za4 true (za4 f.from_ l)))) f #[.int .i64 f.kind, .int .i64 (zbh (zbm f.from_ l)), .int .i64 (zbh (zbm f.a (za4 true (za4 f.from_ l)))), .int .i64 (zbh (zbm f.b (za4 f.a (za4 true (za4 f.from_ l))))), .int .u64 ((zbm true (za4 f.from_ l)))]) := Lib.hid (Mw16.out.kept ((Below.refl _ w16).drew))
              have hS : w16.drew.cell? ⟨gB, 0, none⟩ = some (.int .i64 f.kind) ∧ w16.drew.cell? ⟨gB, 1, none⟩ = some (.int .i64 (zbh (zbm f.from_ l))) ∧ w16.drew.cell? ⟨gB, 2, none⟩ = some (.int .i64 (zbh (zbm f.a (za4 true (za4 f.from_ l))))) ∧ w16.drew.cell? ⟨gB, 3, none⟩ = some (.int .i64 (zbh (zbm f.b (za4 f.a (za4 true (za4 f.from_ l)))))) ∧ w16.drew.cell? ⟨gB, 4, none⟩ = some (.int .u64 ((zbm true (za4 f.from_ l)))) := ⟨MD.out.cell 0, MD.out.cell 1, MD.out.cell 2, MD.out.cell 3, MD.out.cell 4⟩
              clear Mw16
              generalize hv1 : zbh (zbm f.from_ l) = v1 at *
              generalize hv2 : zbh (zbm f.a (za4 true (za4 f.from_ l))) = v2 at *
              generalize hv3 : zbh (zbm f.b (za4 f.a (za4 true (za4 f.from_ l)))) = v3 at *
              generalize hvK : zbm true (za4 f.from_ l) = vK at *
              generalize (za4 f.b (za4 f.a (za4 true (za4 f.from_ l)))) = lz at *
              have HV1 := Lib.hid hv1
              have HV2 := Lib.hid hv2
              have HV3 := Lib.hid hv3
              have HVK := Lib.hid hvK
              clear hvK
              clear hv1 hv2 hv3
              obtain ⟨s0, s1, s2, s3, s4⟩ := hS
              go_region_with (first
                | (go_at_call 48
                   refine (right_calls P f.kind v1 v2 v3 vK at_ w16.drew (HLD.out.below MD.out.below)).mono ?_
                   rintro e w17 ⟨rfl, hb⟩
                   have M17 := Lib.hid (MD.out.kept hb)
                   have k17 : w17.cell? ⟨gB, 0, none⟩ = some (.int .i64 f.kind) ∧ w17.cell? ⟨gB, 1, none⟩ = some (.int .i64 v1) ∧ w17.cell? ⟨gB, 2, none⟩ = some (.int .i64 v2) ∧ w17.cell? ⟨gB, 3, none⟩ = some (.int .i64 v3) ∧ w17.cell? ⟨gB, 4, none⟩ = some (.int .u64 vK) := ⟨M17.out.cell 0, M17.out.cell 1, M17.out.cell 2, M17.out.cell 3, M17.out.cell 4⟩
                   obtain ⟨k0, k1, k2, k3, k4⟩ := k17
                   have r0 : w17.cell? ⟨w.heap.size + 1, 0, none⟩ = some (.int .i64 0) := zak M17.out.r 0
                   have r1 : w17.cell? ⟨w.heap.size + 1, 1, none⟩ = some (.int .i64 0) := zak M17.out.r 1
                   have r2 : w17.cell? ⟨w.heap.size + 1, 2, none⟩ = some (.int .i64 0) := zak M17.out.r 2
                   have r3 : w17.cell? ⟨w.heap.size + 1, 3, none⟩ = some (.int .i64 0) := zak M17.out.r 3
                   have r4 : w17.cell? ⟨w.heap.size + 1, 4, none⟩ = some (.int .u64 0) := zak M17.out.r 4
                   have f0 : w17.frozen? ⟨w.heap.size + 1, 0, none⟩ = false := zaa M17.out.r 0
                   have f1 : w17.frozen? ⟨w.heap.size + 1, 1, none⟩ = false := zaa M17.out.r 1
                   have f2 : w17.frozen? ⟨w.heap.size + 1, 2, none⟩ = false := zaa M17.out.r 2
                   have f3 : w17.frozen? ⟨w.heap.size + 1, 3, none⟩ = false := zaa M17.out.r 3
                   have f4 : w17.frozen? ⟨w.heap.size + 1, 4, none⟩ = false := zaa M17.out.r 4
                   clear hb))
              all_goals
                go_wp2_with fail
                (try simp only [Exit.inBlock, Exit.then])
                refine bodyPost_ret (zbu rfl _ _ (w.heap.size + 1) _ _ _ _ rfl (zap (zap (zap (zap (zap M17.out.r 0 _ (by rfl)) 1 _ (by rfl)) 2 _ (by rfl)) 3 _ (by rfl)) 4 _ (by rfl)) Tryd.underlying43 rfl (by kernel_rfl)) rfl ?_
                rw [HM2.out]
                simp only [zc3, HKL.out, HKF.out, HV1.out, HV2.out, HV3.out, HVK.out]
                exact ⟨rfl, ((((M17.out.below.setCell (p := ⟨_, 0, none⟩) (Nat.le_succ _) _).setCell (p := ⟨_, 1, none⟩) (Nat.le_succ _) _).setCell (p := ⟨_, 2, none⟩) (Nat.le_succ _) _).setCell (p := ⟨_, 3, none⟩) (Nat.le_succ _) _).setCell (p := ⟨_, 4, none⟩) (Nat.le_succ _) _⟩
          · have hcl : ¬ l.length = cntF f := by
              have h := HCN.out
              have h2 : ¬ (l.length : Int) = (ns.length : Int) := by simpa using hcc
              omega
            have hmd := HMD.out
            rw [if_neg hcl] at hmd
            have HM2 := Lib.hid hmd
            clear hmd hcl HMD HCN
            go_wp2_with (
              (refine zbj (t := 43) (p := 8) (v := .tmp 38) rfl ?_)
              refine wpList_store_row rfl 43 (.tmp 8) (.tmp 38) rfl (w.heap.size + 1) #[.int .i64 0, .int .i64 0, .int .i64 0, .int .i64 0, .int .u64 0] ?e1 ?e2 43 #[.int .i64 0, .int .i64 0, .int .i64 0, .int .i64 0, .int .u64 0] M5.out.r ?e4 ?e5 ?e6 ?_
              (case e1 => rfl)
              (case e2 => rfl)
              (case e4 => kernel_rfl)
              (case e5 => rfl)
              (case e6 => simp [Value.oneCell'])
              have hx2 := setRow_heap w5 (w.heap.size + 1) _ #[.int .i64 0, .int .i64 0, .int .i64 0, .int .i64 0, .int .u64 0] _ _ M5.out.r
              have hB2 := below_setRow M5.out.below (Nat.le_succ w.heap.size) #[.int .i64 0, .int .i64 0, .int .i64 0, .int .i64 0, .int .u64 0]
              clear M5 q0
              generalize w5.setRow (w.heap.size + 1) #[.int .i64 0, .int .i64 0, .int .i64 0, .int .i64 0, .int .u64 0] = w6 at *)
            (try simp only [Exit.inBlock, Exit.then])
            refine bodyPost_ret (zbu rfl _ w6 (w.heap.size + 1) _ _ _ _ rfl hx2 Tryd.underlying43 rfl (by kernel_rfl)) rfl ?_
            rw [HM2.out]
            exact ⟨rfl, hB2⟩
end Go.Proofs.YtmnleabeipmhmaaDoor.P
end
