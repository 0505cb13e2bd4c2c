/- What is proved here: a part of the proof of CircuitAppendMul: Cof. No conditions beside those that each theorem states. -/
import Derived.Test.YtmnleabeipmhmaaDoorKCAMul9
import Derived.Deep.QuietTactic
import Derived.BigQuiet
import Derived.Lib.Hide
import Derived.Laws.Rows
import Derived.Deep.DeepCutAuto
import Derived.Deep.CutRange
import Derived.Laws.CopyOwn
import Derived.Deep.WholeRow
section
set_option linter.unusedVariables false
set_option linter.unusedSimpArgs false
namespace Go.Proofs.YtmnleabeipmhmaaDoor.P
open Go.RowKit Go.Proofs.YtmnleabeipmhmaaDoorW.PrintWords Go.Proofs.YtmnleabeipmhmaaDoorW.PrintLast Go.Proofs.YtmnleabeipmhmaaDoorW.PrintMore
def Form.zero : Form := ⟨[], 0, false, false, false, false, false⟩
def Form.fits (f : Form) (kind k : Int) : Bool := (f.kind == kind) && (f.bit == ((kind == 1) && (k == 1)))
def ofF (kind k : Int) : Form × Bool := match forms.find? (fun f => f.fits kind k) with
  | some f => (f, true)
  | none => (Form.zero, false)
theorem zcp (w : World) (o : Obj) (i : Nat) (h : i < w.heap.size) : (w.alloc o).heap[i]? = w.heap[i]? := by
  show (w.heap.push o)[i]? = w.heap[i]?
  rw [Array.getElem?_push, if_neg (Nat.ne_of_lt h)]
theorem zcq (w : World) (o : Obj) : (w.alloc o).heap.size = w.heap.size + 1 := by show (w.heap.push o).size = _; rw [Array.size_push]
theorem zak {w : World} {g : Nat} {t : TypeId} {fr : Nat × Nat} {cs : Array Value} (h : w.heap[g]? = some (.cells cs t fr)) (i : Nat) : w.cell? ⟨g, i, none⟩ = cs[i]? := cell_of_row w g i cs t fr h
theorem zbu {P : Program} {fn : Func} {p u : Tmp} {ty : TypeId} (h : fn.results = #[.cell p ty, .tmp u]) (tmps : Array Value) (w : World) (g : Nat) (t : TypeId) (cs : Array Value) (fr : Nat × Nat) (d : TypeDesc)
    (hp : tmps.getD p undef = .pointer (some ⟨g, 0, none⟩)) (hg : w.heap[g]? = some (.cells cs t fr))
    (hu : P.underlying ty = some d) (hd : (match d with | .struct _ | .array _ _ => true | _ => false) = true) (hi : (P.info? ty).map (·.size) = some cs.size) :
    (results fn tmps).run P w = .ok (.tuple #[.agg cs, tmps.getD u undef]) w := by
  have hp' : tmps[p]?.getD undef = .pointer (some ⟨g, 0, none⟩) := by simpa using hp
  simp [results, h, hp', asAddr, run_loadVar_row w g t ty cs fr d hg hu hd hi]
theorem form_index (i : Nat) (hi : i < 7) (W' : World) : (Instr.index 88 (.agg formsCells.toArray) (.int .i64 i)).run Tryd.prog W' = .ok (.agg (forms[i]'(by simpa [forms] using hi)).cells.toArray) W' := by
  rcases (show i = 0 ∨ i = 1 ∨ i = 2 ∨ i = 3 ∨ i = 4 ∨ i = 5 ∨ i = 6 by omega) with rfl | rfl | rfl | rfl | rfl | rfl | rfl <;> kernel_rfl
set_option maxHeartbeats 4000000 in
set_option maxRecDepth 100000 in
theorem of_calls (a b c d e : Int) (w : World) (hLd : Ld w) : Calls Tryd.prog 32 #[.agg #[.int .i64 a, .int .i64 b, .int .i64 c, .int .i64 d, .int .u64 e]] w
    fun r w' => r = .returned (.tuple #[.agg (ofF a e).1.cells.toArray, .bool (ofF a e).2]) ∧ Below w.heap.size w w' := by
  obtain ⟨ft, ffr, hft⟩ := hLd.2.1
  have hlt : 0 < w.heap.size := (Array.getElem?_eq_some_iff.1 hft).1
  clear hLd
  go_enter Tryd.func32, Tryd.ntmps32
  go_wp2_with (refine wpList_load_row rfl 88 (.global 0) rfl 0 rfl ft formsCells.toArray ffr _ ?hg Tryd.underlying88 rfl (by kernel_rfl) ?_)
  case hg =>
    rw [zcp _ _ _ (by rw [zcq]; omega), zcp _ _ _ hlt]; exact hft
  have hx0 : ((w.alloc (.cells #[.int .i64 a, .int .i64 b, .int .i64 c, .int .i64 d, .int .u64 e] 43)).alloc (.cells (Form.zero.cells.toArray) 50)).heap[w.heap.size]? = some (.cells #[.int .i64 a, .int .i64 b, .int .i64 c, .int .i64 d, .int .u64 e] 43 (0, 0)) := by
    rw [zcp _ _ _ (by rw [zcq]; omega)]; exact heap_alloc_new _ _
  have hx1 : ((w.alloc (.cells #[.int .i64 a, .int .i64 b, .int .i64 c, .int .i64 d, .int .u64 e] 43)).alloc (.cells (Form.zero.cells.toArray) 50)).heap[w.heap.size + 1]? = some (.cells Form.zero.cells.toArray 50 (0, 0)) := heap_alloc2_new _ _ _
  have hB : Below w.heap.size w ((w.alloc (.cells #[.int .i64 a, .int .i64 b, .int .i64 c, .int .i64 d, .int .u64 e] 43)).alloc (.cells (Form.zero.cells.toArray) 50)) := zao (zao (Below.refl _ _) _) _
  simp only [Form.zero, Form.cells] at hx0 hx1 hB
  generalize hW : ((w.alloc (.cells #[.int .i64 a, .int .i64 b, .int .i64 c, .int .i64 d, .int .u64 e] 43)).alloc (.cells #[.string ⟨#[]⟩, .int .i64 0, .bool false, .bool false, .bool false, .bool false, .bool false] 50)) = W1 at *
  clear hW
  go_loopw [5, 7] (fun v5 v7 wr => ∃ i : Nat, v7 = .int .i64 i ∧ i ≤ 7 ∧ (∀ j (f : Form), j < i → forms[j]? = some f → f.fits a e = false) ∧ wr.heap[w.heap.size]? = some (.cells #[.int .i64 a, .int .i64 b, .int .i64 c, .int .i64 d, .int .u64 e] 43 (0, 0)) ∧
    wr.heap[w.heap.size + 1]? = some (.cells #[.string ⟨#[]⟩, .int .i64 0, .bool false, .bool false, .bool false, .bool false, .bool false] 50 (0, 0)) ∧ Below w.heap.size w wr) (fun _ v7 _ => (7 - intOf v7).toNat)
  case atStart => exact ⟨0, rfl, by omega, fun j f hj => absurd hj (Nat.not_lt_zero _), hx0, hx1, hB⟩
  case round =>
    clear hx0 hx1 hB
    obtain ⟨i, rfl, hi, hno, hx0, hx1, hB⟩ := hrel
    by_cases hi7 : i = 7
    · subst hi7
      have hnone : ofF a e = (Form.zero, false) := by
        have : forms.find? (fun f => f.fits a e) = none := by
          rw [List.find?_eq_none]
          intro f hf
          obtain ⟨j, hj, rfl⟩ := List.getElem_of_mem hf
          have hj7 : j < 7 := by simpa [forms] using hj
          rw [hno j _ hj7 (List.getElem?_eq_getElem hj)]; simp
        rw [ofF, this]
      clear hno
      go_wp2_with (
        (refine zbj (t := 50) (p := 2) (v := .tmp 30) rfl ?_)
        refine wpList_store_row rfl 50 (.tmp 2) (.tmp 30) rfl (w.heap.size + 1) #[.string ⟨#[]⟩, .int .i64 0, .bool false, .bool false, .bool false, .bool false, .bool false] ?e1 ?e2 50 #[.string ⟨#[]⟩, .int .i64 0, .bool false, .bool false, .bool false, .bool false, .bool false] hx1 ?e4 ?e5 ?e6 ?_
        (case e1 => rfl)
        (case e2 => rfl)
        (case e4 => kernel_rfl)
        (case e5 => rfl)
        (case e6 => simp [Value.oneCell'])
        have hx2 := setRow_heap wr (w.heap.size + 1) _ #[.string ⟨#[]⟩, .int .i64 0, .bool false, .bool false, .bool false, .bool false, .bool false] _ _ hx1
        have hB2 := below_setRow hB (Nat.le_succ w.heap.size) #[.string ⟨#[]⟩, .int .i64 0, .bool false, .bool false, .bool false, .bool false, .bool false]
        clear hx0 hx1 hB
        generalize wr.setRow (w.heap.size + 1) #[.string ⟨#[]⟩, .int .i64 0, .bool false, .bool false, .bool false, .bool false, .bool false] = w2 at *)
      (try simp only [Exit.inBlock, Exit.then])
      refine bodyPost_ret (zbu rfl _ w2 (w.heap.size + 1) _ _ _ _ rfl hx2 Tryd.underlying50 rfl (by kernel_rfl)) rfl ?_
      rw [hnone]
      exact ⟨rfl, hB2⟩
    · have hlt7 : i < 7 := by omega
      obtain ⟨f, hf⟩ : ∃ f, forms[i]? = some f := ⟨forms[i]'(by simpa [forms] using hlt7), List.getElem?_eq_getElem _⟩
      have hidx : ∀ W', (Instr.index 88 (.agg formsCells.toArray) (.int .i64 i)).run Tryd.prog W' = .ok (.agg #[.string ⟨f.word.toArray⟩, .int .i64 f.kind, .bool f.from_, .bool f.k, .bool f.a, .bool f.b, .bool f.bit]) W' := by
        intro W'
        have h1 := form_index i hlt7 W'
        have h2 : forms[i]'(by simpa [forms] using hlt7) = f := by
          have h3 := List.getElem?_eq_getElem (l := forms) (i := i) (by simpa [forms] using hlt7)
          exact Option.some.inj (h3.symm.trans hf)
        rw [h2] at h1
        exact h1
      have hil : decide (i < 7) = true := decide_eq_true hlt7
      have HNO := Lib.hid hno
      have HF := Lib.hid hf
      clear hno hf hft hlt
      have goOn : f.fits a e = false → ∀ (j : Nat) (g : Form), j < i + 1 → forms[j]? = some g → g.fits a e = false := by
        intro h j g hj hg
        rcases Nat.lt_succ_iff_lt_or_eq.1 hj with h1 | h1
        · exact HNO.out j g h1 hg
        · subst h1; rw [HF.out] at hg; cases hg; exact h
      have found : f.fits a e = true → ofF a e = (f, true) := by
        intro h
        have : forms.find? (fun g => g.fits a e) = some f := by
          rw [List.find?_eq_some_iff_getElem]
          obtain ⟨hj, he⟩ := List.getElem?_eq_some_iff.1 HF.out
          refine ⟨h, i, hj, he, fun j hj2 => ?_⟩
          rw [HNO.out j _ hj2 (List.getElem?_eq_getElem (by omega))]; rfl
        rw [ofF, this]
      have GO := Lib.hid goOn
      have FO := Lib.hid found
      clear goOn found
      clear HNO HF
      go_upto_region 4 with (
        refine wpList_store_row rfl 50 (.tmp 5) (.tmp 9) rfl wr.heap.size #[.string ⟨f.word.toArray⟩, .int .i64 f.kind, .bool f.from_, .bool f.k, .bool f.a, .bool f.b, .bool f.bit] ?e1 ?e2 50 #[.string ⟨#[]⟩, .int .i64 0, .bool false, .bool false, .bool false, .bool false, .bool false] (heap_alloc_new wr _) ?e4 ?e5 ?e6 ?_
        (case e1 => rfl)
        (case e2 => rfl)
        (case e4 => kernel_rfl)
        (case e5 => rfl)
        (case e6 => simp [Value.oneCell'])
        rw [World.setRow_alloc_new]
        have hn := heap_alloc_new wr (.cells #[.string ⟨f.word.toArray⟩, .int .i64 f.kind, .bool f.from_, .bool f.k, .bool f.a, .bool f.b, .bool f.bit] 50)
        have hx0n := (zcp wr (.cells #[.string ⟨f.word.toArray⟩, .int .i64 f.kind, .bool f.from_, .bool f.k, .bool f.a, .bool f.b, .bool f.bit] 50) _ (Array.getElem?_eq_some_iff.1 hx0).1).trans hx0
        have hx1n := (zcp wr (.cells #[.string ⟨f.word.toArray⟩, .int .i64 f.kind, .bool f.from_, .bool f.k, .bool f.a, .bool f.b, .bool f.bit] 50) _ (Array.getElem?_eq_some_iff.1 hx1).1).trans hx1
        have hBn := zao hB (.cells #[.string ⟨f.word.toArray⟩, .int .i64 f.kind, .bool f.from_, .bool f.k, .bool f.a, .bool f.b, .bool f.bit] 50)
        generalize wr.alloc (.cells #[.string ⟨f.word.toArray⟩, .int .i64 f.kind, .bool f.from_, .bool f.k, .bool f.a, .bool f.b, .bool f.bit] 50) = w2 at *
        have b0 : w2.cell? ⟨w.heap.size, 0, none⟩ = some (.int .i64 a) := zak hx0n 0
        have b4 : w2.cell? ⟨w.heap.size, 4, none⟩ = some (.int .u64 e) := zak hx0n 4
        have n1 : w2.cell? ⟨wr.heap.size, 1, none⟩ = some (.int .i64 f.kind) := zak hn 1
        have n6 : w2.cell? ⟨wr.heap.size, 6, none⟩ = some (.bool f.bit) := zak hn 6
        have HX0 := Lib.hid hx0n
        have HX1 := Lib.hid hx1n
        have HN := Lib.hid hn
        clear hx0n hx1n hn hx0 hx1 hidx hB)
      clear hil hi
      cases hA : (f.kind == a)
      · have HNO2 := Lib.hid (GO.out (by simp [Form.fits, hA]))
        clear GO FO
        go_wp2_with fail
        exact ⟨⟨i + 1, rfl, by omega, HNO2.out, HX0.out, HX1.out, hBn⟩, by simp only [intOf]; omega⟩
      · cases h1 : (a == 1)
        · cases hb : (f.bit == false)
          · have HNO2 := Lib.hid (GO.out (by simp [Form.fits, hA, h1, hb]))
            clear GO FO
            go_wp2_with fail
            exact ⟨⟨i + 1, rfl, by omega, HNO2.out, HX0.out, HX1.out, hBn⟩, by simp only [intOf]; omega⟩
          · have HFO := Lib.hid (FO.out (by simp [Form.fits, hA, h1, hb]))
            clear GO FO
            go_wp2_with (first
              | (refine wpList_load_row rfl 50 (.tmp 5) rfl wr.heap.size rfl 50 #[.string ⟨f.word.toArray⟩, .int .i64 f.kind, .bool f.from_, .bool f.k, .bool f.a, .bool f.b, .bool f.bit] (0, 0) _ HN.out Tryd.underlying50 rfl (by kernel_rfl) ?_)
              | (refine wpList_store_row rfl 50 (.tmp 2) (.tmp 28) rfl (w.heap.size + 1) #[.string ⟨f.word.toArray⟩, .int .i64 f.kind, .bool f.from_, .bool f.k, .bool f.a, .bool f.b, .bool f.bit] ?e1 ?e2 50 #[.string ⟨#[]⟩, .int .i64 0, .bool false, .bool false, .bool false, .bool false, .bool false] HX1.out ?e4 ?e5 ?e6 ?_
                 (case e1 => rfl)
                 (case e2 => rfl)
                 (case e4 => kernel_rfl)
                 (case e5 => rfl)
                 (case e6 => simp [Value.oneCell'])
                 have hx3 := setRow_heap w2 (w.heap.size + 1) _ #[.string ⟨f.word.toArray⟩, .int .i64 f.kind, .bool f.from_, .bool f.k, .bool f.a, .bool f.b, .bool f.bit] _ _ HX1.out
                 have hB3 := below_setRow hBn (Nat.le_succ w.heap.size) #[.string ⟨f.word.toArray⟩, .int .i64 f.kind, .bool f.from_, .bool f.k, .bool f.a, .bool f.b, .bool f.bit]
                 clear b0 b4 n1 n6 HX0 HX1 HN hBn
                 generalize w2.setRow (w.heap.size + 1) #[.string ⟨f.word.toArray⟩, .int .i64 f.kind, .bool f.from_, .bool f.k, .bool f.a, .bool f.b, .bool f.bit] = w3 at *))
            (try simp only [Exit.inBlock, Exit.then])
            refine bodyPost_ret (zbu rfl _ w3 (w.heap.size + 1) _ _ _ _ rfl hx3 Tryd.underlying50 rfl (by kernel_rfl)) rfl ?_
            rw [HFO.out]
            exact ⟨rfl, hB3⟩
        · cases h2 : (e == 1)
          · cases hb : (f.bit == false)
            · have HNO2 := Lib.hid (GO.out (by simp [Form.fits, hA, h1, h2, hb]))
              clear GO FO
              go_wp2_with fail
              exact ⟨⟨i + 1, rfl, by omega, HNO2.out, HX0.out, HX1.out, hBn⟩, by simp only [intOf]; omega⟩
            · have HFO := Lib.hid (FO.out (by simp [Form.fits, hA, h1, h2, hb]))
              clear GO FO
              go_wp2_with (first
                | (refine wpList_load_row rfl 50 (.tmp 5) rfl wr.heap.size rfl 50 #[.string ⟨f.word.toArray⟩, .int .i64 f.kind, .bool f.from_, .bool f.k, .bool f.a, .bool f.b, .bool f.bit] (0, 0) _ HN.out Tryd.underlying50 rfl (by kernel_rfl) ?_)
                | (refine wpList_store_row rfl 50 (.tmp 2) (.tmp 28) rfl (w.heap.size + 1) #[.string ⟨f.word.toArray⟩, .int .i64 f.kind, .bool f.from_, .bool f.k, .bool f.a, .bool f.b, .bool f.bit] ?e1 ?e2 50 #[.string ⟨#[]⟩, .int .i64 0, .bool false, .bool false, .bool false, .bool false, .bool false] HX1.out ?e4 ?e5 ?e6 ?_
                   (case e1 => rfl)
                   (case e2 => rfl)
                   (case e4 => kernel_rfl)
                   (case e5 => rfl)
                   (case e6 => simp [Value.oneCell'])
                   have hx3 := setRow_heap w2 (w.heap.size + 1) _ #[.string ⟨f.word.toArray⟩, .int .i64 f.kind, .bool f.from_, .bool f.k, .bool f.a, .bool f.b, .bool f.bit] _ _ HX1.out
                   have hB3 := below_setRow hBn (Nat.le_succ w.heap.size) #[.string ⟨f.word.toArray⟩, .int .i64 f.kind, .bool f.from_, .bool f.k, .bool f.a, .bool f.b, .bool f.bit]
                   clear b0 b4 n1 n6 HX0 HX1 HN hBn
                   generalize w2.setRow (w.heap.size + 1) #[.string ⟨f.word.toArray⟩, .int .i64 f.kind, .bool f.from_, .bool f.k, .bool f.a, .bool f.b, .bool f.bit] = w3 at *))
              (try simp only [Exit.inBlock, Exit.then])
              refine bodyPost_ret (zbu rfl _ w3 (w.heap.size + 1) _ _ _ _ rfl hx3 Tryd.underlying50 rfl (by kernel_rfl)) rfl ?_
              rw [HFO.out]
              exact ⟨rfl, hB3⟩
          · cases hb : (f.bit == true)
            · have HNO2 := Lib.hid (GO.out (by simp [Form.fits, hA, h1, h2, hb]))
              clear GO FO
              go_wp2_with fail
              exact ⟨⟨i + 1, rfl, by omega, HNO2.out, HX0.out, HX1.out, hBn⟩, by simp only [intOf]; omega⟩
            · have HFO := Lib.hid (FO.out (by simp [Form.fits, hA, h1, h2, hb]))
              clear GO FO
              go_wp2_with (first
                | (refine wpList_load_row rfl 50 (.tmp 5) rfl wr.heap.size rfl 50 #[.string ⟨f.word.toArray⟩, .int .i64 f.kind, .bool f.from_, .bool f.k, .bool f.a, .bool f.b, .bool f.bit] (0, 0) _ HN.out Tryd.underlying50 rfl (by kernel_rfl) ?_)
                | (refine wpList_store_row rfl 50 (.tmp 2) (.tmp 28) rfl (w.heap.size + 1) #[.string ⟨f.word.toArray⟩, .int .i64 f.kind, .bool f.from_, .bool f.k, .bool f.a, .bool f.b, .bool f.bit] ?e1 ?e2 50 #[.string ⟨#[]⟩, .int .i64 0, .bool false, .bool false, .bool false, .bool false, .bool false] HX1.out ?e4 ?e5 ?e6 ?_
                   (case e1 => rfl)
                   (case e2 => rfl)
                   (case e4 => kernel_rfl)
                   (case e5 => rfl)
                   (case e6 => simp [Value.oneCell'])
                   have hx3 := setRow_heap w2 (w.heap.size + 1) _ #[.string ⟨f.word.toArray⟩, .int .i64 f.kind, .bool f.from_, .bool f.k, .bool f.a, .bool f.b, .bool f.bit] _ _ HX1.out
                   have hB3 := below_setRow hBn (Nat.le_succ w.heap.size) #[.string ⟨f.word.toArray⟩, .int .i64 f.kind, .bool f.from_, .bool f.k, .bool f.a, .bool f.b, .bool f.bit]
                   clear b0 b4 n1 n6 HX0 HX1 HN hBn
                   generalize w2.setRow (w.heap.size + 1) #[.string ⟨f.word.toArray⟩, .int .i64 f.kind, .bool f.from_, .bool f.k, .bool f.a, .bool f.b, .bool f.bit] = w3 at *))
              (try simp only [Exit.inBlock, Exit.then])
              refine bodyPost_ret (zbu rfl _ w3 (w.heap.size + 1) _ _ _ _ rfl hx3 Tryd.underlying50 rfl (by kernel_rfl)) rfl ?_
              rw [HFO.out]
              exact ⟨rfl, hB3⟩
end Go.Proofs.YtmnleabeipmhmaaDoor.P
end
