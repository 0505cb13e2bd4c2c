/- What is proved here: a part of the proof of CircuitAppendMul: Ldw. No conditions beside those that each theorem states. -/
import Derived.Test.YtmnleabeipmhmaaDoorKCAMul6
import Derived.Test.YtmnleabeipmhmaaDoorKCAMul8
import Derived.Test.YtmnleabeipmhmaaDoorRows
import Derived.Stop.LaidErr
import Derived.MakeChecks
import Derived.OpenShut
import Derived.ChangeArms
section
set_option linter.unusedVariables false
set_option linter.unusedSimpArgs false
namespace Go.Proofs.YtmnleabeipmhmaaDoor.P
open Go.RowKit Go.Proofs.YtmnleabeipmhmaaDoorW.PrintWords
structure Form where
  word : List UInt8
  kind : Int
  from_ : Bool
  k : Bool
  a : Bool
  b : Bool
  bit : Bool
def Form.cells (f : Form) : List Value := [.string ⟨f.word.toArray⟩, .int .i64 f.kind, .bool f.from_, .bool f.k, .bool f.a, .bool f.b, .bool f.bit]
def Form.data (f : Form) : DataW Unit := .agg [.lit (.string f.word), .lit (.int .i64 f.kind), .lit (.bool f.from_), .lit (.bool f.k), .lit (.bool f.a), .lit (.bool f.b), .lit (.bool f.bit)]
def forms : List Form := [⟨[105, 110], 1, true, false, false, false, false⟩, ⟨[98, 105, 116], 1, true, false, false, false, true⟩, ⟨[99, 111, 110, 115, 116], 2, false, true, false, false, false⟩, ⟨[97, 100, 100], 3, false, false, true, true, false⟩, ⟨[115, 117, 98], 4, false, false, true, true, false⟩, ⟨[115, 99, 97, 108, 101], 5, false, true, true, false, false⟩, ⟨[109, 117, 108], 6, false, false, true, true, false⟩]
def formsCells : List Value := forms.flatMap Form.cells
theorem list7 {α : Type} (l : List α) (h : l.length = 7) : ∃ c0 c1 c2 c3 c4 c5 c6, l = [c0, c1, c2, c3, c4, c5, c6] := by
  match l, h with
  | [c0, c1, c2, c3, c4, c5, c6], _ => exact ⟨_, _, _, _, _, _, _, rfl⟩
theorem form_cells {enc : TypeId × Value → Unit} {w : World} {base : Nat} {sp : Nat → Bool} {held : Bool} {fuel : Nat} {cs : List Value} {f : Form} {p : List MemPlace}
    (h : DataW.trod enc Tryd.prog w base sp held fuel 50 cs = some (f.data, p)) : cs = f.cells := by
  obtain ⟨xs, n, _, hx, hl, hlen, hf⟩ := DataW.trod_struct Tryd.underlying50 h
  have hl7 : cs.length = 7 := hl.trans (by kernel_rfl)
  have hd : f.data = .agg (xs.map (·.1)) := congrArg Prod.fst hx
  clear hx h hl
  obtain ⟨c0, c1, c2, c3, c4, c5, c6, rfl⟩ := list7 cs hl7
  have hlen7 : xs.length = 7 := hlen
  obtain ⟨x0, x1, x2, x3, x4, x5, x6, rfl⟩ := list7 xs hlen7
  have i0 : (Tryd.prog.cellsOf 9) = 1 := by kernel_rfl
  have i1 : (Tryd.prog.cellsOf 3) = 1 := by kernel_rfl
  have i2 : (Tryd.prog.cellsOf 4) = 1 := by kernel_rfl
  have h0 : DataW.trod enc Tryd.prog w base sp held n 9 (([c0, c1, c2, c3, c4, c5, c6].drop 0).take (Tryd.prog.cellsOf 9)) = some x0 := hf 0 _ rfl
  have h1 : DataW.trod enc Tryd.prog w base sp held n 3 (([c0, c1, c2, c3, c4, c5, c6].drop 1).take (Tryd.prog.cellsOf 3)) = some x1 := hf 1 _ rfl
  have h2 : DataW.trod enc Tryd.prog w base sp held n 4 (([c0, c1, c2, c3, c4, c5, c6].drop 2).take (Tryd.prog.cellsOf 4)) = some x2 := hf 2 _ rfl
  have h3 : DataW.trod enc Tryd.prog w base sp held n 4 (([c0, c1, c2, c3, c4, c5, c6].drop 3).take (Tryd.prog.cellsOf 4)) = some x3 := hf 3 _ rfl
  have h4 : DataW.trod enc Tryd.prog w base sp held n 4 (([c0, c1, c2, c3, c4, c5, c6].drop 4).take (Tryd.prog.cellsOf 4)) = some x4 := hf 4 _ rfl
  have h5 : DataW.trod enc Tryd.prog w base sp held n 4 (([c0, c1, c2, c3, c4, c5, c6].drop 5).take (Tryd.prog.cellsOf 4)) = some x5 := hf 5 _ rfl
  have h6 : DataW.trod enc Tryd.prog w base sp held n 4 (([c0, c1, c2, c3, c4, c5, c6].drop 6).take (Tryd.prog.cellsOf 4)) = some x6 := hf 6 _ rfl
  simp only [i0, i1, i2, List.drop_zero, List.drop_succ_cons, List.take_succ_cons, List.take_zero, List.getElem?_cons_zero, List.getElem?_cons_succ] at h0 h1 h2 h3 h4 h5 h6
  obtain ⟨s0, e0, q0, _⟩ := DataW.trod_string Tryd.underlying9 h0
  obtain ⟨s1, e1, q1, _⟩ := DataW.trod_int Tryd.underlying3 h1
  obtain ⟨s2, e2, q2⟩ := DataW.trod_bool Tryd.underlying4 h2
  obtain ⟨s3, e3, q3⟩ := DataW.trod_bool Tryd.underlying4 h3
  obtain ⟨s4, e4, q4⟩ := DataW.trod_bool Tryd.underlying4 h4
  obtain ⟨s5, e5, q5⟩ := DataW.trod_bool Tryd.underlying4 h5
  obtain ⟨s6, e6, q6⟩ := DataW.trod_bool Tryd.underlying4 h6
  subst q0 q1 q2 q3 q4 q5 q6
  simp only [Form.data, List.map_cons, List.map_nil, DataW.agg.injEq, List.cons.injEq, DataW.lit.injEq, Lit.string.injEq, Lit.int.injEq, Lit.bool.injEq, and_true, true_and] at hd
  simp only [List.cons.injEq, and_true] at e0 e1 e2 e3 e4 e5 e6
  obtain ⟨d0, d1, d2, d3, d4, d5, d6⟩ := hd
  rw [e0, e1, e2, e3, e4, e5, e6, Form.cells, d0, d1, d2, d3, d4, d5, d6]
theorem forms_cells {enc : TypeId × Value → Unit} {w : World} {base : Nat} {sp : Nat → Bool} {held : Bool} {fuel : Nat} {cs : List Value} {p : List MemPlace}
    (h : DataW.trod enc Tryd.prog w base sp held fuel 88 cs = some (.agg (forms.map Form.data), p)) : cs = formsCells := by
  obtain ⟨xs, m, _, hx, hl, hlen, hf⟩ := DataW.trod_array Tryd.underlying88 h
  have hl49 : cs.length = 49 := hl.trans (by kernel_rfl)
  have i7 : Tryd.prog.cellsOf 50 = 7 := by kernel_rfl
  have hd : (DataW.agg (forms.map Form.data) : DataW Unit) = .agg (xs.map (·.1)) := congrArg Prod.fst hx
  have hd2 : forms.map Form.data = xs.map (·.1) := by injection hd
  have key : ∀ (i : Nat) (f : Form), forms[i]? = some f → (cs.drop (i * 7)).take 7 = f.cells := by
    intro i f hi
    have hlt : i < 7 := by
      have := (List.getElem?_eq_some_iff.1 hi).1
      simpa [forms] using this
    have h1 := hf i hlt
    rw [i7] at h1
    have h2 : xs[i]?.map (·.1) = some f.data := by rw [← List.getElem?_map, ← hd2, List.getElem?_map, hi]; rfl
    cases hxi : xs[i]? with
    | none => rw [hxi] at h2; simp at h2
    | some y =>
      rw [hxi] at h1 h2
      obtain ⟨y1, y2⟩ := y
      simp only [Option.map_some, Option.some.injEq] at h2
      subst h2
      exact form_cells h1
  have k0 := key 0 _ rfl
  have k1 := key 1 _ rfl
  have k2 := key 2 _ rfl
  have k3 := key 3 _ rfl
  have k4 := key 4 _ rfl
  have k5 := key 5 _ rfl
  have k6 := key 6 _ rfl
  have split : cs = (cs.drop 0).take 7 ++ ((cs.drop 7).take 7 ++ ((cs.drop 14).take 7 ++ ((cs.drop 21).take 7 ++ ((cs.drop 28).take 7 ++ ((cs.drop 35).take 7 ++ (cs.drop 42).take 7))))) := by
    have s6 : (cs.drop 42).take 7 = cs.drop 42 := List.take_of_length_le (by rw [List.length_drop]; omega)
    have st : ∀ n : Nat, (cs.drop n).take 7 ++ cs.drop (n + 7) = cs.drop n := fun n => by rw [← List.drop_drop]; exact List.take_append_drop 7 _
    rw [s6, st 35, st 28, st 21, st 14, st 7, st 0, List.drop_zero]
  rw [split]
  simp only [Nat.zero_mul, Nat.one_mul, Nat.reduceMul] at k0 k1 k2 k3 k4 k5 k6
  rw [k0, k1, k2, k3, k4, k5, k6]
  rfl
def Forms (w : World) : Prop := ∃ e fr, w.heap[(0 : Nat)]? = some (.cells formsCells.toArray e fr)
def Exps (w : World) : Prop := ∃ e fr, w.heap[(1 : Nat)]? = some (.cells (([5, 7, 13, 17, 19, 31, 61] : List Int).map fun z => Value.int .i64 z).toArray e fr)
def Ld (w : World) : Prop := (Fmt.Tab w ∧ Fmt.Errs w) ∧ Forms w ∧ Exps w
theorem Ld.tab {w : World} (h : Ld w) : Fmt.Tab w := h.1.1
theorem Ld.errs {w : World} (h : Ld w) : Fmt.Errs w := h.1.2
theorem zbl {w w' : World} {g : Nat} {o : Obj} (h : w.heap[g]? = some o) (hb : Below w.heap.size w w') : w'.heap[g]? = some o := by
  have hlt : g < w.heap.size := (Array.getElem?_eq_some_iff.1 h).1
  rw [hb.block g hlt]; exact h
theorem Ld.below {w w' : World} (h : Ld w) (hb : Below w.heap.size w w') : Ld w' := by
  obtain ⟨⟨h1, ⟨t1, p1, e1⟩, ⟨t2, p2, e2⟩⟩, ⟨u1, u2, u3⟩, ⟨v1, v2, v3⟩⟩ := h
  refine ⟨⟨?_, ⟨t1, p1, ?_⟩, ⟨t2, p2, ?_⟩⟩, ⟨u1, u2, zbl u3 hb⟩, ⟨v1, v2, zbl v3 hb⟩⟩
  · unfold Fmt.Tab Lib.TabIs World.var? at *
    cases hg : Tryd.prog.globalNamed "internal/strconv.uint64pow10" with
    | none => simp [hg] at h1
    | some g =>
      simp only [hg, Option.bind_some] at h1 ⊢
      have hlt : g < w.heap.size := by
        rcases Nat.lt_or_ge g w.heap.size with h' | h'
        · exact h'
        · rw [Array.getElem?_eq_none h'] at h1; simp at h1
      rw [hb.block g hlt]
      exact h1
  · exact (hb.cell (World.block_lt_of_cell? w _ e1)).trans e1
  · exact (hb.cell (World.block_lt_of_cell? w _ e2)).trans e2
theorem star : "*" ++ "errors.errorString" = "*errors.errorString" := by decide
theorem errName (u : TypeId) (h : Tryd.prog.typeName? 3 u = some "*errors.errorString") : u = 145 :=
  typeName_ptr_named (nm := "errors.errorString") (by rw [star]; kernel_rfl) (by kernel_rfl) (by decide) u (by rw [star]; exact h)
theorem var_block {w : World} {name : String} {g : Nat} {cs : Array Value} (hg : Tryd.prog.globalNamed name = some g) (h : w.var? Tryd.prog name = some cs) : ∃ e fr, w.heap[g]? = some (.cells cs e fr) := by
  unfold World.var? at h
  simp only [hg, Option.bind_some] at h
  split at h
  · next cs' e fr heq => exact ⟨e, fr, by rw [heq, Option.some.inj h]⟩
  · cases h
theorem Ld.of {w : World} (h : laidMetH Tryd.prog [("math/bits.deBruijn32tab", Rows.laid_math_bits_deBruijn32tab), ("math/bits.deBruijn64tab", Rows.laid_math_bits_deBruijn64tab), ("internal/strconv.uint64pow10", Rows.laid_internal_strconv_uint64pow10), ("privity/field.exps", Rows.laid_privity_field_exps), ("unicode/utf8.acceptRanges", Rows.laid_unicode_utf8_acceptRanges), ("strconv.ErrRange", Rows.laid_strconv_ErrRange), ("strconv.ErrSyntax", Rows.laid_strconv_ErrSyntax), ("privity/circuit.forms", Rows.laid_privity_circuit_forms), ("unicode/utf8.first", Rows.laid_unicode_utf8_first)] w) : Ld w := by
  rw [MakeChecks.laidMetH_plain _ _ _ (by kernel_rfl)] at h
  have hp : (Rows.laid_internal_strconv_uint64pow10 : DataW Unit) = Lib.tabData .u64 Lib.pow10Tab := by kernel_rfl
  have hq : (Rows.laid_privity_field_exps : DataW Unit) = Lib.tabData .i64 [5, 7, 13, 17, 19, 31, 61] := by kernel_rfl
  have hr : (Rows.laid_privity_circuit_forms : DataW Unit) = .agg (forms.map Form.data) := by kernel_rfl
  have h3 := h.tail.tail
  rw [hp] at h3
  have h4 := h.tail.tail.tail
  rw [hq] at h4
  have h8 := h.tail.tail.tail.tail.tail.tail.tail
  rw [hr] at h8
  refine ⟨⟨Lib.tabIs_of_head (g := 3) (t := 123) (e := 22) (n := 20) (by kernel_rfl) (by kernel_rfl) Tryd.underlying123 Tryd.underlying22 (by kernel_rfl) (by kernel_rfl) h3, ?_⟩, ?_, ?_⟩
  · obtain ⟨a0, s0, hv0, _⟩ := laid_sentinel h.tail.tail.tail.tail.tail (g := 7) (ti := 58) (by kernel_rfl) (by kernel_rfl) Tryd.underlying58 errName Tryd.underlying145 Tryd.underlying147 rfl rfl Tryd.underlying9 (by kernel_rfl) (by kernel_rfl)
    obtain ⟨a1, s1, hv1, _⟩ := laid_sentinel h.tail.tail.tail.tail.tail.tail (g := 6) (ti := 58) (by kernel_rfl) (by kernel_rfl) Tryd.underlying58 errName Tryd.underlying145 Tryd.underlying147 rfl rfl Tryd.underlying9 (by kernel_rfl) (by kernel_rfl)
    exact ⟨⟨_, _, by simpa using World.var?_cell (g := 7) (by kernel_rfl) hv0 0⟩, ⟨_, _, by simpa using World.var?_cell (g := 6) (by kernel_rfl) hv1 0⟩⟩
  · obtain ⟨ps, ⟨g', t', cs, fuel, p, q, hg', ht', hvar, hd, _, _⟩, _⟩ := h8
    obtain rfl := Option.some.inj ((show Tryd.prog.globalNamed "privity/circuit.forms" = some 0 by kernel_rfl).symm.trans hg')
    obtain rfl := Option.some.inj ((show (Tryd.prog.globals[(0 : Nat)]?).map (·.type) = some 88 by kernel_rfl).symm.trans ht')
    obtain ⟨e, fr, hb⟩ := var_block hg' hvar
    have hc := forms_cells hd
    exact ⟨e, fr, by rw [hb, ← hc]⟩
  · have ht := Lib.tabIs_of_head (g := 1) (t := 108) (e := 3) (n := 7) (by kernel_rfl) (by kernel_rfl) Tryd.underlying108 Tryd.underlying3 (by kernel_rfl) (by kernel_rfl) h4
    exact var_block (by kernel_rfl) ht
end Go.Proofs.YtmnleabeipmhmaaDoor.P
end
