/- What is proved: the contracts of view.lists, of its iterator and of slices.Collect over it at this seat's translation: for every view the list of its events' words is collected. -/
import Derived.Test.YtojbfgaipkllbaaPx0
import Derived.Test.YtojbfgaipkllbaaRng
import Derived.Lib.Hide
import Derived.Maps.AppendAt
import Derived.Shelf.Abstract
set_option linter.unusedVariables false
set_option linter.unusedSimpArgs false
namespace Go.Proofs.Ytojbfgaipkllbaa.P
open Go.RowKit Go.Shelf Go.Proofs.Ytojbfgaipkllbaa.Rng Go.Proofs.YtojbfgaipkllbaaW.PrintWords
attribute [local go_sem] Oper.semAt_some

/-- A list of words in memory of the call's own: where it begins, its capacity, its words. -/
structure Hdr where
  A : Option Addr
  cap : Nat
  ws : List Int
def Hdr.v (x : Hdr) : Value := .slice x.A x.ws.length x.cap
def Hdr.Ok (B : Nat) (x : Hdr) (W : World) : Prop := W.ownsRow B 39 1 x.v x.ws.length (nums .u64 x.ws)
/-- Rows of other types than the collected one's elements, and than the variable's that is collected into, are kept. -/
def Keeps (W W' : World) : Prop := ∀ (k : Nat) (c : Array Value) (t : TypeId) (fz : Nat × Nat), W.heap[k]? = some (Obj.cells c t fz) → t ≠ 34 → t ≠ 42 → W'.heap[k]? = some (Obj.cells c t fz)
theorem Keeps.trans {A B C : World} (h : Keeps A B) (k : Keeps B C) : Keeps A C := fun i c t fz hi h1 h2 => k i c t fz (h i c t fz hi h1 h2) h1 h2
theorem Hdr.Ok.keeps {B : Nat} {x : Hdr} {W W' : World} (h : x.Ok B W) (hk : Keeps W W') : x.Ok B W' := by
  refine own_move h fun k hb => ?_
  obtain ⟨cells, hc⟩ := own_typed h k hb
  exact (hk k _ _ _ hc (by decide) (by decide)).trans hc.symm
theorem Hdr.Ok.below {B : Nat} {x : Hdr} {W W' : World} (h : x.Ok B W) (hb : Below W.heap.size W W') : x.Ok B W' := pw_own_below h hb
def Kp (n₀ : Nat) (W W' : World) : Prop := Below n₀ W W' ∧ Keeps W W'
theorem Kp.trans {n₀ : Nat} {A B C : World} (h : Kp n₀ A B) (k : Kp n₀ B C) : Kp n₀ A C := ⟨h.1.trans k.1, h.2.trans k.2⟩

/-- An event as the words that are encoded. -/
def evw (e : S36) : List Int := [IntKind.u64.wrap e.f0, IntKind.u64.wrap e.f1] ++ e.f2

section
variable {F : Fence} {n : Nat} {P : Program} {ops : Array Oper} {rest : List Oper} {o : Oper} {a : Act} {Q : Exit → Act → World → Prop} {W : World}
/-- append of a nil slice. -/
theorem wpListIn_append_none (hgd : o.guard = none) (s x : Operand) (t e : TypeId) (i : TypeInfo) (ho : o.op = Op.call { callee := Callee.builtin Builtin.append, args := #[s, x], argTypes := #[t, t] })
    (ht : P.underlying t = some (.slice e)) (hi : P.info? e = some i) (g : Addr) (m cap c : Nat) (hs : a.eval s = .slice (some g) m cap) (hx : a.eval x = .slice none 0 c) (hm : m ≤ cap)
    (h : wpListIn F n P ops Q rest (a.put o.dst (.slice (some g) m cap)) W) : wpListIn F n P ops Q (o :: rest) a W := by
  refine wpListIn_plain hgd fun K hK' => ?_
  have hrun : (Builtin.append_ #[t, t] o.type #[.slice (some g) m cap, .slice none 0 c]).run P W = .ok (.slice (some g) m cap) W := by
    simp [Builtin.append_, run_underlying ht, sizeOf, typeInfo, hi, Builtin.lenOf, Builtin.firstCells, hm, storeCells]
  unfold Oper.wpIn
  refine ⟨?_, ?_⟩
  · simp [Oper.about, ho, resolve, Target.leads, Sem.run_pure]
  · rw [Oper.semAt_plain F _ _ (by rw [ho]; intro c hc'; cases hc')]
    simp [execOp, ho, resolve, invoke, builtin, hs, hx, hrun, Result.andThen]
    exact hK' _ _ h
end

theorem infoU : (Try.prog.info? 39).map (fun i => (i.zero, i.size, i.bytes)) = some (some (.int .u64 0), 1, 8) := by kernel_rfl
theorem infoSl : (Try.prog.info? 34).map (fun i => (i.zero, i.size, i.bytes)) = some (some (.slice none 0 0), 1, 24) := by kernel_rfl

set_option maxRecDepth 100000 in
set_option maxHeartbeats 2000000 in
theorem lists_in (F : Fence) (n : Nat) (hf : F.fn 23) (hro : F.round = none) (v : Value) (A : Option Addr) (len c : Nat) (hv : v = .slice A len c) (w : World) :
    CallsIn F n Try.prog 23 #[v] w fun e w' => e = .returned (.func (.func 31) #[] #[.pointer (some ⟨w.heap.size, 0, none⟩)]) ∧ w' = w.alloc (.cells #[v] 27) := by
  subst hv
  refine callsIn_of_wp Try.func23 rfl hf ?_ hro
  simp only [Try.ntmps23, List.size_toArray, List.length_cons, List.length_nil, Nat.reduceAdd, Nat.reduceSub, Array.replicate_succ, Array.replicate_zero, List.push_toArray, List.append_toArray, List.nil_append, List.cons_append]
  gi_wp2
  go_ret
  exact ⟨rfl, rfl⟩

set_option maxRecDepth 100000 in
set_option maxHeartbeats 4000000 in
theorem lists1_in (F : Fence) (n : Nat) (hf : F.fn 31) (hro : F.round = none) (hn : 1 ≤ n) (l Bv n₀ : Nat) (A : Option Addr) (c : Nat) (es : List S36) (hbig : ∀ e ∈ es, e.f2.length + 2 ≤ 17592186044416) (J : List Hdr → World → Prop) (hJ : Abides1 J) (W : World)
    (hY : ∀ pre (x : Hdr) W1, J pre W1 → x.Ok W.heap.size W1 → pre.length < es.length → YieldAt F (n - 1) Try.prog l #[x.v] W1 fun e W' => e = .returned (.bool true) ∧ J (pre ++ [x]) W' ∧ Kp n₀ W1 W')
    (hn₀ : n₀ ≤ W.heap.size) (hBv : W.cell? ⟨Bv, 0, none⟩ = some (.slice A es.length c)) (hBn : Bv < n₀) (w : World) (hw : Below w.heap.size w W) (hwn : w.heap.size ≤ n₀) (hE : Kd.C k36 w A es.length es) (h0 : J [] W) :
    CallsIn F n Try.prog 31 #[.func (.yield l) #[] #[], .pointer (some ⟨Bv, 0, none⟩)] W fun e W' => (∃ v, e = .returned v) ∧ ∃ xs : List Hdr, (xs.map Hdr.ws = es.map evw ∧ ∀ x ∈ xs, x.Ok W.heap.size W') ∧ J xs W' := by
  refine callsIn_of_wp Try.func31 rfl hf ?_ hro
  simp only [Try.ntmps31, List.size_toArray, List.length_cons, List.length_nil, Nat.reduceAdd, Nat.reduceSub, Array.replicate_succ, Array.replicate_zero, List.push_toArray, List.append_toArray, List.nil_append, List.cons_append]
  have hmax : es.length ≤ 9223372036854775807 := hE.2.1
  gi_wp2
  gi_loopw [7] (fun i wr => ∃ (k : Nat) (pre : List Hdr), k ≤ es.length ∧ i = .int .i64 k ∧ pre.map Hdr.ws = (es.take k).map evw ∧ (∀ x ∈ pre, x.Ok W.heap.size wr) ∧ J pre wr ∧ Below n₀ W wr)
    (fun i _ => es.length - (intOf i).toNat)
  case atStart => exact ⟨0, [], Nat.zero_le _, rfl, by simp, fun _ h => by simp at h, h0, Below.refl _ _⟩
  case round =>
    obtain ⟨k, pre, hk, rfl, hpre, hok, hJs, hb⟩ := hrel
    have hsz := hb.size
    have HP := Lib.hid hpre
    have HO := Lib.hid hok
    clear hpre hok hBv
    by_cases hlt : k < es.length
    · obtain ⟨ad, A2, c2, rfl, x0, x1, x2, hl2, hr2⟩ := at_T36 hE (k : Int) (by omega) (by omega)
      have hEk : rd_T36 es (k : Int) = es[k] := by simp [rd_T36, hlt]
      rw [hEk] at x0 x1 x2 hl2 hr2
      have hwr : Below w.heap.size w wr := hw.trans (hb.mono hwn)
      replace x0 := (hwr.cell (World.block_lt_of_cell? w _ x0)).trans x0
      replace x1 := (hwr.cell (World.block_lt_of_cell? w _ x1)).trans x1
      replace x2 := (hwr.cell (World.block_lt_of_cell? w _ x2)).trans x2
      replace hr2 := Kd.C_below hr2 hwr
      have hbk := hbig es[k] (List.getElem_mem hlt)
      generalize hev : es[k] = ev at *
      have HE := Lib.hid hev
      clear hev hEk
      rw [show ((k : Int)).toNat = k from rfl] at x0 x1 x2
      have HR := Lib.hid hr2
      clear hr2
      have hpl : pre.length = k := by
        have := congrArg List.length HP.out
        simp at this; omega
      obtain ⟨i0, hi, hz0, hz1, hz2⟩ := info_parts infoU
      obtain ⟨X, hX⟩ : ∃ X : Obj, X = .cells #[.int .i64 ev.f0, .int .i64 ev.f1, .slice A2 ev.f2.length c2] 36 := ⟨_, rfl⟩
      obtain ⟨Y, hYY⟩ : ∃ Y : Obj, Y = .cells #[.int .u64 (IntKind.u64.wrap ev.f0), .int .u64 (IntKind.u64.wrap ev.f1)] 39 := ⟨_, rfl⟩
      have hW2 : Below wr.heap.size wr ((wr.alloc X).alloc Y) := ((Below.refl _ _).alloc (Nat.le_refl _) _).alloc (by simp) _
      have hlit := own_lit (wr.alloc X) W.heap.size 39 .u64 [IntKind.u64.wrap ev.f0, IntKind.u64.wrap ev.f1] (by simp; omega) (by simp)
      rw [show (Obj.cells (nums .u64 [IntKind.u64.wrap ev.f0, IntKind.u64.wrap ev.f1]).toArray 39) = Y from by rw [hYY]; rfl] at hlit
      rw [World.size_alloc] at hlit
      have hstep : ∀ v' w', w'.ownsRow W.heap.size 39 1 v' (2 + ev.f2.length) (nums .u64 [IntKind.u64.wrap ev.f0, IntKind.u64.wrap ev.f1] ++ nums .u64 ev.f2) → Below wr.heap.size wr w' →
          ∃ A' cap' fn tmps assign body, v' = .slice A' (2 + ev.f2.length) cap' ∧ Sem.run Try.prog (Instr.yield l #[.slice A' (2 + ev.f2.length) cap']) w' = .ok (.round l fn tmps assign body) w' ∧
            RoundIn F (n - 1) Try.prog l fn tmps assign body w' (fun e W' => e = .returned (.bool true) ∧ (∃ x : Hdr, x.ws = evw ev ∧ J (pre ++ [x]) W' ∧ (∀ y ∈ pre ++ [x], y.Ok W.heap.size W')) ∧ Below n₀ W W') := by
        intro v' w' hown hbw
        obtain ⟨A', cap', rfl⟩ : ∃ A' cap', v' = .slice A' (2 + ev.f2.length) cap' := by
          rcases hown.2 with ⟨_, h0⟩ | ⟨g, cap, cur, hv, _⟩
          · omega
          · exact ⟨_, _, hv⟩
        have hxl : (evw ev).length = 2 + ev.f2.length := by simp [evw]; omega
        have hxo : (Hdr.mk A' cap' (evw ev)).Ok W.heap.size w' := by
          show w'.ownsRow W.heap.size 39 1 (.slice A' (evw ev).length cap') (evw ev).length (nums .u64 (evw ev))
          rw [hxl, show nums .u64 (evw ev) = nums .u64 [IntKind.u64.wrap ev.f0, IntKind.u64.wrap ev.f1] ++ nums .u64 ev.f2 from by simp [evw, nums]]
          exact hown
        obtain ⟨fn, tmps, assign, body, hy, hR'⟩ := hY pre ⟨A', cap', evw ev⟩ w' (hJ _ _ _ hJs hbw) hxo (by omega)
        refine ⟨A', cap', fn, tmps, assign, body, rfl, ?_, ?_⟩
        · rw [← hxl]; exact hy
        · refine hR'.mono ?_
          rintro e W3 ⟨he, hj, hkb, hkk⟩
          refine ⟨he, ⟨_, rfl, hj, ?_⟩, hb.trans ((hbw.mono (by omega)).trans hkb)⟩
          intro y hy'
          rcases List.mem_append.1 hy' with h | h
          · exact ((HO.out y h).below hbw).keeps hkk
          · rw [List.mem_singleton] at h
            rw [h]; exact hxo.keeps hkk
      have HS := Lib.hid hstep
      clear hstep hJ hY
      have hnx : (es.take (k + 1)).map evw = (es.take k).map evw ++ [evw ev] := by
        rw [List.take_succ_eq_append_getElem hlt, List.map_append, HE.out]; rfl
      have HN := Lib.hid hnx
      clear hnx
      rcases A2 with _ | a2
      · have hws : ev.f2.length = 0 := by
          rcases Nat.eq_zero_or_pos ev.f2.length with h | h
          · exact h
          · obtain ⟨ad, h, _⟩ := HR.out.2.2 h
            cases h
        obtain ⟨A', cap', fn, tmps, assign, body, hv, hy, hRR⟩ := HS.out _ _ (by have := hlit; rw [show ev.f2 = [] from List.eq_nil_of_length_eq_zero hws]; simpa [nums] using this) hW2
        simp only [Value.slice.injEq] at hv
        obtain ⟨rfl, h2, rfl⟩ := hv
        clear h2
        rw [hws, Nat.add_zero] at hy
        rw [hws] at x2
        rw [hws] at hX
        rw [hX, hYY] at hy hRR
        clear hlit hX hYY hW2 hws hbk hl2 hE HR hwr
        gi_wp2_with (gi_at_builtin; refine wpListIn_append_none rfl _ _ 34 39 i0 rfl Try.underlying34 hi _ 2 2 c2 rfl rfl (by omega) ?_)
        refine hRR.mono ?_
        rintro e W3 ⟨rfl, ⟨x, hxw, hjx, hokx⟩, hbx⟩
        have HJ := Lib.hid hjx
        have HK := Lib.hid hokx
        have HW := Lib.hid hxw
        clear hjx hokx hxw hRR hy HS
        gi_wp2
        go_roundw
        case rel => exact ⟨k + 1, pre ++ [x], by omega, by simp, by rw [HN.out, List.map_append, HP.out, List.map_singleton, HW.out], HK.out, HJ.out, hbx⟩
        case measure => simp [intOf]; omega
      · have hcells : ∀ j u, (nums .u64 ev.f2)[j]? = some u → wr.cell? (a2.add j) = some u := by
          intro j u hu
          rw [nums, List.getElem?_map, Option.map_eq_some_iff] at hu
          obtain ⟨q, hq, rfl⟩ := hu
          have hj : j < ev.f2.length := (List.getElem?_eq_some_iff.1 hq).1
          obtain ⟨ad', e', hc'⟩ := HR.out.2.2 (by omega)
          cases e'
          obtain ⟨cc, _, hcc, hcell⟩ := hc' j q hq
          have hcc' : cc = [.int .u64 q] := hcc
          subst hcc'
          have := hcell 0 _ rfl
          rwa [show j * (Kd.int IntKind.u64).sz + 0 = j from Nat.mul_one j] at this
        have HC := Lib.hid hcells
        clear hcells
        rw [hX, hYY] at hlit hW2
        have HL := Lib.hid hlit
        have HW2 := Lib.hid hW2
        clear hX hYY hlit hW2
        gi_wp2_with (gi_at_builtin; refine wpListIn_append_own _ rfl _ _ 34 rfl W.heap.size 39 i0 (.int .u64 0) 1 8 Try.underlying34 hi hz0 hz1 hz2 rfl (by decide) _ 2 _ rfl HL.out a2 ev.f2.length c2 (nums .u64 ev.f2) rfl (by simp [nums]) ?c1 ?c2 ?c3 ?c4 ?c5 ?_; (case c1 => intro j u hu; exact (HW2.out.cell (World.block_lt_of_cell? wr _ (HC.out j u hu))).trans (HC.out j u hu)); (case c2 => intro u hu; (obtain ⟨q, _, rfl⟩ := List.mem_map.1 hu); rfl); (case c3 => unfold maxLen; omega); (case c4 => omega); (case c5 => simp; omega); intro v' w' hown' hgrow _; (obtain ⟨A', cap', fn, tmps, assign, body, rfl, hy, hRR⟩ := HS.out v' w' hown' (HW2.out.grown hgrow (by simp; omega) (fun r e => by have e2 := Option.some.inj (show some (wr.heap.size + 1) = some r from e); omega))); clear hown' hgrow)
        refine hRR.mono ?_
        rintro e W3 ⟨rfl, ⟨x, hxw, hjx, hokx⟩, hbx⟩
        have HJ := Lib.hid hjx
        have HK := Lib.hid hokx
        have HW := Lib.hid hxw
        clear hjx hokx hxw hRR hy HS
        gi_wp2
        go_roundw
        case rel => exact ⟨k + 1, pre ++ [x], by omega, by simp, by rw [HN.out, List.map_append, HP.out, List.map_singleton, HW.out], HK.out, HJ.out, hbx⟩
        case measure => simp [intOf]; omega
    · obtain rfl : k = es.length := by omega
      gi_wp2
      go_end0
      exact ⟨⟨_, rfl⟩, pre, ⟨by simpa using HP.out, HO.out⟩, hJs⟩

end Go.Proofs.Ytojbfgaipkllbaa.P
