/- What is proved here: a part of the proof of ScriptFormatInjective: Srb. No conditions beside those that each theorem states. -/
import Derived.Test.YtfgbdcpfbghdoaaGreatDoorKSFIve24
section
set_option linter.unusedVariables false
set_option linter.unusedSimpArgs false
namespace Go.Proofs.YtfgbdcpfbghdoaaGreatDoor.P
open Go.RowKit Go.Proofs.YtfgbdcpfbghdoaaGreatDoorW.PrintWords Go.Proofs.YtfgbdcpfbghdoaaGreatDoorW.PrintLast Go.Proofs.YtfgbdcpfbghdoaaGreatDoorW.PrintMore
theorem below_bytes (W : World) (s : ByteArray) : Below W.heap.size W (Lib.bytesWorld W 5 s) := ⟨rfl, rfl, rfl, by rw [Lib.bytesWorld_size]; omega, fun i hi => Lib.bytesWorld_at_old W 5 s i hi⟩
set_option maxHeartbeats 16000000 in
set_option maxRecDepth 100000 in
theorem build_calls (g g1 c1 : Nat) (x0 x1 x2 x3 : Value) (w : World) (hg : w.heap[g]? = some (.cells #[x0, x1, x2, x3, .slice (some ⟨g1, 0, none⟩) 6 c1] 96 (0, 0))) (hc : ∀ j u, pairs[j]? = some u → w.cell? ⟨g1, j, none⟩ = some u) (hlt1 : g1 < w.heap.size) :
    Calls Tryz.prog 62 #[.pointer (some ⟨g, 0, none⟩)] w fun e w' => ∃ b v, e = .returned (.iface 123 (.pointer (some ⟨b, 0, none⟩))) ∧ TS w.heap.size b 3 v w' ∧ Below w.heap.size w w' := by
  have hc4 : w.cell? ⟨g, 4, none⟩ = some (.slice (some ⟨g1, 0, none⟩) 6 c1) := (blk_cell hg 4).trans rfl
  have e0 : w.cell? ⟨g1, 0, none⟩ = some (.string ⟨#[94]⟩) := hc 0 _ rfl
  have e1 : w.cell? ⟨g1, 1, none⟩ = some (.string ⟨#[94, 99]⟩) := hc 1 _ rfl
  have e2 : w.cell? ⟨g1, 2, none⟩ = some (.string ⟨#[34]⟩) := hc 2 _ rfl
  have e3 : w.cell? ⟨g1, 3, none⟩ = some (.string ⟨#[94, 113]⟩) := hc 3 _ rfl
  have e4 : w.cell? ⟨g1, 4, none⟩ = some (.string ⟨#[10]⟩) := hc 4 _ rfl
  have e5 : w.cell? ⟨g1, 5, none⟩ = some (.string ⟨#[94, 110]⟩) := hc 5 _ rfl
  obtain ⟨i0, hi, hz0, hz1, hz2⟩ := info_parts infoStr
  have hmk : ∀ W : World, (Instr.makeSlice 34 (.int .i64 0) (.int .i64 3)).run Tryz.prog W = .ok (.slice (some ⟨W.heap.size, 0, none⟩) 0 3) (W.alloc (.cells #[.string ⟨#[]⟩, .string ⟨#[]⟩, .string ⟨#[]⟩] 9)) := by
    intro W
    have h := run_make (P := Tryz.prog) W 34 9 i0 (.string ⟨#[]⟩) Tryz.underlying34 hi hz0 .i64 .i64 0 3 (by decide) (by decide) (by rw [hz2]; decide) (by decide)
    rw [hz1] at h
    have e : madeCells (Value.string ⟨#[]⟩).cells (Int.toNat 3 * 1) = #[.string ⟨#[]⟩, .string ⟨#[]⟩, .string ⟨#[]⟩] := by first | rfl | decide | kernel_rfl
    rw [e] at h
    exact h
  have hst : ∀ W : World, (storeCells ⟨W.heap.size + 1, 0, none⟩ (Tryz.zeroCells122.toList.set 256 (.slice (some ⟨W.heap.size, 0, none⟩) 0 3))).run Tryz.prog ((W.alloc (.cells #[.string ⟨#[]⟩, .string ⟨#[]⟩, .string ⟨#[]⟩] 9)).alloc (.cells Tryz.zeroCells122 122)) = .ok () ((W.alloc (.cells #[.string ⟨#[]⟩, .string ⟨#[]⟩, .string ⟨#[]⟩] 9)).alloc (.cells (tab1 Tryz.zeroCells122 (.slice (some ⟨W.heap.size, 0, none⟩) 0 3)) 122)) := store122
  go_enter Tryz.func62, Tryz.ntmps62
  go_wp2_with fail
  go_loopw [4, 5] (fun v4 v5 wr => wr = w ∧ ((v5 = .int .i64 0 ∧ v4 = .bool true) ∨ (v4 = .bool false ∧ (v5 = .int .i64 2 ∨ v5 = .int .i64 4 ∨ v5 = .int .i64 6)))) (fun _ v5 _ => ((6 : Int) - intOf v5).toNat)
  case atStart => exact ⟨rfl, .inl ⟨rfl, rfl⟩⟩
  case round =>
    obtain ⟨hw, h⟩ := hrel
    rw [hw]
    clear hw wr
    rcases h with ⟨rfl, rfl⟩ | ⟨rfl, rfl | rfl | rfl⟩
    · go_wp2
      exact ⟨⟨by first | rfl | trivial, .inr ⟨rfl, .inl rfl⟩⟩, by simp only [intOf]; omega⟩
    · go_wp2
      exact ⟨⟨by first | rfl | trivial, .inr ⟨rfl, .inr (.inl rfl)⟩⟩, by simp only [intOf]; omega⟩
    · go_wp2
      exact ⟨⟨by first | rfl | trivial, .inr ⟨rfl, .inr (.inr rfl)⟩⟩, by simp only [intOf]; omega⟩
    · go_wp2_with fail
      clear hmk hst
      have hn : (w.alloc (.cells #[.string ⟨#[]⟩, .string ⟨#[]⟩, .string ⟨#[]⟩] 9)).heap.size = w.heap.size + 1 := by show (w.heap.push _).size = _; rw [Array.size_push]
      have hT0 := ts_start w
      have hB0 := below_alloc (below_alloc (Below.refl w.heap.size w) (.cells #[.string ⟨#[]⟩, .string ⟨#[]⟩, .string ⟨#[]⟩] 9)) (.cells (tab1 Tryz.zeroCells122 (.slice (some ⟨w.heap.size, 0, none⟩) 0 3)) 122)
      generalize ((w.alloc (.cells #[.string ⟨#[]⟩, .string ⟨#[]⟩, .string ⟨#[]⟩] 9)).alloc (.cells (tab1 Tryz.zeroCells122 (.slice (some ⟨w.heap.size, 0, none⟩) 0 3)) 122)) = w2 at *
      have HT0 := Lib.hid hT0
      have HB0 := Lib.hid hB0
      clear hT0 hB0
      go_loopw [12, 13, 14] (fun v12 _ _ wr => ∃ (m : Nat) (v : Value), m ≤ 3 ∧ v12 = .int .i64 (4 - 2 * (m : Int)) ∧ TS w.heap.size (w.heap.size + 1) m v wr ∧ Below w.heap.size w wr) (fun v12 _ _ _ => (intOf v12 + 2).toNat)
      case atStart => exact ⟨0, _, by omega, rfl, HT0.out, HB0.out⟩
      case round =>
        clear HT0 HB0 w2
        obtain ⟨m, v, hm, rfl, hT, hB⟩ := hrel
        have a0 := (hB.cell (World.block_lt_of_cell? w _ e0)).trans e0
        have a1 := (hB.cell (World.block_lt_of_cell? w _ e1)).trans e1
        have a2 := (hB.cell (World.block_lt_of_cell? w _ e2)).trans e2
        have a3 := (hB.cell (World.block_lt_of_cell? w _ e3)).trans e3
        have a4 := (hB.cell (World.block_lt_of_cell? w _ e4)).trans e4
        have a5 := (hB.cell (World.block_lt_of_cell? w _ e5)).trans e5
        clear e0 e1 e2 e3 e4 e5 hc4 hc hg
        obtain rfl | rfl | rfl | rfl : m = 0 ∨ m = 1 ∨ m = 2 ∨ m = 3 := by omega
        · -- the byte 10
          obtain ⟨cs, hcb, hcs, hcv, hce⟩ := hT.ex
          have k0 : wr.cell? ⟨w.heap.size + 1, 256, none⟩ = some v := (blk_cell hcb 256).trans hcv
          have k1 : wr.cell? ⟨w.heap.size + 1, 10, none⟩ = some (.slice none 0 0) := (blk_cell hcb 10).trans (hce 10 (by decide))
          have hen : ∀ W : World, (binOp .eql 46 (.slice none 0 0) (.slice none 0 0)).run Tryz.prog W = .ok (.bool true) W := fun W => Lib.run_eql_slice_nil W 46 5 none 0 0 0 0 Tryz.underlying46
          have hcv2 : ∀ W : World, (convert 46 9 (.slice (some ⟨W.heap.size, 0, none⟩) 1 1)).run Tryz.prog (W.alloc (.cells #[.int .u8 10] 5)) = .ok (.string ⟨#[10]⟩) (W.alloc (.cells #[.int .u8 10] 5)) := fun W => run_convert_bytes_back (P := Tryz.prog) (W.alloc (.cells #[.int .u8 10] 5)) 46 9 5 ⟨W.heap.size, 0, none⟩ 1 [10] Tryz.underlying46 Tryz.underlying5 Tryz.underlying9 (fun j hj => by
            have : j = 0 := by simp at hj; omega
            subst this; exact (blk_cell (heap_alloc_new W (.cells #[.int .u8 10] 5)) 0).trans rfl)
          have hcw := hcv2 wr
          have hx : ∀ h, ((⟨#[10]⟩ : ByteArray)[0]'h).toNat = 10 := fun _ => rfl
          have kb := fun W => print_bytes (P := Tryz.prog) 9 46 5 Tryz.underlying9 Tryz.underlying46 Tryz.underlying5 (⟨#[94, 110]⟩ : ByteArray) W
          have hB1 := below_alloc (below_alloc (Below.refl wr.heap.size wr) (.cells #[.int .u8 10] 5)) (.cells #[.string ⟨#[10]⟩] 9)
          have hbw : w.heap.size + 1 < wr.heap.size := blk_lt hcb
          have HT := Lib.hid hT
          have HCB := Lib.hid hcb
          have HK1 := Lib.hid k1
          have HB := Lib.hid hB
          have HB1 := Lib.hid hB1
          have HKB := Lib.hid kb
          clear hT hcb hcs hcv hce hB hB1 kb
          go_wp2_with (at_builtin; refine wpList_append_own _ rfl _ _ 34 rfl w.heap.size 9 i0 (.string ⟨#[]⟩) 1 16 Tryz.underlying34 hi hz0 hz1 hz2 rfl (by decide) v 0 (tos.take 0) rfl ((HT.out.own.alloc _).alloc _) _ _ _ [.string ⟨#[10]⟩] rfl rfl ?c1 ?c2 ?c3 ?c4 ?c5 ?_)
          case c1 =>
            intro j u hj
            match j, hj with
            | 0, hj => simp at hj; subst hj; simp [Addr.add]
          case c2 => intro u hu; simp at hu; subst hu; rfl
          case c3 => unfold maxLen; omega
          case c4 => omega
          case c5 => have := HB.out.size; have := HB1.out.size; omega
          intro v' w2 hown hgrow _
          obtain ⟨gt, ct, rfl⟩ : ∃ gt ct, v' = .slice (some ⟨gt, 0, none⟩) (0 + 1) ct := by
            rcases hown.2 with ⟨_, h0⟩ | ⟨g', cap, cur, hv, _⟩
            · omega
            · exact ⟨_, _, hv⟩
          generalize ((wr.alloc (.cells #[.int .u8 10] 5)).alloc (.cells #[.string ⟨#[10]⟩] 9)) = w1 at *
          have hb2 : ∃ cs : Array Value, w2.heap[w.heap.size + 1]? = some (Obj.cells cs 122 (0, 0)) ∧ cs[256]? = some v ∧ cs[10]? = some (.slice none 0 0) := by
            have h1 := (HB1.out.block _ hbw).trans HCB.out
            exact ⟨cs, (hgrow.block _ (blk_lt h1) (own_ne (b := 0) HT.out.own HCB.out (by decide))).trans h1, ((blk_cell HCB.out 256).symm.trans k0), ((blk_cell HCB.out 10).symm.trans HK1.out)⟩
          obtain ⟨cs2, hb2, hv2, ho2⟩ := hb2
          have s0 : w2.cell? ⟨w.heap.size + 1, 256, none⟩ = some v := (blk_cell hb2 256).trans hv2
          have s1 := blk_frozen hb2 256
          have hb3 := blk_set hb2 256 (.slice (some ⟨gt, 0, none⟩) (0 + 1) ct)
          have hlt3 : w.heap.size + 1 < (w2.setCell ⟨w.heap.size + 1, 256, none⟩ (.slice (some ⟨gt, 0, none⟩) (0 + 1) ct)).heap.size := blk_lt hb3
          have hb4 := (Lib.bytesWorld_at_old (w2.setCell ⟨w.heap.size + 1, 256, none⟩ (.slice (some ⟨gt, 0, none⟩) (0 + 1) ct)) 5 ⟨#[94, 110]⟩ _ hlt3).trans hb3
          have s2 : (Lib.bytesWorld (w2.setCell ⟨w.heap.size + 1, 256, none⟩ (.slice (some ⟨gt, 0, none⟩) (0 + 1) ct)) 5 ⟨#[94, 110]⟩).cell? ⟨w.heap.size + 1, 10, none⟩ = some (.slice none 0 0) := (blk_cell hb4 10).trans (by rw [Array.getElem?_setIfInBounds_ne (by decide)]; exact ho2)
          have s3 := blk_frozen hb4 10
          have kb := HKB.out
          have hstep := ts_step (cap := grownCap (w2.setCell ⟨w.heap.size + 1, 256, none⟩ (.slice (some ⟨gt, 0, none⟩) (0 + 1) ct)) 2 0 5) HT.out (o := 10) (l := [94, 110]) (by decide) (by decide) (by decide) (by intro k hk; by_cases h1 : k = 10 <;> by_cases h2 : k = 34 <;> by_cases h3 : k = 94 <;> simp_all [ordOf, repOf]) HB1.out hown hgrow (grownCap_ge _ _ _ _)
          have HST := Lib.hid hstep
          have HGR := Lib.hid hgrow
          clear hstep hgrow hown hb2 hb3 hb4 HKB HCB hcw hcv2
          go_wp2_with fail
          refine ⟨⟨0 + 1, _, by omega, by first | rfl | simp, (by have h_ := HST.out; rw [World.size_setCell] at h_; exact h_), ?_⟩, by simp only [intOf]; omega⟩
          have hb6 : Below w.heap.size w w2 := (HB.out.trans (HB1.out.mono HB.out.size)).grown HGR.out (by have := HB.out.size; have := HB1.out.size; omega) (fun k hk => (HT.out.own.lt k hk).1)
          have hb7 := hb6.setCell (p := ⟨w.heap.size + 1, 256, none⟩) (Nat.le_succ _) (.slice (some ⟨gt, 0, none⟩) (0 + 1) ct)
          exact (hb7.trans ((below_bytes _ ⟨#[94, 110]⟩).mono hb7.size)).setCell (p := ⟨w.heap.size + 1, 10, none⟩) (Nat.le_succ _) _
        · -- the byte 34
          obtain ⟨cs, hcb, hcs, hcv, hce⟩ := hT.ex
          have k0 : wr.cell? ⟨w.heap.size + 1, 256, none⟩ = some v := (blk_cell hcb 256).trans hcv
          have k1 : wr.cell? ⟨w.heap.size + 1, 34, none⟩ = some (.slice none 0 0) := (blk_cell hcb 34).trans (hce 34 (by decide))
          have hen : ∀ W : World, (binOp .eql 46 (.slice none 0 0) (.slice none 0 0)).run Tryz.prog W = .ok (.bool true) W := fun W => Lib.run_eql_slice_nil W 46 5 none 0 0 0 0 Tryz.underlying46
          have hcv2 : ∀ W : World, (convert 46 9 (.slice (some ⟨W.heap.size, 0, none⟩) 1 1)).run Tryz.prog (W.alloc (.cells #[.int .u8 34] 5)) = .ok (.string ⟨#[34]⟩) (W.alloc (.cells #[.int .u8 34] 5)) := fun W => run_convert_bytes_back (P := Tryz.prog) (W.alloc (.cells #[.int .u8 34] 5)) 46 9 5 ⟨W.heap.size, 0, none⟩ 1 [34] Tryz.underlying46 Tryz.underlying5 Tryz.underlying9 (fun j hj => by
            have : j = 0 := by simp at hj; omega
            subst this; exact (blk_cell (heap_alloc_new W (.cells #[.int .u8 34] 5)) 0).trans rfl)
          have hcw := hcv2 wr
          have hx : ∀ h, ((⟨#[34]⟩ : ByteArray)[0]'h).toNat = 34 := fun _ => rfl
          have kb := fun W => print_bytes (P := Tryz.prog) 9 46 5 Tryz.underlying9 Tryz.underlying46 Tryz.underlying5 (⟨#[94, 113]⟩ : ByteArray) W
          have hB1 := below_alloc (below_alloc (Below.refl wr.heap.size wr) (.cells #[.int .u8 34] 5)) (.cells #[.string ⟨#[34]⟩] 9)
          have hbw : w.heap.size + 1 < wr.heap.size := blk_lt hcb
          have HT := Lib.hid hT
          have HCB := Lib.hid hcb
          have HK1 := Lib.hid k1
          have HB := Lib.hid hB
          have HB1 := Lib.hid hB1
          have HKB := Lib.hid kb
          clear hT hcb hcs hcv hce hB hB1 kb
          go_wp2_with (at_builtin; refine wpList_append_own _ rfl _ _ 34 rfl w.heap.size 9 i0 (.string ⟨#[]⟩) 1 16 Tryz.underlying34 hi hz0 hz1 hz2 rfl (by decide) v 1 (tos.take 1) rfl ((HT.out.own.alloc _).alloc _) _ _ _ [.string ⟨#[34]⟩] rfl rfl ?c1 ?c2 ?c3 ?c4 ?c5 ?_)
          case c1 =>
            intro j u hj
            match j, hj with
            | 0, hj => simp at hj; subst hj; simp [Addr.add]
          case c2 => intro u hu; simp at hu; subst hu; rfl
          case c3 => unfold maxLen; omega
          case c4 => omega
          case c5 => have := HB.out.size; have := HB1.out.size; omega
          intro v' w2 hown hgrow _
          obtain ⟨gt, ct, rfl⟩ : ∃ gt ct, v' = .slice (some ⟨gt, 0, none⟩) (1 + 1) ct := by
            rcases hown.2 with ⟨_, h0⟩ | ⟨g', cap, cur, hv, _⟩
            · omega
            · exact ⟨_, _, hv⟩
          generalize ((wr.alloc (.cells #[.int .u8 34] 5)).alloc (.cells #[.string ⟨#[34]⟩] 9)) = w1 at *
          have hb2 : ∃ cs : Array Value, w2.heap[w.heap.size + 1]? = some (Obj.cells cs 122 (0, 0)) ∧ cs[256]? = some v ∧ cs[34]? = some (.slice none 0 0) := by
            have h1 := (HB1.out.block _ hbw).trans HCB.out
            exact ⟨cs, (hgrow.block _ (blk_lt h1) (own_ne (b := 0) HT.out.own HCB.out (by decide))).trans h1, ((blk_cell HCB.out 256).symm.trans k0), ((blk_cell HCB.out 34).symm.trans HK1.out)⟩
          obtain ⟨cs2, hb2, hv2, ho2⟩ := hb2
          have s0 : w2.cell? ⟨w.heap.size + 1, 256, none⟩ = some v := (blk_cell hb2 256).trans hv2
          have s1 := blk_frozen hb2 256
          have hb3 := blk_set hb2 256 (.slice (some ⟨gt, 0, none⟩) (1 + 1) ct)
          have hlt3 : w.heap.size + 1 < (w2.setCell ⟨w.heap.size + 1, 256, none⟩ (.slice (some ⟨gt, 0, none⟩) (1 + 1) ct)).heap.size := blk_lt hb3
          have hb4 := (Lib.bytesWorld_at_old (w2.setCell ⟨w.heap.size + 1, 256, none⟩ (.slice (some ⟨gt, 0, none⟩) (1 + 1) ct)) 5 ⟨#[94, 113]⟩ _ hlt3).trans hb3
          have s2 : (Lib.bytesWorld (w2.setCell ⟨w.heap.size + 1, 256, none⟩ (.slice (some ⟨gt, 0, none⟩) (1 + 1) ct)) 5 ⟨#[94, 113]⟩).cell? ⟨w.heap.size + 1, 34, none⟩ = some (.slice none 0 0) := (blk_cell hb4 34).trans (by rw [Array.getElem?_setIfInBounds_ne (by decide)]; exact ho2)
          have s3 := blk_frozen hb4 34
          have kb := HKB.out
          have hstep := ts_step (cap := grownCap (w2.setCell ⟨w.heap.size + 1, 256, none⟩ (.slice (some ⟨gt, 0, none⟩) (1 + 1) ct)) 2 0 5) HT.out (o := 34) (l := [94, 113]) (by decide) (by decide) (by decide) (by intro k hk; by_cases h1 : k = 10 <;> by_cases h2 : k = 34 <;> by_cases h3 : k = 94 <;> simp_all [ordOf, repOf]) HB1.out hown hgrow (grownCap_ge _ _ _ _)
          have HST := Lib.hid hstep
          have HGR := Lib.hid hgrow
          clear hstep hgrow hown hb2 hb3 hb4 HKB HCB hcw hcv2
          go_wp2_with fail
          refine ⟨⟨1 + 1, _, by omega, by first | rfl | simp, (by have h_ := HST.out; rw [World.size_setCell] at h_; exact h_), ?_⟩, by simp only [intOf]; omega⟩
          have hb6 : Below w.heap.size w w2 := (HB.out.trans (HB1.out.mono HB.out.size)).grown HGR.out (by have := HB.out.size; have := HB1.out.size; omega) (fun k hk => (HT.out.own.lt k hk).1)
          have hb7 := hb6.setCell (p := ⟨w.heap.size + 1, 256, none⟩) (Nat.le_succ _) (.slice (some ⟨gt, 0, none⟩) (1 + 1) ct)
          exact (hb7.trans ((below_bytes _ ⟨#[94, 113]⟩).mono hb7.size)).setCell (p := ⟨w.heap.size + 1, 34, none⟩) (Nat.le_succ _) _
        · -- the byte 94
          obtain ⟨cs, hcb, hcs, hcv, hce⟩ := hT.ex
          have k0 : wr.cell? ⟨w.heap.size + 1, 256, none⟩ = some v := (blk_cell hcb 256).trans hcv
          have k1 : wr.cell? ⟨w.heap.size + 1, 94, none⟩ = some (.slice none 0 0) := (blk_cell hcb 94).trans (hce 94 (by decide))
          have hen : ∀ W : World, (binOp .eql 46 (.slice none 0 0) (.slice none 0 0)).run Tryz.prog W = .ok (.bool true) W := fun W => Lib.run_eql_slice_nil W 46 5 none 0 0 0 0 Tryz.underlying46
          have hcv2 : ∀ W : World, (convert 46 9 (.slice (some ⟨W.heap.size, 0, none⟩) 1 1)).run Tryz.prog (W.alloc (.cells #[.int .u8 94] 5)) = .ok (.string ⟨#[94]⟩) (W.alloc (.cells #[.int .u8 94] 5)) := fun W => run_convert_bytes_back (P := Tryz.prog) (W.alloc (.cells #[.int .u8 94] 5)) 46 9 5 ⟨W.heap.size, 0, none⟩ 1 [94] Tryz.underlying46 Tryz.underlying5 Tryz.underlying9 (fun j hj => by
            have : j = 0 := by simp at hj; omega
            subst this; exact (blk_cell (heap_alloc_new W (.cells #[.int .u8 94] 5)) 0).trans rfl)
          have hcw := hcv2 wr
          have hx : ∀ h, ((⟨#[94]⟩ : ByteArray)[0]'h).toNat = 94 := fun _ => rfl
          have kb := fun W => print_bytes (P := Tryz.prog) 9 46 5 Tryz.underlying9 Tryz.underlying46 Tryz.underlying5 (⟨#[94, 99]⟩ : ByteArray) W
          have hB1 := below_alloc (below_alloc (Below.refl wr.heap.size wr) (.cells #[.int .u8 94] 5)) (.cells #[.string ⟨#[94]⟩] 9)
          have hbw : w.heap.size + 1 < wr.heap.size := blk_lt hcb
          have HT := Lib.hid hT
          have HCB := Lib.hid hcb
          have HK1 := Lib.hid k1
          have HB := Lib.hid hB
          have HB1 := Lib.hid hB1
          have HKB := Lib.hid kb
          clear hT hcb hcs hcv hce hB hB1 kb
          go_wp2_with (at_builtin; refine wpList_append_own _ rfl _ _ 34 rfl w.heap.size 9 i0 (.string ⟨#[]⟩) 1 16 Tryz.underlying34 hi hz0 hz1 hz2 rfl (by decide) v 2 (tos.take 2) rfl ((HT.out.own.alloc _).alloc _) _ _ _ [.string ⟨#[94]⟩] rfl rfl ?c1 ?c2 ?c3 ?c4 ?c5 ?_)
          case c1 =>
            intro j u hj
            match j, hj with
            | 0, hj => simp at hj; subst hj; simp [Addr.add]
          case c2 => intro u hu; simp at hu; subst hu; rfl
          case c3 => unfold maxLen; omega
          case c4 => omega
          case c5 => have := HB.out.size; have := HB1.out.size; omega
          intro v' w2 hown hgrow _
          obtain ⟨gt, ct, rfl⟩ : ∃ gt ct, v' = .slice (some ⟨gt, 0, none⟩) (2 + 1) ct := by
            rcases hown.2 with ⟨_, h0⟩ | ⟨g', cap, cur, hv, _⟩
            · omega
            · exact ⟨_, _, hv⟩
          generalize ((wr.alloc (.cells #[.int .u8 94] 5)).alloc (.cells #[.string ⟨#[94]⟩] 9)) = w1 at *
          have hb2 : ∃ cs : Array Value, w2.heap[w.heap.size + 1]? = some (Obj.cells cs 122 (0, 0)) ∧ cs[256]? = some v ∧ cs[94]? = some (.slice none 0 0) := by
            have h1 := (HB1.out.block _ hbw).trans HCB.out
            exact ⟨cs, (hgrow.block _ (blk_lt h1) (own_ne (b := 0) HT.out.own HCB.out (by decide))).trans h1, ((blk_cell HCB.out 256).symm.trans k0), ((blk_cell HCB.out 94).symm.trans HK1.out)⟩
          obtain ⟨cs2, hb2, hv2, ho2⟩ := hb2
          have s0 : w2.cell? ⟨w.heap.size + 1, 256, none⟩ = some v := (blk_cell hb2 256).trans hv2
          have s1 := blk_frozen hb2 256
          have hb3 := blk_set hb2 256 (.slice (some ⟨gt, 0, none⟩) (2 + 1) ct)
          have hlt3 : w.heap.size + 1 < (w2.setCell ⟨w.heap.size + 1, 256, none⟩ (.slice (some ⟨gt, 0, none⟩) (2 + 1) ct)).heap.size := blk_lt hb3
          have hb4 := (Lib.bytesWorld_at_old (w2.setCell ⟨w.heap.size + 1, 256, none⟩ (.slice (some ⟨gt, 0, none⟩) (2 + 1) ct)) 5 ⟨#[94, 99]⟩ _ hlt3).trans hb3
          have s2 : (Lib.bytesWorld (w2.setCell ⟨w.heap.size + 1, 256, none⟩ (.slice (some ⟨gt, 0, none⟩) (2 + 1) ct)) 5 ⟨#[94, 99]⟩).cell? ⟨w.heap.size + 1, 94, none⟩ = some (.slice none 0 0) := (blk_cell hb4 94).trans (by rw [Array.getElem?_setIfInBounds_ne (by decide)]; exact ho2)
          have s3 := blk_frozen hb4 94
          have kb := HKB.out
          have hstep := ts_step (cap := grownCap (w2.setCell ⟨w.heap.size + 1, 256, none⟩ (.slice (some ⟨gt, 0, none⟩) (2 + 1) ct)) 2 0 5) HT.out (o := 94) (l := [94, 99]) (by decide) (by decide) (by decide) (by intro k hk; by_cases h1 : k = 10 <;> by_cases h2 : k = 34 <;> by_cases h3 : k = 94 <;> simp_all [ordOf, repOf]) HB1.out hown hgrow (grownCap_ge _ _ _ _)
          have HST := Lib.hid hstep
          have HGR := Lib.hid hgrow
          clear hstep hgrow hown hb2 hb3 hb4 HKB HCB hcw hcv2
          go_wp2_with fail
          refine ⟨⟨2 + 1, _, by omega, by first | rfl | simp, (by have h_ := HST.out; rw [World.size_setCell] at h_; exact h_), ?_⟩, by simp only [intOf]; omega⟩
          have hb6 : Below w.heap.size w w2 := (HB.out.trans (HB1.out.mono HB.out.size)).grown HGR.out (by have := HB.out.size; have := HB1.out.size; omega) (fun k hk => (HT.out.own.lt k hk).1)
          have hb7 := hb6.setCell (p := ⟨w.heap.size + 1, 256, none⟩) (Nat.le_succ _) (.slice (some ⟨gt, 0, none⟩) (2 + 1) ct)
          exact (hb7.trans ((below_bytes _ ⟨#[94, 99]⟩).mono hb7.size)).setCell (p := ⟨w.heap.size + 1, 94, none⟩) (Nat.le_succ _) _
        · have HT := Lib.hid hT
          have HB := Lib.hid hB
          clear hT hB
          go_wp2_with fail
          go_ret
          exact ⟨_, v, rfl, HT.out, HB.out⟩
end Go.Proofs.YtfgbdcpfbghdoaaGreatDoor.P
end
