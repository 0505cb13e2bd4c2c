/- What is proved here: a part of the proof of ScriptFormatInjective: Srr. No conditions beside those that each theorem states. -/
import Derived.Test.YtfgbdcpfbghdoaaGreatDoorKSFIve25
import Derived.Test.YtfgbdcpfbghdoaaGreatDoorKSFIve12
import Derived.Lib.Hide
import Derived.Laws.CopyOwn
import Derived.Laws.Cover3
import Derived.StillTail
import Derived.StillTactics
import Derived.Deep.RegionLaw
section
set_option linter.unusedVariables false
set_option linter.unusedSimpArgs false
namespace Go.Proofs.YtfgbdcpfbghdoaaGreatDoor.P
open Go.RowKit Go.Proofs.YtfgbdcpfbghdoaaGreatDoorW.PrintWords Go.Proofs.YtfgbdcpfbghdoaaGreatDoorW.PrintLast Go.Proofs.YtfgbdcpfbghdoaaGreatDoorW.PrintMore
theorem row_at {base b : Nat} {v : Value} {w : World} (hT : TS base b 3 v w) (c : UInt8) : (repOf c.toNat = none ∧ w.cell? ⟨b, c.toNat, none⟩ = some (.slice none 0 0)) ∨
    (∃ d p cap, repOf c.toNat = some [94, d] ∧ w.cell? ⟨b, c.toNat, none⟩ = some (.slice (some ⟨p, 0, none⟩) 2 cap) ∧ w.cell? ⟨p, 0, none⟩ = some (.int .u8 94) ∧ w.cell? ⟨p, 1, none⟩ = some (.int .u8 (d.toNat : Int))) := by
  obtain ⟨cs, hcb, hcs, hcv, hce⟩ := hT.ex
  have h := hce c.toNat c.toNat_lt
  have ho : ordOf c.toNat ≤ 3 := by unfold ordOf; by_cases a : c.toNat = 10 <;> by_cases b : c.toNat = 34 <;> simp [a, b]
  rw [if_pos ho] at h
  have hcell := blk_cell hcb c.toNat
  have two : ∀ l : List UInt8, ∀ d : UInt8, l = [94, d] → Ent w (cs[c.toNat]?) (some l) → ∃ p cap, w.cell? ⟨b, c.toNat, none⟩ = some (.slice (some ⟨p, 0, none⟩) 2 cap) ∧ w.cell? ⟨p, 0, none⟩ = some (.int .u8 94) ∧ w.cell? ⟨p, 1, none⟩ = some (.int .u8 (d.toNat : Int)) := by
    rintro l d rfl ⟨p, cap, h1, cs2, fr, h2, h3⟩
    refine ⟨p, cap, hcell.trans h1, ?_, ?_⟩
    · have := h3 0 _ rfl
      simp only [World.cell?, h2]; exact this
    · have := h3 1 _ rfl
      simp only [World.cell?, h2]; exact this
  rcases rep_cases c with ⟨_, hr⟩ | ⟨_, hr⟩ | ⟨_, hr⟩ | ⟨_, _, _, hr⟩ <;> rw [hr] at h
  · obtain ⟨p, cap, h1⟩ := two _ _ rfl h; exact .inr ⟨_, p, cap, hr, h1⟩
  · obtain ⟨p, cap, h1⟩ := two _ _ rfl h; exact .inr ⟨_, p, cap, hr, h1⟩
  · obtain ⟨p, cap, h1⟩ := two _ _ rfl h; exact .inr ⟨_, p, cap, hr, h1⟩
  · exact .inl ⟨hr, hcell.trans h⟩
theorem tos_at {base b : Nat} {v : Value} {w : World} (hT : TS base b 3 v w) : ∃ g cap, v = .slice (some ⟨g, 0, none⟩) 3 cap ∧ w.cell? ⟨b, 256, none⟩ = some (.slice (some ⟨g, 0, none⟩) 3 cap) ∧ w.cell? ⟨g, 0, none⟩ = some (.string ⟨#[10]⟩) ∧ w.cell? ⟨g, 1, none⟩ = some (.string ⟨#[34]⟩) ∧ w.cell? ⟨g, 2, none⟩ = some (.string ⟨#[94]⟩) := by
  obtain ⟨cs, hcb, hcs, hcv, hce⟩ := hT.ex
  rcases hT.own.2 with ⟨_, h0⟩ | ⟨g, cap, cur, rfl, _, hg, _, _, hs, ht⟩
  · omega
  · have hx : ∀ j u, tos[j]? = some u → w.cell? ⟨g, j, none⟩ = some u := by
      intro j u hj
      have hj3 : j < 3 := by have := (List.getElem?_eq_some_iff.1 hj).1; simpa [tos] using this
      have h1 : cur[j]? = some u := by
        have h2 : (cur.toList.take (3 * 1))[j]? = some u := by rw [ht]; exact hj
        rw [List.getElem?_take_of_lt (by omega)] at h2
        simpa using h2
      simp [World.cell?, hg, h1]
    exact ⟨g, cap, rfl, (blk_cell hcb 256).trans hcv, hx 0 _ rfl, hx 1 _ rfl, hx 2 _ rfl⟩
theorem countB_le (L : List UInt8) (c : UInt8) : Lib.countByte L c ≤ L.length := List.count_le_length
theorem below_dn {w wr : World} {n : Nat} (h : wr = w.drewN n) : Below w.heap.size w wr := by subst h; exact pw_below_drewN (Below.refl _ _) n
theorem bt_list3 (s : ByteArray) (i : Nat) (c : UInt8) (h : s.data.toList[i]? = some c) : bt s (i : Int) = (c.toNat : Int) := by
  obtain ⟨h1, h2⟩ := List.getElem?_eq_some_iff.1 h
  have h' : ((i : Int)).toNat < s.size := by rw [Int.toNat_natCast]; rw [Array.length_toList] at h1; exact h1
  rw [← bt_at s (i : Int) h', ← h2]
  simp
  rfl
theorem made_one (z : Value) (N : Nat) : madeCells #[z] N = Array.replicate N z := by
  apply Array.ext
  · simp [madeCells]
  · intro k h1 h2
    simp [madeCells, Nat.mod_one]
theorem make_bytes (N : Nat) (hN : N ≤ 281474976710656) (W : World) : (Instr.makeSlice 46 (.int .i64 (N : Int)) (.int .i64 (N : Int))).run Tryz.prog W = .ok (.slice (some ⟨W.heap.size, 0, none⟩) N N) (W.alloc (.cells (Array.replicate N (Value.int .u8 0)) 5)) := by
  have h := run_make_row' (P := Tryz.prog) 46 5 (.int .u8 0) 1 Tryz.underlying46 infoByt rfl .i64 .i64 N (by omega) (by omega) W
  rw [made_one] at h
  exact h
theorem put_one (A : List Value) (N j : Nat) (hj : j = A.length) (x : Value) (hN : j < N) : ∀ {z : Value}, ((A ++ List.replicate (N - j) z).toArray.setIfInBounds j x) = (A ++ [x] ++ List.replicate (N - (j + 1)) z).toArray := by
  intro z
  obtain ⟨k, hk⟩ : ∃ k, N - j = k + 1 := ⟨N - j - 1, by omega⟩
  have hk2 : N - (j + 1) = k := by omega
  rw [hk, hk2, List.replicate_succ, List.setIfInBounds_toArray, List.set_append_right _ _ (by omega), hj]
  simp
def cAt (L : List UInt8) : Nat → Nat
  | 0 => 0
  | 1 => Lib.countByte L 10
  | 2 => Lib.countByte L 10 + Lib.countByte L 34
  | _ => Lib.countByte L 10 + Lib.countByte L 34 + Lib.countByte L 94
theorem cell_dn {w : World} {a : Addr} {u : Value} (h : w.cell? a = some u) {n : Nat} {wr : World} (hn : wr = w.drewN n) : wr.cell? a = some u := by rw [hn]; exact (World.cell?_drewN _ _ _).trans h
theorem drawn_more {w wr : World} {n : Nat} (h : wr = w.drewN n) (m : Nat) : wr.drewN m = w.drewN (n + m) := by
  subst h
  first | rfl | (simp [World.drewN, Nat.add_assoc])
theorem row10 {base b : Nat} {v : Value} {w : World} (hT : TS base b 3 v w) (c : UInt8) (hc : (repOf c.toNat).isSome = true) : ∃ p cap, w.cell? ⟨b, c.toNat, none⟩ = some (.slice (some ⟨p, 0, none⟩) 2 cap) := by
  rcases row_at hT c with ⟨h, _⟩ | ⟨d, p, cap, _, h, _⟩
  · rw [h] at hc; cases hc
  · exact ⟨p, cap, h⟩
theorem put_two (A : List Value) (N j : Nat) (hj : j = A.length) (x y : Value) (hN : j + 2 ≤ N) : ∀ {z : Value}, splice (A ++ List.replicate (N - j) z) j [x, y] = A ++ [x, y] ++ List.replicate (N - (j + 2)) z := by
  intro z
  subst hj
  simp only [splice, List.length_cons, List.length_nil, List.take_left, List.drop_append]
  rw [List.drop_of_length_le (by omega), List.drop_replicate, show N - A.length - (A.length + (0 + 1 + 1) - A.length) = N - (A.length + 2) from by omega]
  simp
theorem size_u8 : (Tryz.prog.info? 5).map (·.size) = some 1 := by kernel_rfl
theorem two_cells {w : World} {p : Nat} {x y : Value} (h0 : w.cell? ⟨p, 0, none⟩ = some x) (h1 : w.cell? ⟨p, 1, none⟩ = some y) : ∀ (j : Nat) (v : Value), [x, y][j]? = some v → w.drew.cell? ((⟨p, 0, none⟩ : Addr).add j) = some v := by
  intro j v hj
  match j, hj with
  | 0, hj => simp at hj; subst hj; exact h0
  | 1, hj => simp at hj; subst hj; exact h1
set_option maxHeartbeats 8000000 in
set_option maxRecDepth 100000 in
theorem replace_calls (base b : Nat) (v : Value) (s : ByteArray) (w : World) (hT : TS base b 3 v w) (hs : s.size ≤ 70368744177664) :
    Calls Tryz.prog 127 #[.pointer (some ⟨b, 0, none⟩), .string s] w fun e w' => e = .returned (.string ⟨(escL s.data.toList).toArray⟩) ∧ Below w.heap.size w w' := by
  obtain ⟨L, hL⟩ : ∃ L, L = s.data.toList := ⟨_, rfl⟩
  have hlen : L.length = s.size := by rw [hL, Array.length_toList]; rfl
  rw [← hL]
  obtain ⟨gt, ct, rfl, t256, t0, t1, t2⟩ := tos_at hT
  have hnL := nSp_le L
  have hnC := nSp_counts L
  have HT := Lib.hid hT
  have HL := Lib.hid hL
  clear hT hL
  go_enter Tryz.func127, Tryz.ntmps127
  by_cases hbig : 24 ≤ s.size
  · have hbd : decide (24 ≤ (s.size : Int)) = true := decide_eq_true (by omega)
    go_wp2_with fail
    go_loopw [5, 6, 8, 9, 32] (fun v5 v6 _ _ v32 wr => ∃ (m : Nat), m ≤ 3 ∧ v32 = .int .i64 (m : Int) ∧ v5 = .int .i64 ((s.size : Int) + (cAt L m : Int)) ∧ v6 = .bool (decide (cAt L m ≠ 0)) ∧ ∃ n, wr = w.drewN n) (fun _ _ _ _ v32 _ => (3 - intOf v32).toNat)
    case atStart => exact ⟨0, by omega, rfl, by simp [cAt], by simp [cAt], 0, rfl⟩
    case round =>
      obtain ⟨m, hm, rfl, rfl, rfl, nn, hn⟩ := hrel
      have hcA : cAt L m ≤ L.length := by
        have h1 : cAt L m ≤ nSp L := by rw [hnC]; unfold cAt; split <;> omega
        omega
      obtain rfl | rfl | rfl | rfl : m = 0 ∨ m = 1 ∨ m = 2 ∨ m = 3 := by omega
      · have tm := cell_dn t0 hn
        have HC : Hid (Calls Tryz.prog 44 #[.string s, .string ⟨#[10]⟩] wr fun e w' => e = .returned (.int .i64 (Lib.countByte L 10)) ∧ w' = wr) := Lib.hid (by rw [HL.out]; exact Tryz.strings_Count_one s 10 wr)
        have hx : ∀ h, ((⟨#[10]⟩ : ByteArray)[0]'h).toNat = 10 := fun _ => rfl
        have h30 := cell_dn t256 hn
        obtain ⟨p, cap, hrow⟩ := row10 HT.out 10 rfl
        have r1 : wr.cell? ⟨b, 10, none⟩ = some (.slice (some ⟨p, 0, none⟩) 2 cap) := cell_dn hrow hn
        have hcz := countB_le L 10
        have HN := Lib.hid hn
        clear hn
        by_cases hz : Lib.countByte L 10 = 0
        · rw [hz] at HC
          go_wp2_with (go_at_call 44; refine HC.out.mono ?_; rintro e w' ⟨rfl, hw⟩; rw [hw]; clear hw w')
          refine ⟨⟨0 + 1, by omega, by first | rfl | simp, by simp [cAt, hz], by simp [cAt, hz], nn, HN.out⟩, by simp only [intOf]; omega⟩
        · have hzi : ¬ ((Lib.countByte L 10 : Nat) : Int) = 0 := by omega
          have hw1 : IntKind.i64.wrap ((Lib.countByte L 10 : Nat) : Int) = ((Lib.countByte L 10 : Nat) : Int) := by simp [IntKind.wrap, IntKind.bits, IntKind.signed]; omega
          have hw2 : IntKind.i64.wrap ((s.size : Int) + (cAt L 0 : Int) + ((Lib.countByte L 10 : Nat) : Int)) = (s.size : Int) + (cAt L 0 : Int) + ((Lib.countByte L 10 : Nat) : Int) := by simp [IntKind.wrap, IntKind.bits, IntKind.signed]; omega
          go_wp2_with (go_at_call 44; refine HC.out.mono ?_; rintro e w' ⟨rfl, hw⟩; rw [hw]; clear hw w')
          repeat (go_quiet (fail); try go_wp2)
          refine ⟨⟨0 + 1, by omega, by first | rfl | simp, by simp [cAt]; try omega, by simp [cAt, hz]; try omega, ⟨_, drawn_more HN.out nq⟩⟩, by simp only [intOf]; omega⟩
      · have tm := cell_dn t1 hn
        have HC : Hid (Calls Tryz.prog 44 #[.string s, .string ⟨#[34]⟩] wr fun e w' => e = .returned (.int .i64 (Lib.countByte L 34)) ∧ w' = wr) := Lib.hid (by rw [HL.out]; exact Tryz.strings_Count_one s 34 wr)
        have hx : ∀ h, ((⟨#[34]⟩ : ByteArray)[0]'h).toNat = 34 := fun _ => rfl
        have h30 := cell_dn t256 hn
        obtain ⟨p, cap, hrow⟩ := row10 HT.out 34 rfl
        have r1 : wr.cell? ⟨b, 34, none⟩ = some (.slice (some ⟨p, 0, none⟩) 2 cap) := cell_dn hrow hn
        have hcz := countB_le L 34
        have HN := Lib.hid hn
        clear hn
        by_cases hz : Lib.countByte L 34 = 0
        · rw [hz] at HC
          go_wp2_with (go_at_call 44; refine HC.out.mono ?_; rintro e w' ⟨rfl, hw⟩; rw [hw]; clear hw w')
          refine ⟨⟨1 + 1, by omega, by first | rfl | simp, by simp [cAt, hz]; try omega, by simp [cAt, hz], nn, HN.out⟩, by simp only [intOf]; omega⟩
        · have hzi : ¬ ((Lib.countByte L 34 : Nat) : Int) = 0 := by omega
          have hw1 : IntKind.i64.wrap ((Lib.countByte L 34 : Nat) : Int) = ((Lib.countByte L 34 : Nat) : Int) := by simp [IntKind.wrap, IntKind.bits, IntKind.signed]; omega
          have hw2 : IntKind.i64.wrap ((s.size : Int) + (cAt L 1 : Int) + ((Lib.countByte L 34 : Nat) : Int)) = (s.size : Int) + (cAt L 1 : Int) + ((Lib.countByte L 34 : Nat) : Int) := by simp [IntKind.wrap, IntKind.bits, IntKind.signed]; omega
          go_wp2_with (go_at_call 44; refine HC.out.mono ?_; rintro e w' ⟨rfl, hw⟩; rw [hw]; clear hw w')
          repeat (go_quiet (fail); try go_wp2)
          refine ⟨⟨1 + 1, by omega, by first | rfl | simp, by simp [cAt]; try omega, by simp [cAt, hz]; try omega, ⟨_, drawn_more HN.out nq⟩⟩, by simp only [intOf]; omega⟩
      · have tm := cell_dn t2 hn
        have HC : Hid (Calls Tryz.prog 44 #[.string s, .string ⟨#[94]⟩] wr fun e w' => e = .returned (.int .i64 (Lib.countByte L 94)) ∧ w' = wr) := Lib.hid (by rw [HL.out]; exact Tryz.strings_Count_one s 94 wr)
        have hx : ∀ h, ((⟨#[94]⟩ : ByteArray)[0]'h).toNat = 94 := fun _ => rfl
        have h30 := cell_dn t256 hn
        obtain ⟨p, cap, hrow⟩ := row10 HT.out 94 rfl
        have r1 : wr.cell? ⟨b, 94, none⟩ = some (.slice (some ⟨p, 0, none⟩) 2 cap) := cell_dn hrow hn
        have hcz := countB_le L 94
        have HN := Lib.hid hn
        clear hn
        by_cases hz : Lib.countByte L 94 = 0
        · rw [hz] at HC
          go_wp2_with (go_at_call 44; refine HC.out.mono ?_; rintro e w' ⟨rfl, hw⟩; rw [hw]; clear hw w')
          refine ⟨⟨2 + 1, by omega, by first | rfl | simp, by simp [cAt, hz]; try omega, by simp [cAt, hz], nn, HN.out⟩, by simp only [intOf]; omega⟩
        · have hzi : ¬ ((Lib.countByte L 94 : Nat) : Int) = 0 := by omega
          have hw1 : IntKind.i64.wrap ((Lib.countByte L 94 : Nat) : Int) = ((Lib.countByte L 94 : Nat) : Int) := by simp [IntKind.wrap, IntKind.bits, IntKind.signed]; omega
          have hw2 : IntKind.i64.wrap ((s.size : Int) + (cAt L 2 : Int) + ((Lib.countByte L 94 : Nat) : Int)) = (s.size : Int) + (cAt L 2 : Int) + ((Lib.countByte L 94 : Nat) : Int) := by simp [IntKind.wrap, IntKind.bits, IntKind.signed]; omega
          go_wp2_with (go_at_call 44; refine HC.out.mono ?_; rintro e w' ⟨rfl, hw⟩; rw [hw]; clear hw w')
          repeat (go_quiet (fail); try go_wp2)
          refine ⟨⟨2 + 1, by omega, by first | rfl | simp, by simp [cAt]; try omega, by simp [cAt, hz]; try omega, ⟨_, drawn_more HN.out nq⟩⟩, by simp only [intOf]; omega⟩
      · have h3 : cAt L 3 = nSp L := by rw [hnC]; rfl
        rw [h3]
        clear hnC h3 hcA
        by_cases h0 : nSp L = 0
        · have hres : (⟨(escL L).toArray⟩ : ByteArray) = s := by rw [escL_plain L h0, HL.out]
          rw [h0]
          have HN := Lib.hid hn
          clear hn
          go_wp2
          go_ret
          exact ⟨by rw [hres]; rfl, below_dn HN.out⟩
        · obtain ⟨N, hN⟩ : ∃ N : Nat, N = s.size + nSp L := ⟨_, rfl⟩
          have hN' : (s.size : Int) + (nSp L : Int) = (N : Int) := by omega
          have hd : decide (nSp L ≠ 0) = true := decide_eq_true h0
          rw [hN', hd]
          have HNN := Lib.hid hN
          have hNle : N ≤ 140737488355328 := by omega
          clear hN hN' hd
          have hmk : ∀ W : World, (Instr.makeSlice 46 (.int .i64 (N : Int)) (.int .i64 (N : Int))).run Tryz.prog W = .ok (.slice (some ⟨W.heap.size, 0, none⟩) N N) (W.alloc (.cells (Array.replicate N (Value.int .u8 0)) 5)) := make_bytes N (by omega)
          have hbs : wr.heap.size = w.heap.size := by rw [hn]; rfl
          have hB0 := below_alloc (below_dn hn) (.cells (Array.replicate N (Value.int .u8 0)) 5)
          have hg0 := heap_alloc_new wr (.cells (Array.replicate N (Value.int .u8 0)) 5)
          rw [hbs] at hg0
          have HB0 := Lib.hid hB0
          have HG0 := Lib.hid hg0
          clear hB0 hg0 hn
          go_wp2_with fail
          clear hmk
          (try rw [hbs])
          generalize wr.alloc (.cells (Array.replicate N (Value.int .u8 0)) 5) = W1 at *
          clear hbs
          go_loopw [13, 14, 15] (fun v13 v14 _ wr => ∃ i : Nat, i ≤ s.size ∧ v14 = .int .i64 (i : Int) ∧ v13 = .int .i64 (((escL (L.take i)).length : Nat) : Int) ∧ Hid (wr.heap[w.heap.size]? = some (.cells (Lib.byteCells (escL (L.take i)) ++ List.replicate (N - (escL (L.take i)).length) (Value.int .u8 0)).toArray 5 (0, 0))) ∧ Below w.heap.size w wr) (fun _ v14 _ _ => ((s.size : Int) - intOf v14).toNat)
          case atStart => exact ⟨0, Nat.zero_le _, rfl, rfl, Lib.hid (by rw [HG0.out]; simp [escL, Lib.byteCells]), HB0.out⟩
          case round =>
            clear HB0 HG0 W1
            have hN := HNN.out
            obtain ⟨i, hi, rfl, rfl, HG, hB⟩ := hrel
            by_cases hlt : i < s.size
            · obtain ⟨c, hc⟩ : ∃ c, L[i]? = some c := ⟨L[i]'(by omega), List.getElem?_eq_getElem (by omega)⟩
              have hb0 : bt s (i : Int) = (c.toNat : Int) := bt_list3 s i c (by rw [← HL.out]; exact hc)
              have htk : L.take (i + 1) = L.take i ++ [c] := by rw [List.take_add_one, hc]; rfl
              have hsp : nSp L = nSp (L.take i) + (if spec c then 1 else 0) + nSp (L.drop (i + 1)) := by
                conv => lhs; rw [← List.take_append_drop (i + 1) L, htk]
                simp only [nSp, List.countP_append, List.countP_cons, List.countP_nil, Nat.zero_add]
              have hel : (escL (L.take i)).length = i + nSp (L.take i) := by rw [escL_length, List.length_take]; omega
              have hx0 : ∀ h : i < s.size, ((s[i]'h).toNat : Int) = (c.toNat : Int) := fun h => (bt_at s (i : Int) h).trans hb0
              clear hb0 hc
              have hw1 : IntKind.i64.wrap ((i : Int) + 1) = (i : Int) + 1 := by simp [IntKind.wrap, IntKind.bits, IntKind.signed]; omega
              obtain ⟨j, hj⟩ : ∃ j, j = (escL (L.take i)).length := ⟨_, rfl⟩
              rw [← hj] at hel HG ⊢
              have hesc : escL (L.take (i + 1)) = escL (L.take i) ++ esc1 c := by rw [htk, escL_snoc]
              have hc256 : (c.toNat : Int) < 256 := by have := c.toNat_lt; omega
              have HB := Lib.hid hB
              rcases row_at HT.out c with ⟨hr, hcell⟩ | ⟨d, p, cap, hr, hcell, hp0, hp1⟩
              · have q1 := (hB.cell (World.block_lt_of_cell? w _ hcell)).trans hcell
                have he1 : esc1 c = [c] := by simp [esc1, hr]
                have hjN : j < N := by rw [if_neg (by simp [spec, hr])] at hsp; have := nSp_le (L.drop (i + 1)); rw [List.length_drop] at this; omega
                have hlist : ((Lib.byteCells (escL (L.take i)) ++ List.replicate (N - j) (Value.int .u8 0)).toArray.setIfInBounds j (.int .u8 (c.toNat : Int))) = (Lib.byteCells (escL (L.take (i + 1))) ++ List.replicate (N - (j + 1)) (Value.int .u8 0)).toArray := by
                  rw [hesc, he1]
                  have := put_one (Lib.byteCells (escL (L.take i))) N j (by rw [Lib.byteCells_length]; exact hj) (.int .u8 (c.toNat : Int)) hjN (z := .int .u8 0)
                  rw [this]; simp [Lib.byteCells]
                have q2 : wr.cell? ⟨w.heap.size, j, none⟩ = some (.int .u8 0) := (blk_cell HG.out j).trans (by
                  rw [List.getElem?_toArray, List.getElem?_append_right (by rw [Lib.byteCells_length]; omega), List.getElem?_replicate, if_pos (by rw [Lib.byteCells_length]; omega)])
                have q3 := blk_frozen HG.out j
                have hw2 : IntKind.i64.wrap ((j : Int) + 1) = (j : Int) + 1 := by simp [IntKind.wrap, IntKind.bits, IntKind.signed]; omega
                have hG2 := blk_set HG.out j (.int .u8 (c.toNat : Int))
                rw [hlist] at hG2
                have HG2 := Lib.hid hG2
                have hjl : (escL (L.take (i + 1))).length = j + 1 := by rw [hesc, he1, List.length_append, ← hj]; rfl
                rw [← hjl] at HG2
                have hjl2 : (((escL (L.take (i + 1))).length : Nat) : Int) = (j : Int) + 1 := by omega
                clear hB hG2 hlist hsp htk hesc hj hel hN
                go_wp2
                exact ⟨⟨i + 1, by omega, rfl, by rw [hjl2], HG2, HB.out.setCell (p := ⟨w.heap.size, j, none⟩) (Nat.le_refl _) _⟩, by simp only [intOf]; omega⟩
              · have q1 := (hB.cell (World.block_lt_of_cell? w _ hcell)).trans hcell
                have he1 : esc1 c = [94, d] := by simp [esc1, hr]
                have hjN : j + 2 ≤ N := by rw [if_pos (by simp [spec, hr])] at hsp; have := nSp_le (L.drop (i + 1)); rw [List.length_drop] at this; omega
                have hs0 := (hB.cell (World.block_lt_of_cell? w _ hp0)).trans hp0
                have hs1 := (hB.cell (World.block_lt_of_cell? w _ hp1)).trans hp1
                have HS0 := Lib.hid hs0
                have HS1 := Lib.hid hs1
                clear hs0 hs1
                have hlist : splice (Lib.byteCells (escL (L.take i)) ++ List.replicate (N - j) (Value.int .u8 0)) j [.int .u8 94, .int .u8 (d.toNat : Int)] = Lib.byteCells (escL (L.take (i + 1))) ++ List.replicate (N - (j + 2)) (Value.int .u8 0) := by
                  rw [hesc, he1]
                  have := put_two (Lib.byteCells (escL (L.take i))) N j (by rw [Lib.byteCells_length]; exact hj) (.int .u8 94) (.int .u8 (d.toNat : Int)) hjN (z := .int .u8 0)
                  rw [this]; simp [Lib.byteCells]
                have hjl : (escL (L.take (i + 1))).length = j + 2 := by rw [hesc, he1, List.length_append, ← hj]; rfl
                have hjl2 : (((escL (L.take (i + 1))).length : Nat) : Int) = (j : Int) + 2 := by omega
                have hw2 : IntKind.i64.wrap ((j : Int) + 2) = (j : Int) + 2 := by simp [IntKind.wrap, IntKind.bits, IntKind.signed]; omega
                have hjle : (j : Int) ≤ (N : Int) := by omega
                have HJ := Lib.hid hj
                have HLI := Lib.hid hlist
                clear hB hsp htk hesc hj hel hN hlist
                go_wp2
                have q1d : wr.drew.cell? ⟨b, c.toNat, none⟩ = some (.slice (some ⟨p, 0, none⟩) 2 cap) := q1
                go_region_law (
                  refine step_copy_splice rfl (.tmp 105) (.tmp 111) 46 46 rfl 5 Tryz.underlying46 size_u8 _ _ _ _ _ _ rfl rfl w.heap.size j (Lib.byteCells (escL (L.take i)) ++ List.replicate (N - j) (Value.int .u8 0)) 5 HG.out [.int .u8 94, .int .u8 (d.toNat : Int)] ?en ?ep ?ef ?e1 w.heap.size w ?eb (Nat.le_refl _) ?_
                  (case en => show 2 = min 2 _; omega)
                  (case ep => exact fun _ => ⟨if_neg (by omega), _, rfl, two_cells HS0.out HS1.out⟩)
                  (case ef => rw [List.length_append, List.length_replicate, Lib.byteCells_length, ← HJ.out]; show j + 2 ≤ _; omega)
                  (case e1 => intro u hu; simp at hu; rcases hu with rfl | rfl <;> rfl)
                  (case eb => exact HB.out.drew)
                  intro w5 hg5 hb5
                  rw [HLI.out] at hg5)
                all_goals
                  rw [← hjl] at hg5
                  have HB5 := Lib.hid hb5
                  clear hb5
                  go_simp
                  go_wp2
                  exact ⟨⟨i + 1, by omega, rfl, by rw [hjl2], hg5, HB5.out⟩, by simp only [intOf]; omega⟩
            · obtain rfl : i = s.size := by omega
              rw [List.take_of_length_le (by omega)] at HG ⊢
              have hlN : (escL L).length = N := by rw [escL_length]; omega
              rw [hlN, Nat.sub_self, List.replicate_zero, List.append_nil] at HG
              have hcv : (convert 46 9 (.slice (some ⟨w.heap.size, 0, none⟩) N N)).run Tryz.prog wr = .ok (.string ⟨(escL L).toArray⟩) wr := by
                have h := run_convert_bytes_back (P := Tryz.prog) wr 46 9 5 ⟨w.heap.size, 0, none⟩ N (escL L) Tryz.underlying46 Tryz.underlying5 Tryz.underlying9 (fun j hj => by
                  rw [show (⟨w.heap.size, 0, none⟩ : Addr).add j = ⟨w.heap.size, j, none⟩ from by by_cases hz : j = 0 <;> simp [Addr.add, hz]]
                  refine (blk_cell HG.out j).trans ?_
                  simp [Lib.byteCells, hj])
                rw [hlN] at h
                exact h
              have HB := Lib.hid hB
              clear hB hN hlN
              go_wp2
              go_ret
              exact ⟨rfl, HB.out⟩
  · have hbd : decide (24 ≤ (s.size : Int)) = false := decide_eq_false (by omega)
    clear hnC t0 t1 t2
    go_wp2_with fail
    go_loopw [5, 6, 10, 11] (fun v5 v6 v10 _ wr => ∃ i : Nat, i ≤ s.size ∧ v10 = .int .i64 (i : Int) ∧ v5 = .int .i64 ((s.size : Int) + (nSp (L.take i) : Int)) ∧ v6 = .bool (decide (nSp (L.take i) ≠ 0)) ∧ ∃ n, wr = w.drewN n) (fun _ _ v10 _ _ => ((s.size : Int) - intOf v10).toNat)
    case atStart => exact ⟨0, Nat.zero_le _, rfl, by simp [nSp], by simp [nSp], 0, rfl⟩
    case round =>
      obtain ⟨i, hi, rfl, rfl, rfl, nn, hn⟩ := hrel
      by_cases hlt : i < s.size
      · obtain ⟨c, hc⟩ : ∃ c, L[i]? = some c := ⟨L[i]'(by omega), List.getElem?_eq_getElem (by omega)⟩
        have hb0 : bt s (i : Int) = (c.toNat : Int) := bt_list3 s i c (by rw [← HL.out]; exact hc)
        have htk : L.take (i + 1) = L.take i ++ [c] := by rw [List.take_add_one, hc]; rfl
        have hnx : nSp (L.take (i + 1)) = nSp (L.take i) + (if spec c then 1 else 0) := by rw [htk, nSp_snoc]
        have hle : nSp (L.take i) ≤ i := by have := nSp_le (L.take i); rw [List.length_take] at this; omega
        have hx0 : ∀ h : i < s.size, ((s[i]'h).toNat : Int) = (c.toNat : Int) := fun h => (bt_at s (i : Int) h).trans hb0
        have hw1 : IntKind.i64.wrap ((i : Int) + 1) = (i : Int) + 1 := by simp [IntKind.wrap, IntKind.bits, IntKind.signed]; omega
        have hc256 : (c.toNat : Int) < 256 := by have := c.toNat_lt; omega
        clear hb0 hc htk
        rcases row_at HT.out c with ⟨hr, hcell⟩ | ⟨d, p, cap, hr, hcell, hp0, hp1⟩
        · have q1 := cell_dn hcell hn
          have hn1 : nSp (L.take (i + 1)) = nSp (L.take i) := by rw [hnx, if_neg (by simp [spec, hr])]; rfl
          have HN := Lib.hid hn
          have HN1 := Lib.hid hn1
          clear hn hnx hn1 hcell
          go_wp2
          exact ⟨⟨i + 1, by omega, rfl, by rw [HN1.out], by rw [HN1.out], nn, HN.out⟩, by simp only [intOf]; omega⟩
        · have q1 := cell_dn hcell hn
          have hn1 : nSp (L.take (i + 1)) = nSp (L.take i) + 1 := by rw [hnx, if_pos (by simp [spec, hr])]
          have hw2 : IntKind.i64.wrap ((s.size : Int) + (nSp (L.take i) : Int) + 1) = (s.size : Int) + (nSp (L.take i) : Int) + 1 := by simp [IntKind.wrap, IntKind.bits, IntKind.signed]; omega
          have HN := Lib.hid hn
          have HN1 := Lib.hid hn1
          clear hn hnx hn1 hcell hp0 hp1
          go_wp2
          exact ⟨⟨i + 1, by omega, rfl, by rw [HN1.out]; simp; try omega, by rw [HN1.out]; simp, nn, HN.out⟩, by simp only [intOf]; omega⟩
      · obtain rfl : i = s.size := by omega
        rw [List.take_of_length_le (by omega)]
        by_cases h0 : nSp L = 0
        · have hres : (⟨(escL L).toArray⟩ : ByteArray) = s := by rw [escL_plain L h0, HL.out]
          rw [h0]
          have HN := Lib.hid hn
          clear hn
          go_wp2
          go_ret
          exact ⟨by rw [hres]; rfl, below_dn HN.out⟩
        · obtain ⟨N, hN⟩ : ∃ N : Nat, N = s.size + nSp L := ⟨_, rfl⟩
          have hN' : (s.size : Int) + (nSp L : Int) = (N : Int) := by omega
          have hd : decide (nSp L ≠ 0) = true := decide_eq_true h0
          rw [hN', hd]
          have HNN := Lib.hid hN
          have hNle : N ≤ 140737488355328 := by omega
          clear hN hN' hd
          have hmk : ∀ W : World, (Instr.makeSlice 46 (.int .i64 (N : Int)) (.int .i64 (N : Int))).run Tryz.prog W = .ok (.slice (some ⟨W.heap.size, 0, none⟩) N N) (W.alloc (.cells (Array.replicate N (Value.int .u8 0)) 5)) := make_bytes N (by omega)
          have hbs : wr.heap.size = w.heap.size := by rw [hn]; rfl
          have hB0 := below_alloc (below_dn hn) (.cells (Array.replicate N (Value.int .u8 0)) 5)
          have hg0 := heap_alloc_new wr (.cells (Array.replicate N (Value.int .u8 0)) 5)
          rw [hbs] at hg0
          have HB0 := Lib.hid hB0
          have HG0 := Lib.hid hg0
          clear hB0 hg0 hn
          go_wp2_with fail
          clear hmk
          (try rw [hbs])
          generalize wr.alloc (.cells (Array.replicate N (Value.int .u8 0)) 5) = W1 at *
          clear hbs
          go_loopw [13, 14, 15] (fun v13 v14 _ wr => ∃ i : Nat, i ≤ s.size ∧ v14 = .int .i64 (i : Int) ∧ v13 = .int .i64 (((escL (L.take i)).length : Nat) : Int) ∧ Hid (wr.heap[w.heap.size]? = some (.cells (Lib.byteCells (escL (L.take i)) ++ List.replicate (N - (escL (L.take i)).length) (Value.int .u8 0)).toArray 5 (0, 0))) ∧ Below w.heap.size w wr) (fun _ v14 _ _ => ((s.size : Int) - intOf v14).toNat)
          case atStart => exact ⟨0, Nat.zero_le _, rfl, rfl, Lib.hid (by rw [HG0.out]; simp [escL, Lib.byteCells]), HB0.out⟩
          case round =>
            clear HB0 HG0 W1
            have hN := HNN.out
            obtain ⟨i, hi, rfl, rfl, HG, hB⟩ := hrel
            by_cases hlt : i < s.size
            · obtain ⟨c, hc⟩ : ∃ c, L[i]? = some c := ⟨L[i]'(by omega), List.getElem?_eq_getElem (by omega)⟩
              have hb0 : bt s (i : Int) = (c.toNat : Int) := bt_list3 s i c (by rw [← HL.out]; exact hc)
              have htk : L.take (i + 1) = L.take i ++ [c] := by rw [List.take_add_one, hc]; rfl
              have hsp : nSp L = nSp (L.take i) + (if spec c then 1 else 0) + nSp (L.drop (i + 1)) := by
                conv => lhs; rw [← List.take_append_drop (i + 1) L, htk]
                simp only [nSp, List.countP_append, List.countP_cons, List.countP_nil, Nat.zero_add]
              have hel : (escL (L.take i)).length = i + nSp (L.take i) := by rw [escL_length, List.length_take]; omega
              have hx0 : ∀ h : i < s.size, ((s[i]'h).toNat : Int) = (c.toNat : Int) := fun h => (bt_at s (i : Int) h).trans hb0
              clear hb0 hc
              have hw1 : IntKind.i64.wrap ((i : Int) + 1) = (i : Int) + 1 := by simp [IntKind.wrap, IntKind.bits, IntKind.signed]; omega
              obtain ⟨j, hj⟩ : ∃ j, j = (escL (L.take i)).length := ⟨_, rfl⟩
              rw [← hj] at hel HG ⊢
              have hesc : escL (L.take (i + 1)) = escL (L.take i) ++ esc1 c := by rw [htk, escL_snoc]
              have hc256 : (c.toNat : Int) < 256 := by have := c.toNat_lt; omega
              have HB := Lib.hid hB
              rcases row_at HT.out c with ⟨hr, hcell⟩ | ⟨d, p, cap, hr, hcell, hp0, hp1⟩
              · have q1 := (hB.cell (World.block_lt_of_cell? w _ hcell)).trans hcell
                have he1 : esc1 c = [c] := by simp [esc1, hr]
                have hjN : j < N := by rw [if_neg (by simp [spec, hr])] at hsp; have := nSp_le (L.drop (i + 1)); rw [List.length_drop] at this; omega
                have hlist : ((Lib.byteCells (escL (L.take i)) ++ List.replicate (N - j) (Value.int .u8 0)).toArray.setIfInBounds j (.int .u8 (c.toNat : Int))) = (Lib.byteCells (escL (L.take (i + 1))) ++ List.replicate (N - (j + 1)) (Value.int .u8 0)).toArray := by
                  rw [hesc, he1]
                  have := put_one (Lib.byteCells (escL (L.take i))) N j (by rw [Lib.byteCells_length]; exact hj) (.int .u8 (c.toNat : Int)) hjN (z := .int .u8 0)
                  rw [this]; simp [Lib.byteCells]
                have q2 : wr.cell? ⟨w.heap.size, j, none⟩ = some (.int .u8 0) := (blk_cell HG.out j).trans (by
                  rw [List.getElem?_toArray, List.getElem?_append_right (by rw [Lib.byteCells_length]; omega), List.getElem?_replicate, if_pos (by rw [Lib.byteCells_length]; omega)])
                have q3 := blk_frozen HG.out j
                have hw2 : IntKind.i64.wrap ((j : Int) + 1) = (j : Int) + 1 := by simp [IntKind.wrap, IntKind.bits, IntKind.signed]; omega
                have hG2 := blk_set HG.out j (.int .u8 (c.toNat : Int))
                rw [hlist] at hG2
                have HG2 := Lib.hid hG2
                have hjl : (escL (L.take (i + 1))).length = j + 1 := by rw [hesc, he1, List.length_append, ← hj]; rfl
                rw [← hjl] at HG2
                have hjl2 : (((escL (L.take (i + 1))).length : Nat) : Int) = (j : Int) + 1 := by omega
                clear hB hG2 hlist hsp htk hesc hj hel hN
                go_wp2
                exact ⟨⟨i + 1, by omega, rfl, by rw [hjl2], HG2, HB.out.setCell (p := ⟨w.heap.size, j, none⟩) (Nat.le_refl _) _⟩, by simp only [intOf]; omega⟩
              · have q1 := (hB.cell (World.block_lt_of_cell? w _ hcell)).trans hcell
                have he1 : esc1 c = [94, d] := by simp [esc1, hr]
                have hjN : j + 2 ≤ N := by rw [if_pos (by simp [spec, hr])] at hsp; have := nSp_le (L.drop (i + 1)); rw [List.length_drop] at this; omega
                have hs0 := (hB.cell (World.block_lt_of_cell? w _ hp0)).trans hp0
                have hs1 := (hB.cell (World.block_lt_of_cell? w _ hp1)).trans hp1
                have HS0 := Lib.hid hs0
                have HS1 := Lib.hid hs1
                clear hs0 hs1
                have hlist : splice (Lib.byteCells (escL (L.take i)) ++ List.replicate (N - j) (Value.int .u8 0)) j [.int .u8 94, .int .u8 (d.toNat : Int)] = Lib.byteCells (escL (L.take (i + 1))) ++ List.replicate (N - (j + 2)) (Value.int .u8 0) := by
                  rw [hesc, he1]
                  have := put_two (Lib.byteCells (escL (L.take i))) N j (by rw [Lib.byteCells_length]; exact hj) (.int .u8 94) (.int .u8 (d.toNat : Int)) hjN (z := .int .u8 0)
                  rw [this]; simp [Lib.byteCells]
                have hjl : (escL (L.take (i + 1))).length = j + 2 := by rw [hesc, he1, List.length_append, ← hj]; rfl
                have hjl2 : (((escL (L.take (i + 1))).length : Nat) : Int) = (j : Int) + 2 := by omega
                have hw2 : IntKind.i64.wrap ((j : Int) + 2) = (j : Int) + 2 := by simp [IntKind.wrap, IntKind.bits, IntKind.signed]; omega
                have hjle : (j : Int) ≤ (N : Int) := by omega
                have HJ := Lib.hid hj
                have HLI := Lib.hid hlist
                clear hB hsp htk hesc hj hel hN hlist
                go_wp2
                have q1d : wr.drew.cell? ⟨b, c.toNat, none⟩ = some (.slice (some ⟨p, 0, none⟩) 2 cap) := q1
                go_region_law (
                  refine step_copy_splice rfl (.tmp 105) (.tmp 111) 46 46 rfl 5 Tryz.underlying46 size_u8 _ _ _ _ _ _ rfl rfl w.heap.size j (Lib.byteCells (escL (L.take i)) ++ List.replicate (N - j) (Value.int .u8 0)) 5 HG.out [.int .u8 94, .int .u8 (d.toNat : Int)] ?en ?ep ?ef ?e1 w.heap.size w ?eb (Nat.le_refl _) ?_
                  (case en => show 2 = min 2 _; omega)
                  (case ep => exact fun _ => ⟨if_neg (by omega), _, rfl, two_cells HS0.out HS1.out⟩)
                  (case ef => rw [List.length_append, List.length_replicate, Lib.byteCells_length, ← HJ.out]; show j + 2 ≤ _; omega)
                  (case e1 => intro u hu; simp at hu; rcases hu with rfl | rfl <;> rfl)
                  (case eb => exact HB.out.drew)
                  intro w5 hg5 hb5
                  rw [HLI.out] at hg5)
                all_goals
                  rw [← hjl] at hg5
                  have HB5 := Lib.hid hb5
                  clear hb5
                  go_simp
                  go_wp2
                  exact ⟨⟨i + 1, by omega, rfl, by rw [hjl2], hg5, HB5.out⟩, by simp only [intOf]; omega⟩
            · obtain rfl : i = s.size := by omega
              rw [List.take_of_length_le (by omega)] at HG ⊢
              have hlN : (escL L).length = N := by rw [escL_length]; omega
              rw [hlN, Nat.sub_self, List.replicate_zero, List.append_nil] at HG
              have hcv : (convert 46 9 (.slice (some ⟨w.heap.size, 0, none⟩) N N)).run Tryz.prog wr = .ok (.string ⟨(escL L).toArray⟩) wr := by
                have h := run_convert_bytes_back (P := Tryz.prog) wr 46 9 5 ⟨w.heap.size, 0, none⟩ N (escL L) Tryz.underlying46 Tryz.underlying5 Tryz.underlying9 (fun j hj => by
                  rw [show (⟨w.heap.size, 0, none⟩ : Addr).add j = ⟨w.heap.size, j, none⟩ from by by_cases hz : j = 0 <;> simp [Addr.add, hz]]
                  refine (blk_cell HG.out j).trans ?_
                  simp [Lib.byteCells, hj])
                rw [hlN] at h
                exact h
              have HB := Lib.hid hB
              clear hB hN hlN
              go_wp2
              go_ret
              exact ⟨rfl, HB.out⟩
end Go.Proofs.YtfgbdcpfbghdoaaGreatDoor.P
end
