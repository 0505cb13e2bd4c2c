/- What is proved here: a part of the proof of CircuitAppendMul: Px18, Cnx. No conditions beside those that each theorem states. -/
import Derived.Test.YtmnleabeipmhmaaDoorKCAMul6
import Derived.Test.YtmnleabeipmhmaaDoorKCAMul29
import Derived.Laws.EntriesVeiled
import Derived.Deep.DeepCutAuto
import Derived.Deep.CutRange
section
namespace Go.Proofs.YtmnleabeipmhmaaDoor.P
open Go.RowKit Go.Proofs.YtmnleabeipmhmaaDoorW.PrintWords Go.Proofs.YtmnleabeipmhmaaDoorW.PrintLast Go.Proofs.YtmnleabeipmhmaaDoorW.PrintMore
attribute [local go_sem] zb4 zb2 zcg zcf zby zbz zb6 zb5   -- for this text's walks alone
set_option linter.unusedVariables false
set_option linter.unusedSimpArgs false
def circuit_small.f (a0 : Int) : Option (Int) := if a0 > 20000 then (some (-1)) else (some (wrap64 (a0)))
set_option maxHeartbeats 8000000 in
set_option maxRecDepth 100000 in
theorem circuit_small.calls (a0 : Int) (r : Int) (w : World) (h : circuit_small.f a0 = some r) :
    Calls Tryd.prog 60 #[.int .u64 a0] w fun e w' => e = .returned (.int .i64 r) ∧ zck w w' := by
  have H : (if a0 > 20000 then (some (-1)) else (some (wrap64 (a0)))) = some r := h; clear h
  by_cases c2 : a0 > 20000
  · rw [if_pos c2] at H
    have c2b0 : decide (20000 < a0) = true := decide_eq_true c2; clear c2; obtain rfl := Option.some.inj H; go_enter Tryd.func60, Tryd.ntmps60; go_wp2; go_ret; exact ⟨by first | rfl | (simp; done) | (simp [*]; done), by repeat (first | exact zck.refl _ | apply zck.step)⟩
  · rw [if_neg c2] at H
    have c2b0 : decide (20000 < a0) = false := decide_eq_false c2; clear c2; obtain rfl := Option.some.inj H; go_enter Tryd.func60, Tryd.ntmps60; go_wp2; go_ret; exact ⟨by first | rfl | (simp; done) | (simp [*]; done), by repeat (first | exact zck.refl _ | apply zck.step)⟩
end Go.Proofs.YtmnleabeipmhmaaDoor.P
end
section
set_option linter.unusedVariables false
set_option linter.unusedSimpArgs false
namespace Go.Proofs.YtmnleabeipmhmaaDoor.P
open Go.RowKit Go.Proofs.YtmnleabeipmhmaaDoorW.PrintWords Go.Proofs.YtmnleabeipmhmaaDoorW.PrintLast Go.Proofs.YtmnleabeipmhmaaDoorW.PrintMore
def zbm (has : Bool) (l : List Int) : Int := if has then l.headD 0 else 0
def za4 (has : Bool) (l : List Int) : List Int := if has then l.drop 1 else l
def NumBox (w0 w : World) (b : Nat) (l : List Int) : Prop := ∃ A c, w.heap[b]? = some (.cells #[.slice A l.length c] 62 (0, 0)) ∧ Kd.C (Kd.int .u64) w0 A l.length l ∧ l.length ≤ c ∧ Below w0.heap.size w0 w ∧ w0.heap.size ≤ b
theorem NumBox.size {w0 w : World} {b : Nat} {l : List Int} (h : NumBox w0 w b l) : w0.heap.size ≤ b := by
  obtain ⟨_, _, _, _, _, _, h⟩ := h; exact h
theorem NumBox.kept {w0 w w' : World} {b : Nat} {l : List Int} (h : NumBox w0 w b l) (hb : Below w.heap.size w w') : NumBox w0 w' b l := by
  obtain ⟨A, c, h1, h2, h3, h4, h5⟩ := h
  exact ⟨A, c, zbl h1 hb, h2, h3, h4.trans (hb.mono h4.size), h5⟩
theorem NumBox.far {w0 w : World} {b : Nat} {l : List Int} (h : NumBox w0 w b l) (p : Addr) (hp : p.block ≠ b) (hl : w0.heap.size ≤ p.block) (v : Value) : NumBox w0 (w.setCell p v) b l := by
  obtain ⟨A, c, h1, h2, h3, h4, h5⟩ := h
  exact ⟨A, c, (Below.heap_setCell w p v b (Ne.symm hp)).trans h1, h2, h3, h4.setCell (p := p) hl v, h5⟩
structure OnlyB (b : Nat) (w w' : World) : Prop where
  os : w'.os = w.os
  tape : w'.tape = w.tape
  output : w'.output = w.output
  size : w'.heap.size = w.heap.size
  block : ∀ k, k ≠ b → w'.heap[k]? = w.heap[k]?
theorem OnlyB.below {b n : Nat} {w w' : World} (h : OnlyB b w w') (hb : n ≤ b) : Below n w w' := ⟨h.os, h.tape, h.output, by rw [h.size]; exact Nat.le_refl _, fun k hk => h.block k (by omega)⟩
set_option maxHeartbeats 4000000 in
set_option maxRecDepth 100000 in
theorem zci (has : Bool) (l : List Int) (b : Nat) (w0 w : World) (h : NumBox w0 w b l) :
    Calls Tryd.prog 75 #[.bool has, .pointer (some ⟨b, 0, none⟩)] w fun r w' => r = .returned (.int .u64 (zbm has l)) ∧ NumBox w0 w' b (za4 has l) ∧ OnlyB b w w' := by
  obtain ⟨A, c, hx, hC, hlc, hB, hb⟩ := h
  have q0 : w.cell? ⟨b, 0, none⟩ = some (.slice A l.length c) := zak hx 0
  have f0 : w.frozen? ⟨b, 0, none⟩ = false := zaa hx 0
  have hlt : b < w.heap.size := zbg hx
  have same : NumBox w0 w b l := ⟨A, c, hx, hC, hlc, hB, hb⟩
  have SAME := Lib.hid same
  have ONLY : Hid (OnlyB b w w) := Lib.hid ⟨rfl, rfl, rfl, rfl, fun _ _ => rfl⟩
  have HC := Lib.hid (Kd.C_below hC hB)
  have HC0 := Lib.hid hC
  have HX := Lib.hid hx
  have HB := Lib.hid hB
  clear hx hC hB same
  cases has
  · clear HX HC HC0 HB hlc hb
    go_enter Tryd.func75, Tryd.ntmps75
    go_wp2_with fail
    go_ret
    exact ⟨rfl, SAME.out, ONLY.out⟩
  · cases l with
    | nil =>
      clear HX HC HC0 HB hlc hb
      go_enter Tryd.func75, Tryd.ntmps75
      go_wp2_with fail
      go_ret
      exact ⟨rfl, SAME.out, ONLY.out⟩
    | cons x r =>
      obtain ⟨ad, rfl, hcell⟩ := Kd.at_int HC.out 0 (by decide) (by simp only [List.length_cons]; omega)
      rw [show rd (x :: r) 0 = x from rfl, show ad.add (Int.toNat 0) = ad from by cases ad; rfl] at hcell
      have hz : ((r.length : Int) + 1 == 0) = false := by simp; omega
      obtain ⟨i22, hi22, _, hsz22, _⟩ := info_parts info22
      have hmax : (x :: r).length ≤ 9223372036854775807 := HC.out.2.1
      simp only [List.length_cons] at hmax hlc
      have hcut : ∀ W : World, (Instr.slice 62 (.slice (some ad) (r.length + 1) c) (some (.int .i64 1)) none none).run Tryd.prog W = .ok (.slice (if c = 1 then some ad else (some ad).map (·.add (1 * 1))) r.length (c - 1)) W := fun W =>
        cut_from (P := Tryd.prog) 62 22 .i64 Tryd.underlying62 hi22 1 hsz22 (some ad) (r.length + 1) c 1 (by decide) (by omega) W
      have hCd := Kd.C_drop (c := c) (m := 1) HC0.out (by simp only [List.length_cons]; omega) (by simpa using hlc)
      have hCd2 : Kd.C (Kd.int .u64) w0 (if c = 1 then some ad else (some ad).map (·.add (1 * 1))) r.length r := hCd
      generalize (if c = 1 then some ad else (some ad).map (·.add (1 * 1))) = A2 at hcut hCd2
      rw [List.length_cons] at q0
      have HCD := Lib.hid hCd2
      clear hCd hCd2 HC HC0 SAME ONLY
      go_enter Tryd.func75, Tryd.ntmps75
      go_wp2_with fail
      go_ret
      refine ⟨rfl, ⟨A2, c - 1, ?_, HCD.out, by simp only [za4, if_true, List.drop_one, List.tail_cons]; omega, HB.out.setCell (p := ⟨b, 0, none⟩) hb _, hb⟩, ⟨rfl, rfl, rfl, by simp [World.setCell], fun k hk => Below.heap_setCell w ⟨b, 0, none⟩ _ k hk⟩⟩
      exact zap HX.out 0 _ (by rfl)
theorem drawn_below {w w' : World} (h : zck w w') : Below w.heap.size w w' := by
  first | exact h.below | (obtain ⟨n, rfl⟩ := h; exact below_drawn w n)
theorem small_calls (n : Int) (w : World) : Calls Tryd.prog 60 #[.int .u64 n] w fun e w' => e = .returned (.int .i64 (if n > 20000 then -1 else wrap64 n)) ∧ Below w.heap.size w w' := by
  have h := fun r => circuit_small.calls n r w
  unfold circuit_small.f at h
  by_cases hn : n > 20000
  · have := h (-1) (by rw [if_pos hn])
    rw [if_pos hn]; exact this.mono (fun e w' ⟨h1, h2⟩ => ⟨h1, drawn_below h2⟩)
  · have := h (wrap64 n) (by rw [if_neg hn])
    rw [if_neg hn]; exact this.mono (fun e w' ⟨h1, h2⟩ => ⟨h1, drawn_below h2⟩)
end Go.Proofs.YtmnleabeipmhmaaDoor.P
end
