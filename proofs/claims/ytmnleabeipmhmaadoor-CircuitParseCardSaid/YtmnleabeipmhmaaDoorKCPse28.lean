/- What is proved here: a part of the proof of CircuitParse: Px30, Px23. No conditions beside those that each theorem states. -/
import Derived.Test.YtmnleabeipmhmaaDoorKCPse5
import Derived.Test.YtmnleabeipmhmaaDoorKCPse27
section
namespace Go.Proofs.YtmnleabeipmhmaaDoor.P
open Go.RowKit Go.Proofs.YtmnleabeipmhmaaDoorW.PrintWords Go.Proofs.YtmnleabeipmhmaaDoorW.PrintLast Go.Proofs.YtmnleabeipmhmaaDoorW.PrintMore
attribute [local go_sem] zb0 zbz zcd zce zbr zbs zb1 zb3   -- for this text's walks alone
set_option linter.unusedVariables false
set_option linter.unusedSimpArgs false
def za4.l0 : Nat → ByteArray → List ByteArray → Option (List ByteArray)
  | 0, _, _ => none
  | k + 1, x0, x3 => (za8.f k x0 32).bind fun bt285 => (if x3.length < 8796093022208 then ((some (x3 ++ [bt285.1] : List ByteArray)).bind fun y288 => (if bt285.2.2 = true then (za4.l0 k bt285.2.1 y288) else (some y288))) else (none))
def za4.f (k : Nat) (a0 : ByteArray) : Option (List ByteArray) := za4.l0 k a0 ([] : List ByteArray)
set_option maxHeartbeats 8000000 in
set_option maxRecDepth 100000 in
theorem za4.calls (k : Nat) (a0 : ByteArray) (r : List ByteArray) (w : World) (h : za4.f k a0 = some r) :
    Calls Tryd.prog 43 #[.string a0] w fun e w' => ∃ v0_ : Value, e = .returned (v0_) ∧ Kd.R Kd.string 9 w' w.heap.size (fun _ => True) v0_ r ∧ Below w.heap.size w w' := by
  have HB := Aside0.mk (Below.refl w.heap.size w); have H : (za4.l0 k a0 ([] : List ByteArray)) = some r := h; clear h; have H' := Aside0.mk H; clear H; go_enter Tryd.func43, Tryd.ntmps43; go_wp2
  go_loopg [0, 3] k (fun kq v0 v3 w' => ∃ (x0_1 : ByteArray) (x3_1 : List ByteArray), v0 = .string x0_1 ∧ Aside0 (za4.l0 kq x0_1 x3_1 = some r) ∧ Aside0 (kq ≤ k) ∧ Aside0 (Kd.R Kd.string 9 w' w.heap.size (fun _ => True) v3 x3_1) ∧ Aside0 (Below w.heap.size w w'))
  case atStart => exact ⟨(a0), (([] : List ByteArray)), (by first | rfl | (simp; done) | (simp [*]; done)), H', ⟨Nat.le_refl _⟩, ⟨by first | exact Kd.R_nil _ _ _ _ _ | exact Kd.N_nil _ _ _ _ _ | exact Kd.V_nil _ _ _ _ _ | exact Kd.Q_nil _ _ _ _ _ | exact Kd.S_nil _ _ _ _ _⟩, ⟨by repeat (first | (with_reducible first | exact HB.out | apply zan | apply zat | apply zas) | exact HB.out)⟩⟩
  case round =>
    clear H'; obtain ⟨x0_1, x3_1, rfl, HA, HK1, HO_3, HB⟩ := hrel
    cases gk with
    | zero => exact absurd HA.out (by simp [za4.l0])
    | succ k1 =>
      have H := HA.out; clear HA; simp only [za4.l0] at H; replace H := Option.bind_eq_some_iff.mp H; obtain ⟨⟨t285, t286, t287⟩, A20, H⟩ := H; replace H : (if x3_1.length < 8796093022208 then ((some (x3_1 ++ [t285] : List ByteArray)).bind fun y288 => (if t287 = true then (za4.l0 k1 t286 y288) else (some y288))) else (none)) = some r := H; have A2 := Aside0.mk A20; clear A20
      by_cases c3 : x3_1.length < 8796093022208
      · rw [if_pos c3] at H
        have LMc3 := Aside0.mk c3; clear c3
        obtain ⟨y288, hy288⟩ : ∃ y_ : List ByteArray, y_ = (x3_1 ++ [t285]) := ⟨_, rfl⟩
        replace H : (if t287 = true then (za4.l0 k1 t286 y288) else (some y288)) = some r := by first | (rw [hy288]; with_reducible exact H) | (have H2_ := (Option.bind_some _ _).symm.trans H; rw [hy288]; with_reducible exact H2_) | (have H2_ := (Option.bind_some _ _).symm.trans H; with_reducible exact H2_) | with_reducible exact H | (rw [hy288]; exact H) | exact H
        have Ny288 := Aside0.mk hy288; clear hy288
        by_cases c4 : t287 = true
        · subst c4
          have H1 : (za4.l0 k1 t286 y288) = some r := by rw [if_pos rfl] at H; exact H
          clear H; have H := H1; clear H1; have H' := Aside0.mk H; clear H
          go_wp2_with (first | ((with_reducible refine za0 (f := 42) rfl ?_); refine zb2 (some 9) rfl rfl Tryd.func42 (by kernel_rfl) rfl #[.string x0_1, .int .u8 32] rfl zt ?_; (with_reducible refine (za8.calls k1 x0_1 32 t285 t286 true _ A2.out).mono ?_); rintro e w' ⟨rfl, ⟨nd, rfl⟩⟩; refine ⟨_, rfl, ?_⟩) | ((with_reducible refine zcg (b := .append) (xs := #[.tmp 13, .tmp 15]) rfl ?_); at_builtin; refine Kd.R_append Kd.string (w0 := w) w.heap.size rfl (.tmp 13) (.tmp 15) 69 9 (.string ⟨#[]⟩) 16 rfl Tryd.underlying69 info9 rfl (by decide) (by omega) u3 x3_1 t285 [.string t285] (fun _ => True) (fun _ => False) rfl rfl ?aP (fun _ hk => hk.elim) ?aF ?aO ?aB ?aS ?aL ?_; (case aP => exact rfl); (case aB => exact (zs0 HB)); (case aF => exact (fun _ _ => trivial)); (case aO => exact (zrR HO_3)); (case aS => exact (zag (zs0 HB))); (case aL => have := LMc3.out; omega); intro v289 w5 ho hb hg hat; rw [← Ny288.out] at ho; have n0_ := Aside0.mk (hb); have n1_ := Aside0.mk (ho); clear HB; clear HO_3; have HB := n0_; have HO290 := n1_; clear n0_ n1_; clear ho hb hg hat))
          go_roundg k1
          case measure => have := HK1.out; omega
          case rel => exact ⟨(t286), (y288), (by first | rfl | (simp; done) | (simp [*]; done)), H', ⟨by have := HK1.out; omega⟩, ⟨by (with_reducible repeat (first | apply Kd.R_alloc | apply Kd.R_drewN | apply Kd.R_drew)); exact HO290.out⟩, ⟨by repeat (first | (with_reducible first | exact HB.out | apply zan | apply zat | apply zas) | exact HB.out)⟩⟩
        · replace c4 := Bool.eq_false_iff.mpr c4
          subst c4
          have H1 : (some y288) = some r := by rw [if_neg (show ¬ (false = true) by decide)] at H; exact H
          clear H; have H := H1; clear H1; obtain rfl := Option.some.inj H
          go_wp2_with (first | ((with_reducible refine za0 (f := 42) rfl ?_); refine zb2 (some 9) rfl rfl Tryd.func42 (by kernel_rfl) rfl #[.string x0_1, .int .u8 32] rfl zt ?_; (with_reducible refine (za8.calls k1 x0_1 32 t285 t286 false _ A2.out).mono ?_); rintro e w' ⟨rfl, ⟨nd, rfl⟩⟩; refine ⟨_, rfl, ?_⟩) | ((with_reducible refine zcg (b := .append) (xs := #[.tmp 13, .tmp 15]) rfl ?_); at_builtin; refine Kd.R_append Kd.string (w0 := w) w.heap.size rfl (.tmp 13) (.tmp 15) 69 9 (.string ⟨#[]⟩) 16 rfl Tryd.underlying69 info9 rfl (by decide) (by omega) u3 x3_1 t285 [.string t285] (fun _ => True) (fun _ => False) rfl rfl ?aP (fun _ hk => hk.elim) ?aF ?aO ?aB ?aS ?aL ?_; (case aP => exact rfl); (case aB => exact (zs0 HB)); (case aF => exact (fun _ _ => trivial)); (case aO => exact (zrR HO_3)); (case aS => exact (zag (zs0 HB))); (case aL => have := LMc3.out; omega); intro v289 w6 ho hb hg hat; rw [← Ny288.out] at ho; have n0_ := Aside0.mk (hb); have n1_ := Aside0.mk (ho); clear HB; clear HO_3; have HB := n0_; have HO290 := n1_; clear n0_ n1_; clear ho hb hg hat))
          go_ret; exact ⟨_, by first | rfl | (simp [zap, zao] <;> rfl) | (simp [*, zap, zao] <;> rfl), by (with_reducible repeat (first | apply Kd.R_alloc | apply Kd.R_drewN | apply Kd.R_drew)); exact HO290.out, zs0 HB⟩
      · rw [if_neg c3] at H
        exact absurd H (by simp)
end Go.Proofs.YtmnleabeipmhmaaDoor.P
end
section
namespace Go.Proofs.YtmnleabeipmhmaaDoor.P
open Go.RowKit Go.Proofs.YtmnleabeipmhmaaDoorW.PrintWords Go.Proofs.YtmnleabeipmhmaaDoorW.PrintLast Go.Proofs.YtmnleabeipmhmaaDoorW.PrintMore
attribute [local go_sem] zb0 zbz zcd zce zbr zbs zb1 zb3   -- for this text's walks alone
set_option linter.unusedVariables false
set_option linter.unusedSimpArgs false
def zay.l0 : Nat → Int → ByteArray → Option (ByteArray)
  | 0, _, _ => none
  | k + 1, x0, x3 => if x0 ≥ 10 then ((some (([(IntKind.u64.wrap (48 + (Int.tmod (IntKind.u64.wrap (Int.tdiv x0 10)) 10))) % 256] : List Int) : List Int)).bind fun y242 => (if (strOfNums y242).size + x3.size ≤ 9223372036854775807 then (zay.l0 k (IntKind.u64.wrap (Int.tdiv x0 10)) ((strOfNums y242) ++ x3)) else (none))) else (some x3)
def zay.f (k : Nat) (a0 : Int) : Option (ByteArray) := zay.l0 k a0 (strOfNums (([(IntKind.u64.wrap (48 + (Int.tmod a0 10))) % 256] : List Int)))
set_option maxHeartbeats 8000000 in
set_option maxRecDepth 100000 in
theorem zay.calls (k : Nat) (a0 : Int) (r : ByteArray) (w : World) (h : zay.f k a0 = some r) :
    Calls Tryd.prog 56 #[.int .u64 a0] w fun e w' => e = .returned (.string r) ∧ Below w.heap.size w w' := by
  have HB := Aside0.mk (Below.refl w.heap.size w); have H : (zay.l0 k a0 (strOfNums (([(IntKind.u64.wrap (48 + (Int.tmod a0 10))) % 256] : List Int)))) = some r := h; clear h
  obtain ⟨y239, hy239⟩ : ∃ y_ : List Int, y_ = (([(IntKind.u64.wrap (48 + (Int.tmod a0 10))) % 256] : List Int)) := ⟨_, rfl⟩
  replace H : (zay.l0 k a0 (strOfNums y239)) = some r := by first | (rw [hy239]; with_reducible exact H) | (have H2_ := (Option.bind_some _ _).symm.trans H; rw [hy239]; with_reducible exact H2_) | (have H2_ := (Option.bind_some _ _).symm.trans H; with_reducible exact H2_) | with_reducible exact H | (rw [hy239]; exact H) | exact H
  have Ny239 := Aside0.mk hy239; clear hy239; have H' := Aside0.mk H; clear H; go_enter Tryd.func56, Tryd.ntmps56
  go_wp2_with (first | ((with_reducible refine zbd (N := 8) rfl ?_); refine Kd.R_lit (Kd.int .u8) _ 5 ?hg (N := 8) ?hd (xs := ([(IntKind.u64.wrap (48 + (Int.tmod a0 10))) % 256] : List Int)) (inner := [.int .u8 ((IntKind.u64.wrap (48 + (Int.tmod a0 10))) % 256)]) (ok := fun _ => True) (okp := fun _ => True) ?hr ?hp (fun _ hk => hk) trivial (Below.refl _ _) (Nat.le_refl _) (by simp) ?_; (case hd => rfl); (case hg => rfl); (case hr => first | (go_simp; done) | (go_simp; rfl)); (case hp => exact (Reps.one (show Kd.M (Kd.int .u8) _ _ _ ((IntKind.u64.wrap (48 + (Int.tmod a0 10))) % 256) [.int .u8 ((IntKind.u64.wrap (48 + (Int.tmod a0 10))) % 256)] from rfl) (Reps.none _ _))); intro v240 w2 ho3 hb hg_ hnew_; clear hg_ hnew_; (first | rw [← Ny239.out] at ho3 | (simp only [Int.reduceToNat] at ho3; rw [← Ny239.out] at ho3)); have n0_ := Aside0.mk (Kd.R_lower ho3 (zag (zs0 HB))); have n1_ := Aside0.mk (zam (zs0 HB) hb); clear HB; have HO241 := n0_; have HB := n1_; clear n0_ n1_; clear hb ho3; have hcv4 := own_string (P := Tryd.prog) Tryd.underlying54 Tryd.underlying5 Tryd.underlying9 (Kd.own_of_R HO241.out)))
  go_loopg [0, 3] k (fun kq v0 v3 w' => ∃ (x0_1 : Int) (x3_1 : ByteArray), v0 = .int .u64 x0_1 ∧ v3 = .string x3_1 ∧ Aside0 (zay.l0 kq x0_1 x3_1 = some r) ∧ Aside0 (kq ≤ k) ∧ Aside0 (Below w.heap.size w w'))
  case atStart => exact ⟨(a0), (strOfNums y239), (by first | rfl | (simp; done) | (simp [*]; done)), (by first | rfl | (simp; done) | (simp [*]; done)), H', ⟨Nat.le_refl _⟩, ⟨by repeat (first | (with_reducible first | exact HB.out | apply zan | apply zat | apply zas) | exact HB.out)⟩⟩
  case round =>
    clear H'; (try clear p2); (try clear hcv4); obtain ⟨x0_1, x3_1, rfl, rfl, HA, HK1, HB⟩ := hrel
    cases gk with
    | zero => exact absurd HA.out (by simp [zay.l0])
    | succ k1 =>
      have H := HA.out; clear HA; simp only [zay.l0] at H
      by_cases c5 : x0_1 ≥ 10
      · rw [if_pos c5] at H
        have c5b0 : decide (10 ≤ x0_1) = true := decide_eq_true c5; clear c5
        obtain ⟨y242, hy242⟩ : ∃ y_ : List Int, y_ = (([(IntKind.u64.wrap (48 + (Int.tmod (IntKind.u64.wrap (Int.tdiv x0_1 10)) 10))) % 256] : List Int)) := ⟨_, rfl⟩
        replace H : (if (strOfNums y242).size + x3_1.size ≤ 9223372036854775807 then (zay.l0 k1 (IntKind.u64.wrap (Int.tdiv x0_1 10)) ((strOfNums y242) ++ x3_1)) else (none)) = some r := by first | (rw [hy242]; with_reducible exact H) | (have H2_ := (Option.bind_some _ _).symm.trans H; rw [hy242]; with_reducible exact H2_) | (have H2_ := (Option.bind_some _ _).symm.trans H; with_reducible exact H2_) | with_reducible exact H | (rw [hy242]; exact H) | exact H
        have Ny242 := Aside0.mk hy242; clear hy242
        by_cases c6 : (strOfNums y242).size + x3_1.size ≤ 9223372036854775807
        · rw [if_pos c6] at H
          have c6b0 := eq_true c6; have c6b1 : decide ((strOfNums y242).size + x3_1.size ≤ 9223372036854775807) = true := decide_eq_true c6; (try have c6b2 : (9223372036854775807 < (strOfNums y242).size + x3_1.size) = False := eq_false (Nat.not_lt.2 c6)); have H' := Aside0.mk H; clear H
          go_wp2_with (first | ((with_reducible refine zbd (N := 18) rfl ?_); refine Kd.R_lit (Kd.int .u8) _ 5 ?hg (N := 18) ?hd (xs := ([(IntKind.u64.wrap (48 + (Int.tmod (IntKind.u64.wrap (Int.tdiv x0_1 10)) 10))) % 256] : List Int)) (inner := [.int .u8 ((IntKind.u64.wrap (48 + (Int.tmod (IntKind.u64.wrap (Int.tdiv x0_1 10)) 10))) % 256)]) (ok := fun _ => True) (okp := fun _ => True) ?hr ?hp (fun _ hk => hk) trivial (Below.refl _ _) (Nat.le_refl _) (by simp) ?_; (case hd => rfl); (case hg => rfl); (case hr => first | (go_simp; done) | (go_simp; rfl)); (case hp => exact (Reps.one (show Kd.M (Kd.int .u8) _ _ _ ((IntKind.u64.wrap (48 + (Int.tmod (IntKind.u64.wrap (Int.tdiv x0_1 10)) 10))) % 256) [.int .u8 ((IntKind.u64.wrap (48 + (Int.tmod (IntKind.u64.wrap (Int.tdiv x0_1 10)) 10))) % 256)] from rfl) (Reps.none _ _))); intro v243 w7 ho8 hb hg_ hnew_; clear hg_ hnew_; (first | rw [← Ny242.out] at ho8 | (simp only [Int.reduceToNat] at ho8; rw [← Ny242.out] at ho8)); have n0_ := Aside0.mk (Kd.R_lower ho8 (zag (zs0 HB))); have n1_ := Aside0.mk (zam (zs0 HB) hb); clear HB; have HO244 := n0_; have HB := n1_; clear n0_ n1_; clear hb ho8; have hcv9 := own_string (P := Tryd.prog) Tryd.underlying54 Tryd.underlying5 Tryd.underlying9 (Kd.own_of_R HO244.out)))
          go_roundg k1
          case measure => have := HK1.out; omega
          case rel => exact ⟨(IntKind.u64.wrap (Int.tdiv x0_1 10)), ((strOfNums y242) ++ x3_1), (by first | rfl | (simp; done) | (simp [*]; done)), (by first | rfl | (simp; done) | (simp [*]; done)), H', ⟨by have := HK1.out; omega⟩, ⟨by repeat (first | (with_reducible first | exact HB.out | apply zan | apply zat | apply zas) | exact HB.out)⟩⟩
        · rw [if_neg c6] at H
          exact absurd H (by simp)
      · rw [if_neg c5] at H
        have c5b0 : decide (10 ≤ x0_1) = false := decide_eq_false c5; clear c5; obtain rfl := Option.some.inj H; go_wp2; go_ret; exact ⟨by first | rfl | (simp [zap, zao] <;> rfl) | (simp [*, zap, zao] <;> rfl), zs0 HB⟩
end Go.Proofs.YtmnleabeipmhmaaDoor.P
end
