/- What is proved here: a part of the proof of ElectionTally: Px72, Elb, Elx, Eas. No conditions beside those that each theorem states. -/
import Derived.Test.YtkgdhdjkpnalmaaGreatDoorKETly3
import Derived.Test.YtkgdhdjkpnalmaaGreatDoorKETly7
import Derived.Test.YtkgdhdjkpnalmaaGreatDoorKETly28
import Derived.Test.YtkgdhdjkpnalmaaGreatDoorKETly16
set_option linter.unusedVariables false
set_option linter.unusedSimpArgs false
section
namespace Go.Proofs.YtkgdhdjkpnalmaaGreatDoor.P
open Go.RowKit Go.Proofs.YtkgdhdjkpnalmaaGreatDoorW.PrintWords Go.Proofs.YtkgdhdjkpnalmaaGreatDoorW.PrintLast Go.Proofs.YtkgdhdjkpnalmaaGreatDoorW.PrintMore
attribute [local go_sem] zcd zcc zck zcl zb3 zb2 zca zcb
def zb6.l0 : Nat → List Int → Int → List Int → Int → Option (List Int)
 | 0, _, _, _, _ => none
 | k + 1, x0, x1, x5, x6 => if x6 < (x0.length : Int) then (if 0 ≤ x6 then (if (rd x0 x6) < (IntKind.u64.wrap (x1)) then (if 0 ≤ (rd x0 x6) then (if (rd x0 x6) < (x5.length : Int) then (zb6.l0 k x0 x1 (x5.set ((rd x0 x6) : Int).toNat (IntKind.u64.wrap ((rd x5 (rd x0 x6)) + 1))) (wrap64 (x6 + 1))) else (none)) else (none)) else (zb6.l0 k x0 x1 x5 (wrap64 (x6 + 1)))) else (none)) else (some x5)
def zb6.f (k : Nat) (l0 : List Int) (a1 : Int) : Option (List Int) := if 0 ≤ a1 then (if (a1 : Int).toNat ≤ 35184372088832 then (zb6.l0 k l0 a1 (List.replicate (a1 : Int).toNat 0) 0) else (none)) else (none)
set_option maxHeartbeats 8000000 in
set_option maxRecDepth 100000 in
theorem zb6.calls (k : Nat) (A0 : Option Addr) (c0 : Nat) (l0 : List Int) (a1 : Int) (r : List Int) (w : World) (hr0 : Kd.C (Kd.int .u64) w A0 l0.length l0) (hc0 : l0.length ≤ c0) (h : zb6.f k l0 a1 = some r) :
  Calls Tryz.prog 16 #[.slice A0 l0.length c0, .int .i64 a1] w fun e w' => ∃ v0_ : Value, e = .returned (v0_) ∧ Kd.R (Kd.int .u64) 37 w' w.heap.size (fun _ => True) v0_ r ∧ Below w.heap.size w w' := by
 have HR0 := zA0 hr0; have HC0 := zA0 hc0; clear hr0 hc0; have HB := zA0 (Below.refl w.heap.size w); have H : (if 0 ≤ a1 then (if (a1 : Int).toNat ≤ 35184372088832 then (zb6.l0 k l0 a1 (List.replicate (a1 : Int).toNat 0) 0) else (none)) else (none)) = some r := h; clear h
 by_cases c3 : 0 ≤ a1
 ·rw [if_pos c3] at H
  have c3b0 := eq_true c3; have c3b1 : decide (0 ≤ a1) = true := decide_eq_true c3; clear c3
  by_cases c4 : (a1 : Int).toNat ≤ 35184372088832
  ·rw [if_pos c4] at H
   have c4b0 := eq_true c4; have c4b1 : decide ((a1 : Int).toNat ≤ 35184372088832) = true := decide_eq_true c4; clear c4
   obtain ⟨y689, hy689⟩ : ∃ y_ : List Int, y_ = (List.replicate (a1 : Int).toNat 0) := ⟨_, rfl⟩
   replace H : (zb6.l0 k l0 a1 y689 0) = some r := yr hy689 H
   have Ny689 := zA0 hy689; clear hy689; have H' := zA0 H; clear H; go_enter Tryz.func16, Tryz.ntmps16
   go_wp2_with (first | ((with_reducible refine zbl (N := 8) rfl ?_); refine Kd.R_make (Kd.int .u64) _ 37 rfl (N := 8) rfl 23 _ _ rfl a1 rfl rfl Tryz.underlying23 (.int .u64 0) 8 info37 rfl (by decide) (by omega) 0 (ok := fun _ => True) (okp := fun _ => True) rfl (fun _ hk => hk) trivial (of_decide_eq_true yq3) (Nat.le_trans (Nat.mul_le_mul_right _ (of_decide_eq_true yq3 : a1.toNat ≤ 35184372088832)) (by omega)) (Below.refl _ _) (Nat.le_refl _) ?_; intro v690 w5 ho6 hb hg_ hnew_; clear hg_ hnew_; (first | rw [← Ny689.out] at ho6 | (simp only [Int.reduceToNat] at ho6; rw [← Ny689.out] at ho6)); have n0_ := zA0 (Kd.R_lower ho6 (zce (zs0 HB))); have n1_ := zA0 (zak (zs0 HB) hb); clear HB; revert n0_ n1_; intro HO691 HB; clear hb ho6))
   go_loopg [6] k (fun kq v6 w' => ∃ (x5_1 : List Int) (x6_1 : Int), v6 = .int .i64 x6_1 ∧ Aside0 (zb6.l0 kq l0 a1 x5_1 x6_1 = some r) ∧ Aside0 (kq ≤ k) ∧ Aside0 (Kd.R (Kd.int .u64) 37 w' w.heap.size (fun _ => True) v690 x5_1) ∧ Aside0 (Below w.heap.size w w'))
   case atStart => exact ⟨(y689), (0), yq8, H', ⟨Nat.le_refl _⟩, ⟨yp1 HO691⟩, ⟨yq38⟩⟩
   case round =>
    clear H'; obtain ⟨x5_1, x6_1, rfl, HA, HK1, HO_5, HB⟩ := hrel
    cases gk with
    | zero => exact absurd HA.out (by simp [zb6.l0])
    | succ k1 =>
     have H := HA.out; clear HA; simp only [zb6.l0] at H
     by_cases c7 : x6_1 < (l0.length : Int)
     ·rw [if_pos c7] at H
      have c7b0 : decide (x6_1 < (l0.length : Int)) = true := decide_eq_true c7; clear c7
      by_cases c8 : 0 ≤ x6_1
      ·rw [if_pos c8] at H
       have c8b0 : decide (0 ≤ x6_1) = true := decide_eq_true c8; clear c8
       by_cases c9 : (rd l0 x6_1) < (IntKind.u64.wrap (a1))
       ·rw [if_pos c9] at H
        have c9b0 : decide ((rd l0 x6_1) < (IntKind.u64.wrap (a1))) = true := decide_eq_true c9; clear c9
        by_cases c10 : 0 ≤ (rd l0 x6_1)
        ·rw [if_pos c10] at H
         have c10b0 : decide (0 ≤ (rd l0 x6_1)) = true := decide_eq_true c10; clear c10
         by_cases c11 : (rd l0 x6_1) < (x5_1.length : Int)
         ·rw [if_pos c11] at H
          have c11b0 : decide ((rd l0 x6_1) < (x5_1.length : Int)) = true := decide_eq_true c11; clear c11
          obtain ⟨y695, hy695⟩ : ∃ y_ : List Int, y_ = (x5_1.set ((rd l0 x6_1) : Int).toNat (IntKind.u64.wrap ((rd x5_1 (rd l0 x6_1)) + 1))) := ⟨_, rfl⟩
          replace H : (zb6.l0 k1 l0 a1 y695 (wrap64 (x6_1 + 1))) = some r := yr hy695 H
          have Ny695 := zA0 hy695; clear hy695; have H' := zA0 H; clear H; have p692 : 0 ≤ (x6_1 : Int) := of_decide_eq_true yq3; have q692 : x6_1 < (l0.length : Int) := of_decide_eq_true yq3; obtain ⟨ad692, e692, hx692_0⟩ := Kd.at_int HR0.out x6_1 p692 q692; cases e692; replace hx692_0 := (HB.out.cell (World.block_lt_of_cell? w _ hx692_0)).trans hx692_0; replace p692 := eq_true p692; replace q692 := eq_true q692; have p693 : 0 ≤ (x6_1 : Int) := of_decide_eq_true yq3; have q693 : x6_1 < (l0.length : Int) := of_decide_eq_true yq3; obtain ⟨ad693, e693, hx693_0⟩ := Kd.at_int HR0.out x6_1 p693 q693
          obtain rfl : ad692 = ad693 := (by injection e693)
          replace hx693_0 := (HB.out.cell (World.block_lt_of_cell? w _ hx693_0)).trans hx693_0; replace p693 := eq_true p693; replace q693 := eq_true q693; obtain ⟨Ao13, co13, eo13⟩ := Kd.R_slice HO_5.out; subst eo13; have p694 : 0 ≤ ((rd l0 x6_1) : Int) := of_decide_eq_true yq3; have q694 : (rd l0 x6_1) < (x5_1.length : Int) := of_decide_eq_true yq3; obtain ⟨ad694, e694, hx694_0⟩ := Kd.at_int (Kd.R_reads' HO_5.out).2.2 (rd l0 x6_1) p694 q694; cases e694; replace p694 := eq_true p694; replace q694 := eq_true q694; have p12 : 0 ≤ ((rd l0 x6_1) : Int) := of_decide_eq_true yq3; have q12 : ((rd l0 x6_1) : Int) < ((x5_1.length : Int) : Int) := of_decide_eq_true yq3; obtain ⟨go12, co12, eo12, gb12, gl12, cl12, HG12⟩ := Kd.R_form HO_5.out (by omega)
          (first | cases eo12 | (injection eo12 with ea_ en_ ec_; (first | subst ea_ | (injection ea_ with ea_; subst ea_)); subst ec_; clear en_))
          have GB12 := zA0 gb12; have GG12 := zA0 HG12; clear gb12 gl12 HG12
          (first | simp only [zd0] at hx694_0 | skip)
          obtain ⟨hx12_0, hf12_0⟩ := Kd.R_celln 0 HO_5.out ((rd l0 x6_1) : Int) p12 q12; replace p12 := eq_true p12; replace q12 := eq_true q12; have HP14 := Kd.R_putg HO_5.out ((rd l0 x6_1) : Int) (IntKind.u64.wrap ((rd x5_1 (rd l0 x6_1)) + 1))
          go_wp2_with (first | ((with_reducible refine gate_store (t := 37) (p := 30) rfl ?_); refine store_event (t := 37) (p := 30) (v := ?vo_w15) (w1 := (wr.setCell ⟨go12, ((rd l0 x6_1) : Int).toNat, none⟩ (.int .u64 (IntKind.u64.wrap ((rd x5_1 (rd l0 x6_1)) + 1))))) ?hg ?ho ?hn ?hr ?_; (case ho => rfl); (case hg => rfl); (case hn => rfl); (case hr => first | (go_simp; done) | (go_simp; rfl)); intro w15 hw; have hg : wr.grownBy w15 (some go12) := (by rw [hw]; exact HP14.2); have hp_ : Kd.R (Kd.int .u64) 37 w15 w.heap.size (fun _ => True) (.slice (some ⟨go12, 0, none⟩) x5_1.length co13) y695 := (by rw [hw, Ny695.out]; exact HP14.1); clear HP14; have n0_ := zA0 (hp_); have n1_ := zA0 ((by rw [hw]; exact zba (HB.out) GB12.out : Below w.heap.size w w15)); clear HO_5 HB; revert n0_ n1_; intro HO_5 HB; clear hg hw hp_))
          go_roundg k1
          case measure => have := HK1.out; omega
          case rel => exact ⟨(y695), (wrap64 (x6_1 + 1)), yq8, H', ⟨yq93⟩, ⟨yp1 HO_5⟩, ⟨yq38⟩⟩
         ·rw [if_neg c11] at H
          exact absurd H (by simp)
        ·rw [if_neg c10] at H
         exact absurd H (by simp)
       ·rw [if_neg c9] at H
        have c9b0 : decide ((rd l0 x6_1) < (IntKind.u64.wrap (a1))) = false := decide_eq_false c9; clear c9; have H' := zA0 H; clear H; have p692 : 0 ≤ (x6_1 : Int) := of_decide_eq_true yq3; have q692 : x6_1 < (l0.length : Int) := of_decide_eq_true yq3; obtain ⟨ad692, e692, hx692_0⟩ := Kd.at_int HR0.out x6_1 p692 q692; cases e692; replace hx692_0 := (HB.out.cell (World.block_lt_of_cell? w _ hx692_0)).trans hx692_0; replace p692 := eq_true p692; replace q692 := eq_true q692; go_wp2
        go_roundg k1
        case measure => have := HK1.out; omega
        case rel => exact ⟨(x5_1), (wrap64 (x6_1 + 1)), yq8, H', ⟨yq93⟩, ⟨yp1 HO_5⟩, ⟨yq38⟩⟩
      ·rw [if_neg c8] at H
       exact absurd H (by simp)
     ·rw [if_neg c7] at H
      have c7b0 : decide (x6_1 < (l0.length : Int)) = false := decide_eq_false c7; clear c7; obtain rfl := Option.some.inj H; go_wp2; go_ret; exact ⟨_, yq6, yp1 HO_5, zs0 HB⟩
  ·rw [if_neg c4] at H
   exact absurd H (by simp)
 ·rw [if_neg c3] at H
  exact absurd H (by simp)
end Go.Proofs.YtkgdhdjkpnalmaaGreatDoor.P
end
section
namespace Go.Proofs.YtkgdhdjkpnalmaaGreatDoor.P
open Go.RowKit Go.Proofs.YtkgdhdjkpnalmaaGreatDoorW.PrintWords Go.Proofs.YtkgdhdjkpnalmaaGreatDoorW.PrintLast Go.Proofs.YtkgdhdjkpnalmaaGreatDoorW.PrintMore
theorem bt_nat (b : List UInt8) (i : Nat) (h : i < b.length) : bt ⟨b.toArray⟩ (i : Int) = (b[i].toNat : Int) := by
 have hs : ((i : Int)).toNat < (ByteArray.mk b.toArray).size := by show _ < b.toArray.size; simpa using h
 rw [← zd8 _ _ hs]; rfl
theorem sz (b : List UInt8) : (ByteArray.mk b.toArray).size = b.length := by show b.toArray.size = _; simp
theorem ba_toList (b : List UInt8) : (ByteArray.mk b.toArray).toList = b := by
 have key : ∀ (s : ByteArray) (d : Nat) (i : Nat) (r : List UInt8), s.size - i = d → ByteArray.toList.loop s i r = r.reverse ++ s.data.toList.drop i := by
  intro s d
  induction d with
  | zero =>
   intro i r h; rw [ByteArray.toList.loop, if_neg (by omega), List.drop_of_length_le (by show s.data.toList.length ≤ i; have : s.size = s.data.size := rfl; simp; omega), List.append_nil]
  | succ d ih =>
   intro i r h
   have hi : i < s.data.toList.length := by have : s.size = s.data.size := rfl; simp; omega
   rw [ByteArray.toList.loop, if_pos (by omega), ih (i + 1) _ (by omega), List.drop_eq_getElem_cons hi]; simp [ByteArray.get!]; rw [getElem!_pos s.data i (by simpa using hi)]
 have := key ⟨b.toArray⟩ _ 0 [] rfl
 rw [ByteArray.toList, this]; simp
theorem ext_eq (b : List UInt8) (i j : Nat) : (ByteArray.mk b.toArray).extract i j = ⟨((b.drop i).take (j - i)).toArray⟩ := by
 apply ByteArray.ext; simp
theorem ext_rest (b : List UInt8) (i : Nat) : (ByteArray.mk b.toArray).extract i (ByteArray.mk b.toArray).size = ⟨(b.drop i).toArray⟩ := by
 rw [ext_eq, sz, List.take_of_length_le (by simp)]
theorem ext_front (a r : List UInt8) : (ByteArray.mk (a ++ r).toArray).extract 0 a.length = ⟨a.toArray⟩ := by
 rw [ext_eq]; simp
theorem w64s {i : Nat} (h : i < 1000000) : wrap64 ((i : Int) + 1) = ((i + 1 : Nat) : Int) := by unfold wrap64; omega
theorem Ev.pos {α : Type} {c : Prop} [Decidable c] {g f : Nat → Option α} {r : α} (hc : c) (h : Ev g r) : Ev (fun k => if c then g k else f k) r := Ev.congr (fun _ => if_pos hc) h
theorem Ev.neg {α : Type} {c : Prop} [Decidable c] {g f : Nat → Option α} {r : α} (hc : ¬ c) (h : Ev f r) : Ev (fun k => if c then g k else f k) r := Ev.congr (fun _ => if_neg hc) h
theorem Ev.val {α β : Type} {a : Option α} {f : Nat → α → Option β} {v : α} {r : β} (h : a = some v) (k : Ev (fun n => f n v) r) : Ev (fun n => a.bind (f n)) r := by
 subst h; exact k
theorem drop_cons {l s : List UInt8} {i : Nat} {b : UInt8} (h : l.drop i = b :: s) : ∃ hi : i < l.length, l[i] = b ∧ l.drop (i + 1) = s := by
 have hi : i < l.length := by
  rcases Nat.lt_or_ge i l.length with h' | h'
  ·exact h'
  ·rw [List.drop_of_length_le h'] at h; cases h
 rw [List.drop_eq_getElem_cons hi] at h
 injection h with h1 h2
 exact ⟨hi, h1, h2⟩
def isD (b : UInt8) : Bool := decide (48 ≤ b.toNat) && decide (b.toNat ≤ 57)
def isL (b : UInt8) : Bool := (decide (97 ≤ b.toNat) && decide (b.toNat ≤ 122)) || (decide (65 ≤ b.toNat) && decide (b.toNat ≤ 90))
def isW (b : UInt8) : Bool := isD b || isL b || decide (b.toNat = 95)
def isB (b : UInt8) : Bool := decide (b.toNat = 32) || decide (b.toNat = 10)
theorem digit_eq (b : UInt8) : zcj.f (b.toNat : Int) = some (isD b) := by
 unfold zcj.f isD
 by_cases h : 48 ≤ b.toNat
 ·rw [if_pos (by omega)]; simp only [h, decide_true, Bool.true_and]; exact congrArg some (decide_eq_decide.2 (by omega))
 ·rw [if_neg (by omega)]; simp [h]
theorem letter_eq (b : UInt8) : zb0.f (b.toNat : Int) = some (isL b) := by
 unfold zb0.f isL
 by_cases h1 : 97 ≤ b.toNat
 ·rw [if_pos (by omega)]
  by_cases h2 : b.toNat ≤ 122
  ·rw [if_pos (by omega)]; simp [h1, h2]
  ·rw [if_neg (by omega), if_pos (by omega)]; simp only [h1, h2, decide_true, decide_false, Bool.and_false, Bool.false_or]; exact congrArg some (by rw [decide_eq_false (by omega)]; simp; omega)
 ·rw [if_neg (by omega)]
  by_cases h2 : 65 ≤ b.toNat
  ·rw [if_pos (by omega)]; simp only [h1, h2, decide_true, decide_false, Bool.false_and, Bool.false_or, Bool.true_and]; exact congrArg some (decide_eq_decide.2 (by omega))
  ·rw [if_neg (by omega)]; simp [h1, h2]
theorem long_ev (flag : Bool) (l : List UInt8) (hl : l.length < 100000) : ∀ (t r : List UInt8) (i : Nat), l.drop i = t ++ r → (∀ b ∈ t, (if flag = true then isD b else isW b) = true) → (∀ b s, r = b :: s → (if flag = true then isD b else isW b) = false) → Ev (fun k => zas.l0 k ⟨l.toArray⟩ flag (i : Int)) ((i + t.length : Nat) : Int)
 | [], r, i, h, _, hr => by
  refine Ev.step (f := fun _ => some ((i : Nat) : Int)) (fun k => ?_) (Ev.now _); rw [zas.l0]
  rcases r with _ | ⟨b, s⟩
  ·have hi : l.length ≤ i := by simpa using h
   rw [if_neg yq168]
  ·obtain ⟨hi, hb, _⟩ := drop_cons h
   rw [if_pos yq168, if_pos (by omega), bt_nat _ _ hi, hb, digit_eq]; simp only [Option.bind_some]; have hp := hr b s rfl; cases flag; (· simp only [isW, Bool.or_eq_false_iff, decide_eq_false_iff_not, if_neg (show ¬ (false = true) by decide)] at hp; obtain ⟨⟨h1, h2⟩, h3⟩ := hp; rw [h1, if_neg (by decide), if_neg (by decide), letter_eq, h2]; simp only [Option.bind_some]; rw [if_neg (by decide), if_neg (by omega)]); (· rw [if_pos rfl] at hp; rw [hp, if_neg (by decide), if_pos rfl])
 | b :: t, r, i, h, ht, hr => by
  obtain ⟨hi, hb, hd⟩ := drop_cons (s := t ++ r) (by simpa using h); have ih := long_ev flag l hl t r (i + 1) hd (fun b hb => ht b (List.mem_cons_of_mem _ hb)) hr; rw [show i + (b :: t).length = i + 1 + t.length by simp; omega]; refine Ev.step (fun k => ?_) ih; rw [zas.l0, if_pos yq168, if_pos (by omega), bt_nat _ _ hi, hb, digit_eq]; simp only [Option.bind_some]; have hp := ht b (List.mem_cons_self ..); rw [w64s (by omega)]; cases flag
  ·rw [if_neg (by decide)] at hp
   by_cases h1 : isD b = true
   ·rw [if_pos h1]
   ·rw [if_neg h1, if_neg (by decide), letter_eq]
    simp only [Option.bind_some]
    by_cases h2 : isL b = true
    ·rw [if_pos h2]
    ·rw [if_neg h2, if_pos]
     simp only [isW, Bool.or_eq_true, decide_eq_true_eq] at hp
     rcases hp with (hp | hp) | hp
     ·exact absurd hp h1
     ·exact absurd hp h2
     ·omega
  ·rw [if_pos rfl] at hp
   rw [if_pos hp]
theorem blank_ev (l : List UInt8) (hl : l.length < 100000) : ∀ (t r : List UInt8) (i : Nat), l.drop i = t ++ r → (∀ b ∈ t, isB b = true) → (∀ b s, r = b :: s → isB b = false ∧ b.toNat ≠ 9 ∧ b.toNat ≠ 47) → Ev (fun k => zal.l0 k ⟨l.toArray⟩ (i : Int)) ((i + t.length : Nat) : Int)
 | [], r, i, h, _, hr => by
  rcases r with _ | ⟨b, s⟩
  ·have hi : l.length ≤ i := by simpa using h
   refine Ev.step (f := fun _ => some ((i : Nat) : Int)) (fun k => ?_) (Ev.now _); rw [zal.l0, if_neg yq168]
  ·obtain ⟨hi, hb, _⟩ := drop_cons h
   obtain ⟨h1, h2, h3⟩ := hr b s rfl; simp only [isB, Bool.or_eq_false_iff, decide_eq_false_iff_not] at h1; have j2 : Ev (fun k => zal.j2 k (i : Int) false) (i : Int) := Ev.step (f := fun _ => some ((i : Nat) : Int)) (fun k => by rw [zal.j2, if_neg (by decide)]) (Ev.now _)
   have j1 : Ev (fun k => zal.j1 k ⟨l.toArray⟩ (i : Int) false) (i : Int) := by
    refine Ev.step (fun k => ?_) j2; rw [zal.j1, if_neg (by decide), w64s (by omega)]
    by_cases hn : i + 1 < l.length
    ·rw [if_pos yq168, if_pos (by omega), show wrap64 ((i : Int) + 2) = ((i + 2 : Nat) : Int) by unfold wrap64; omega, if_pos (by omega), if_pos yq168, Int.toNat_natCast, Int.toNat_natCast, ext_eq, ba_toList, h]
     have e : ((([] ++ b :: s : List UInt8).take (i + 2 - i)) == ([47, 47] : List UInt8)) = false := by
      rw [show i + 2 - i = 2 by omega]; refine beq_eq_false_iff_ne.2 (fun e => ?_)
      rcases s with _ | ⟨c, s⟩
      ·simp at e
      ·simp at e
       exact h3 (by rw [e.1]; rfl)
     rw [e]
    ·rw [if_neg yq168]
   refine Ev.step (fun k => ?_) j1; rw [zal.l0, if_pos yq168, if_pos (by omega), bt_nat _ _ hi, hb, if_neg (by omega), if_neg (by omega)]; rw [show ((b.toNat : Int) == 10) = false from beq_eq_false_iff_ne.2 (by omega)]
 | b :: t, r, i, h, ht, hr => by
  obtain ⟨hi, hb, hd⟩ := drop_cons (s := t ++ r) (by simpa using h); have ih := blank_ev l hl t r (i + 1) hd (fun b hb => ht b (List.mem_cons_of_mem _ hb)) hr; rw [show i + (b :: t).length = i + 1 + t.length by simp; omega]
  have j1 : Ev (fun k => zal.j1 k ⟨l.toArray⟩ (i : Int) true) ((i + 1 + t.length : Nat) : Int) := by
   refine Ev.step (fun k => ?_) ih; rw [zal.j1, if_pos rfl, w64s (by omega)]
  refine Ev.step (fun k => ?_) j1; rw [zal.l0, if_pos yq168, if_pos (by omega), bt_nat _ _ hi, hb]; have hp := ht b (List.mem_cons_self ..); simp only [isB, Bool.or_eq_true, decide_eq_true_eq] at hp
  by_cases h1 : b.toNat = 32
  ·rw [if_pos (by omega)]
  ·rw [if_neg (by omega), if_neg (by omega), show ((b.toNat : Int) == 10) = true from beq_iff_eq.2 (by omega)]
theorem sign_one (c : UInt8) (r : List UInt8) : ∀ (k : Nat) (x : ByteArray) (i : Int), zav.l0 k ⟨(c :: r).toArray⟩ x i = zav.l0 k ⟨[c].toArray⟩ x i
 | 0, _, _ => by rw [zav.l0, zav.l0]
 | k + 1, x, i => by
  have e1 : bt ⟨(c :: r).toArray⟩ 0 = (c.toNat : Int) := bt_nat (c :: r) 0 (by simp); have e2 : bt ⟨[c].toArray⟩ 0 = (c.toNat : Int) := bt_nat [c] 0 (by simp)
  have s1 : (0 : Int) < ((ByteArray.mk (c :: r).toArray).size : Int) := by rw [sz]; simp
  have s2 : (0 : Int) < ((ByteArray.mk [c].toArray).size : Int) := by rw [sz]; simp
  rw [zav.l0, zav.l0, e1, e2, sign_one c r k]; simp only [s1, s2, if_true]
def tk (c : UInt8) (tok : List UInt8) (p : Nat) : Option S92 :=
 if isD c = true then (match zbr.f 60 ⟨tok.toArray⟩ with | some (v, true) => some ⟨2, ⟨tok.toArray⟩, v, p⟩ | _ => none)
 else if isL c = true then (if tok.length ≤ 20 then (match zbg.f 60 ⟨tok.toArray⟩ with | some true => some ⟨3, ⟨tok.toArray⟩, 0, p⟩ | some false => some ⟨1, ⟨tok.toArray⟩, 0, p⟩ | none => none) else none)
 else if tok.length = 2 then some ⟨4, ⟨tok.toArray⟩, 0, p⟩ else (match zav.l0 60 ⟨[c].toArray⟩ ⟨#[40, 41, 91, 93, 123, 125, 59, 44, 58, 61, 43, 45, 42, 60, 38, 124, 33, 63]⟩ 0 with | some 1 => some ⟨4, ⟨tok.toArray⟩, 0, p⟩ | _ => none)
def cutT (c : UInt8) (s : List UInt8) : List UInt8 := if isD c = true then (c :: s).takeWhile isD else if isL c = true then (c :: s).takeWhile isW else if c = 61 ∧ s.head? = some 61 then [61, 61] else [c]
def fair : List UInt8 → Bool
 | [] => true
 | b :: _ => !isB b && decide (b.toNat ≠ 9) && decide (b.toNat ≠ 47)
def lexT : Nat → Nat → List UInt8 → Option (List S92)
 | 0, _, _ => none
 | _ + 1, _, [] => some []
 | f + 1, p, c :: s =>
  (tk c (cutT c s) p).bind fun t =>
   if fair (((c :: s).drop (cutT c s).length).dropWhile isB) = true then (lexT f (p + (cutT c s).length + (((c :: s).drop (cutT c s).length).takeWhile isB).length) (((c :: s).drop (cutT c s).length).dropWhile isB)).bind fun ts => some (t :: ts) else none
theorem toks_len (p : UInt8 → Bool) (l : List UInt8) : l.takeWhile p ++ l.drop (l.takeWhile p).length = l := by
 conv => rhs; rw [← List.takeWhile_append_dropWhile (p := p) (l := l)]
 congr 1
 have e := congrArg (List.drop (l.takeWhile p).length) (List.takeWhile_append_dropWhile (p := p) (l := l)); rw [List.drop_left] at e; exact e.symm
theorem mem_tw {p : UInt8 → Bool} : ∀ {l : List UInt8} {b : UInt8}, b ∈ l.takeWhile p → p b = true
 | [], _, h => by simp at h
 | c :: l, b, h => by
  rw [List.takeWhile_cons] at h
  split at h
  ·rename_i hc
   rcases List.mem_cons.1 h with rfl | h
   ·exact hc
   ·exact mem_tw h
  ·cases h
theorem drop_head (p : UInt8 → Bool) (l : List UInt8) (b : UInt8) (s : List UInt8) (h : l.drop (l.takeWhile p).length = b :: s) : p b = false := by
 have e : l.dropWhile p = b :: s := by
  have := toks_len p l; rw [h] at this; have e2 := List.takeWhile_append_dropWhile (p := p) (l := l); exact List.append_cancel_left (e2.trans this.symm)
 have := List.head?_dropWhile_not (p := p) (l := l); rw [e] at this
 simpa using this
theorem one_ev (c : UInt8) (s : List UInt8) (hl : (c :: s).length < 100000) (p : Nat) (t : S92) (ht : tk c (cutT c s) p = some t) :
  (cutT c s) ++ (c :: s).drop (cutT c s).length = c :: s ∧ t.f3 = p ∧ Ev (fun k => zcp.f k ⟨(c :: s).toArray⟩) (t.f0, t.f1, t.f2, 0, ((cutT c s).length : Int), 0) := by
 have h0 : (0 : Int) < ((ByteArray.mk (c :: s).toArray).size : Int) := by rw [sz]; simp
 have b0 : bt ⟨(c :: s).toArray⟩ 0 = (c.toNat : Int) := bt_nat (c :: s) 0 (by simp)
 have hb : 0 < (c :: s).length := by simp
 unfold tk at ht
 by_cases h1 : isD c = true
 ·have ec : cutT c s = (c :: s).takeWhile isD := if_pos h1
  rw [if_pos h1, ec] at ht; have hc := toks_len isD (c :: s); have L := long_ev true (c :: s) hl ((c :: s).takeWhile isD) _ 0 (by simpa using hc.symm) (fun b hb => by rw [if_pos rfl]; exact (mem_tw hb)) (fun b r h => by rw [if_pos rfl]; exact drop_head isD _ b r h); rw [ec]; generalize (c :: s).takeWhile isD = tok at *; rw [Nat.zero_add] at L
  have htl : tok.length ≤ (c :: s).length := by rw [← hc]; simp
  have hf : (ByteArray.mk (c :: s).toArray).extract 0 tok.length = ⟨tok.toArray⟩ := by
   conv => lhs; rw [← hc]
   exact ext_front _ _
  split at ht
  ·rename_i v hv
   obtain rfl := Option.some.inj ht; refine ⟨hc, rfl, ?_⟩; unfold zcp.f; refine Ev.pos h0 (Ev.val (by rw [b0]; exact digit_eq c) (Ev.pos h1 (Ev.bind L (Ev.pos (by omega) (Ev.pos yq168 ?_))))); rw [Int.toNat_natCast, hf]; exact Ev.bind (Ev.of (fun k => zbr.mono _ k) hv) (Ev.pos rfl (Ev.now _))
  ·cases ht
 ·rw [if_neg h1] at ht
  by_cases h2 : isL c = true
  ·have ec : cutT c s = (c :: s).takeWhile isW := (if_neg h1).trans (if_pos h2)
   rw [if_pos h2, ec] at ht; have hc := toks_len isW (c :: s); have L := long_ev false (c :: s) hl ((c :: s).takeWhile isW) _ 0 (by simpa using hc.symm) (fun b hb => by rw [if_neg (by decide)]; exact (mem_tw hb)) (fun b r h => by rw [if_neg (by decide)]; exact drop_head isW _ b r h); rw [ec]; generalize (c :: s).takeWhile isW = tok at *; rw [Nat.zero_add] at L
   have htl : tok.length ≤ (c :: s).length := by rw [← hc]; simp
   have hf : (ByteArray.mk (c :: s).toArray).extract 0 tok.length = ⟨tok.toArray⟩ := by
    conv => lhs; rw [← hc]
    exact ext_front _ _
   split at ht
   ·rename_i h20
    have pre : ∀ {v : Bool} {r : Int × ByteArray × Int × Int × Int × Int}, zbg.f 60 ⟨tok.toArray⟩ = some v → Ev (fun k => if v = true then (some ((3 : Int), (⟨tok.toArray⟩ : ByteArray), (0 : Int), (0 : Int), ((tok.length : Nat) : Int), (0 : Int))) else (some (1, ⟨tok.toArray⟩, 0, 0, ((tok.length : Nat) : Int), 0))) r → Ev (fun k => zcp.f k ⟨(c :: s).toArray⟩) r := by
     intro v r hv hr; unfold zcp.f; refine Ev.pos h0 (Ev.val (by rw [b0]; exact digit_eq c) (Ev.neg h1 (Ev.val (by rw [b0]; exact letter_eq c) (Ev.pos h2 (Ev.bind L (Ev.neg (by omega) (Ev.pos (by omega) (Ev.pos yq168 ?_)))))))); rw [Int.toNat_natCast, hf]; exact Ev.bind (Ev.of (fun k => zbg.mono _ k) hv) hr
    split at ht
    ·rename_i hv
     obtain rfl := Option.some.inj ht; exact ⟨hc, rfl, pre hv (Ev.pos rfl (Ev.now _))⟩
    ·rename_i hv
     obtain rfl := Option.some.inj ht; exact ⟨hc, rfl, pre hv (Ev.neg (by decide) (Ev.now _))⟩
    ·cases ht
   ·cases ht
  ·rw [if_neg h2] at ht
   have ec : cutT c s = if c = 61 ∧ s.head? = some 61 then [61, 61] else [c] := (if_neg h1).trans (if_neg h2)
   have pre : ∀ {tok : List UInt8} (hc : tok ++ (c :: s).drop tok.length = c :: s), Ev (fun k => zav.f k ⟨(c :: s).toArray⟩) (tok.length : Int) → tok.length ≠ 0 → Ev (fun k => zcp.f k ⟨(c :: s).toArray⟩) (4, ⟨tok.toArray⟩, 0, 0, (tok.length : Int), 0) := by
    intro tok hc hs hn
    have htl : tok.length ≤ (c :: s).length := by rw [← hc]; simp
    have hf : (ByteArray.mk (c :: s).toArray).extract 0 tok.length = ⟨tok.toArray⟩ := by
     conv => lhs; rw [← hc]
     exact ext_front _ _
    unfold zcp.f; refine Ev.pos h0 (Ev.val (by rw [b0]; exact digit_eq c) (Ev.neg h1 (Ev.val (by rw [b0]; exact letter_eq c) (Ev.neg h2 (Ev.bind hs (Ev.neg (by omega) (Ev.pos (by omega) (Ev.pos yq168 ?_)))))))); rw [Int.toNat_natCast, hf]; exact Ev.now _
   by_cases h3 : c = 61 ∧ s.head? = some 61
   ·rw [if_pos h3] at ec
    obtain ⟨rfl, h3⟩ := h3
    rcases s with _ | ⟨d, s⟩
    ·cases h3
    ·obtain rfl : d = 61 := by simpa using h3
     rw [ec, if_pos (by rfl)] at ht; obtain rfl := Option.some.inj ht; rw [ec]; refine ⟨rfl, rfl, pre (tok := [61, 61]) rfl ?_ (by simp)⟩; unfold zav.f; refine Ev.pos (by rw [sz]; simp; omega) (Ev.pos (by decide) (Ev.pos (by rw [sz]; simp; omega) ?_))
     have e : ((((ByteArray.mk (61 :: 61 :: s : List UInt8).toArray)).extract 0 2).toList == ([61, 61] : List UInt8)) = true := by
      rw [ext_eq, ba_toList]; rfl
     rw [e]; exact Ev.step (f := fun _ => some 2) (fun k => by rw [zav.j0, if_pos rfl]) (Ev.now _)
   ·rw [if_neg h3] at ec
    rw [ec, if_neg (show ¬ (([c] : List UInt8).length = 2) by simp)] at ht; rw [ec]
    split at ht
    ·rename_i hv
     obtain rfl := Option.some.inj ht; refine ⟨rfl, rfl, pre (tok := [c]) rfl ?_ (by simp)⟩
     have L0 : Ev (fun k => zav.l0 k ⟨(c :: s).toArray⟩ ⟨#[40, 41, 91, 93, 123, 125, 59, 44, 58, 61, 43, 45, 42, 60, 38, 124, 33, 63]⟩ 0) 1 := by
      refine Ev.congr (fun k => sign_one c s k _ _) (Ev.of (fun k => ?_) hv); exact (zav.mono_l k).2 _ _ _
     have J0 : Ev (fun k => zav.j0 k ⟨(c :: s).toArray⟩ false) 1 := Ev.step (fun k => by rw [zav.j0, if_neg (by decide)]) L0; unfold zav.f
     by_cases hn : 0 < s.length
     ·refine Ev.pos (by rw [sz]; simp; omega) (Ev.pos (by decide) (Ev.pos (by rw [sz]; simp; omega) ?_))
      have e : ((((ByteArray.mk (c :: s : List UInt8).toArray)).extract 0 2).toList == ([61, 61] : List UInt8)) = false := by
       rw [ext_eq, ba_toList]; refine beq_eq_false_iff_ne.2 (fun e => h3 ?_)
       rcases s with _ | ⟨d, s⟩
       ·simp at hn
       ·simp at e
        exact ⟨e.1, by simp [e.2]⟩
      rw [e]; exact J0
     ·refine Ev.neg (by rw [sz]; simp; omega) J0
    ·cases ht
theorem lex_loop (L : List UInt8) (hL : L.length < 20000) : ∀ (f p : Nat) (l : List UInt8) (acc ts : List S92), L.drop p = l → p ≤ L.length → acc.length + l.length ≤ 20000 → lexT f p l = some ts → Ev (fun k => zbt.l0 k ⟨L.toArray⟩ acc (p : Int)) (acc ++ ts, 0, 0)
 | 0, _, _, _, _, _, _, _, h => by simp [lexT] at h
 | f + 1, p, [], acc, ts, hd, hp, _, h => by
  obtain rfl := Option.some.inj (show some [] = some ts by simpa [lexT] using h)
  have : L.length ≤ p := by simpa using hd
  refine Ev.step (f := fun _ => some (acc ++ [], 0, 0)) (fun k => ?_) (Ev.now _); rw [zbt.l0, if_neg yq168, List.append_nil]
 | f + 1, p, c :: s, acc, ts, hd, hp, ha, h => by
  rw [lexT] at h; obtain ⟨t, ht, h⟩ := Option.bind_eq_some_iff.1 h
  split at h
  case isFalse => cases h
  rename_i hfair
  obtain ⟨ts', hts, h⟩ := Option.bind_eq_some_iff.1 h; obtain rfl := Option.some.inj h
  have hll : (c :: s).length ≤ L.length := by rw [← hd]; simp
  have hpl : p + (c :: s).length = L.length := by
   have := congrArg List.length hd; rw [List.length_drop] at this
   have h1 : 0 < (c :: s).length := by simp
   omega
  obtain ⟨hc, h3, hone⟩ := one_ev c s (by omega) p t ht; have hr : ((c :: s).drop (cutT c s).length).takeWhile isB ++ ((c :: s).drop (cutT c s).length).dropWhile isB = (c :: s).drop (cutT c s).length := List.takeWhile_append_dropWhile
  have hcl : 0 < (cutT c s).length := by
   unfold cutT
   split
   ·rename_i h1; simp [List.takeWhile_cons, h1]
   ·split
    ·rename_i h1; simp [List.takeWhile_cons, isW, h1]
    ·split <;> simp
  generalize hws : ((c :: s).drop (cutT c s).length).takeWhile isB = ws at *; generalize hr' : ((c :: s).drop (cutT c s).length).dropWhile isB = r' at *
  have hwb : ∀ b ∈ ws, isB b = true := fun b hb => by rw [← hws] at hb; exact mem_tw hb
  have hlen : (cutT c s).length + ws.length + r'.length = (c :: s).length := by
   have e1 := congrArg List.length hc; have e2 := congrArg List.length hr; simp only [List.length_append] at e1 e2
   omega
  have hd2 : L.drop (p + (cutT c s).length) = ws ++ r' := by
   rw [← List.drop_drop, hd, hr]
  have hd3 : L.drop (p + (cutT c s).length + ws.length) = r' := by
   rw [← List.drop_drop, hd2]; simp
  have ih := lex_loop L hL f (p + (cutT c s).length + ws.length) r' (acc ++ [t]) ts' hd3 (by omega) (by simp; omega) hts
  have hb := blank_ev (ws ++ r') (by rw [← hd2]; simp; omega) ws r' 0 rfl hwb (fun b r h => by
   subst h; simp only [fair, Bool.and_eq_true, Bool.not_eq_true', decide_eq_true_eq] at hfair
   exact ⟨hfair.1.1, hfair.1.2, hfair.2⟩)
  rw [Nat.zero_add] at hb
  have hx : (ByteArray.mk L.toArray).extract p (ByteArray.mk L.toArray).size = ⟨(c :: s).toArray⟩ := by rw [ext_rest, hd]
  have hy : (ByteArray.mk L.toArray).extract (p + (cutT c s).length) (ByteArray.mk L.toArray).size = ⟨(ws ++ r').toArray⟩ := by rw [ext_rest, hd2]
  have w1 : wrap64 ((p : Int) + ((cutT c s).length : Int)) = ((p + (cutT c s).length : Nat) : Int) := by unfold wrap64; omega
  have w2 : wrap64 (((p + (cutT c s).length : Nat) : Int) + ((ws.length : Nat) : Int)) = ((p + (cutT c s).length + ws.length : Nat) : Int) := by unfold wrap64; omega
  refine Ev.step (f := fun k => (zcp.f k ⟨(c :: s).toArray⟩).bind fun bt447 => (if bt447.2.2.2.2.2 = 0 then (if acc.length < 3518437208883 then (if 0 ≤ (wrap64 ((p : Int) + bt447.2.2.2.2.1)) then (if (wrap64 ((p : Int) + bt447.2.2.2.2.1)) ≤ ((ByteArray.mk L.toArray).size : Int) then ((zal.f k ((ByteArray.mk L.toArray).extract ((wrap64 ((p : Int) + bt447.2.2.2.2.1)) : Int).toNat (ByteArray.mk L.toArray).size)).bind fun t457 => (zbt.l0 k ⟨L.toArray⟩ (acc ++ [(⟨bt447.1, bt447.2.1, bt447.2.2.1, (p : Int)⟩ : S92)]) (wrap64 ((wrap64 ((p : Int) + bt447.2.2.2.2.1)) + t457)))) else (none)) else (none)) else (none)) else (none))) (fun k => ?_) ?_; (· rw [zbt.l0, if_pos yq168, if_pos (by omega), if_pos yq168, Int.toNat_natCast, hx])
  ·refine Ev.bind hone ?_
   dsimp only
   rw [w1, Int.toNat_natCast, hy]; refine Ev.pos rfl (Ev.pos (by omega) (Ev.pos (by omega) (Ev.pos yq168 (Ev.bind (a := ((ws.length : Nat) : Int)) hb ?_)))); rw [w2, ← h3]; have et : (⟨t.f0, t.f1, t.f2, t.f3⟩ : S92) = t := rfl; rw [et]; rw [show acc ++ t :: ts' = acc ++ [t] ++ ts' by simp]; exact ih
theorem lex_ok (L : List UInt8) (hL : L.length < 20000) (hf : fair L = true) (f : Nat) (ts : List S92) (h : lexT f 0 L = some ts) : Ev (fun k => zbt.f k ⟨L.toArray⟩) (ts, 0, 0) := by
 have hb := blank_ev L (by omega) [] L 0 rfl (fun b hb => by cases hb) (fun b r h => by
  subst h; simp only [fair, Bool.and_eq_true, Bool.not_eq_true', decide_eq_true_eq] at hf
  exact ⟨hf.1.1, hf.1.2, hf.2⟩)
 have hl := lex_loop L hL f 0 L [] ts rfl (by omega) (by simp; omega) h; unfold zbt.f; exact Ev.neg yq168 (Ev.bind hb hl)
abbrev EXP := S117
abbrev STM := S114
abbrev INP := S50
def nameB (i : Nat) : ByteArray := ⟨((118 : UInt8) :: decB i).toArray⟩
def numE (v : Int) : EXP := ⟨1, 0, v, ⟨#[]⟩, []⟩
def varE (i : Nat) : EXP := ⟨2, 0, 0, nameB i, []⟩
def leafE (c i : Nat) : EXP := ⟨6, 0, 0, ⟨#[]⟩, [⟨4, 5, 0, ⟨#[]⟩, [varE i, numE c]⟩, numE 1, numE 0]⟩
def cntE (c : Nat) : Nat → Nat → Nat → EXP
 | 0, _, _ => numE 0
 | k + 1, fr, tt => if fr = tt then leafE c fr else ⟨4, 1, 0, ⟨#[]⟩, [cntE c k fr ((fr + tt) / 2), cntE c k ((fr + tt) / 2 + 1) tt]⟩
def insE (w n : Nat) : List INP := (List.range n).map fun i => ⟨nameB (i + 1), ((i + 1 : Nat) : Int), (w : Int), 0⟩
def bodyE (n c : Nat) : List STM := (List.range c).map fun j => ⟨5, ⟨#[]⟩, [cntE j 13 1 n], [], []⟩
end Go.Proofs.YtkgdhdjkpnalmaaGreatDoor.P
end
