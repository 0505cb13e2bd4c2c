/- What is proved here: a part of the proof of CircuitParse: Crp. No conditions beside those that each theorem states. -/
import Derived.Test.YtmnleabeipmhmaaDoorKCPse45
import Derived.Test.YtmnleabeipmhmaaDoorKCPse32
import Derived.Test.YtmnleabeipmhmaaDoorKCPse38
section
set_option linter.unusedVariables false
set_option linter.unusedSimpArgs false
namespace Go.Proofs.YtmnleabeipmhmaaDoor.P
open Go.RowKit Go.Proofs.YtmnleabeipmhmaaDoorW.PrintWords Go.Proofs.YtmnleabeipmhmaaDoorW.PrintLast Go.Proofs.YtmnleabeipmhmaaDoorW.PrintMore
def zG : GT := ⟨0, 0, 0, 0, 0⟩
def finP (w : List UInt8) (ns : List Int) : GT × Bool := match ns with
  | [x] => if w = [105, 110] then (⟨1, x, 0, 0, 0⟩, true) else if w = [98, 105, 116] then (⟨1, x, 0, 0, 1⟩, true) else if w = [99, 111, 110, 115, 116] then (⟨2, 0, 0, 0, x⟩, true) else (zG, false)
  | [x, y] => if w = [97, 100, 100] then (⟨3, 0, x, y, 0⟩, true) else if w = [115, 117, 98] then (⟨4, 0, x, y, 0⟩, true) else if w = [115, 99, 97, 108, 101] then (⟨5, 0, y, 0, x⟩, true) else if w = [109, 117, 108] then (⟨6, 0, x, y, 0⟩, true) else (zG, false)
  | _ => (zG, false)
def greatP (ns : List Int) : Prop := ∃ x ∈ ns, x > 4611686018427387904
def tupG (r : GT × Bool) : Int × Int × Int × Int × Int × Bool := (r.1.f0, r.1.f1, r.1.f2, r.1.f3, r.1.f4, r.2)
theorem wrap64_62 (x : Int) (h : 0 ≤ x) (h2 : ¬ x > 4611686018427387904) : wrap64 x = x := by unfold wrap64; omega
theorem read_st (ws : List ByteArray) (ns : List Int) (i k : Nat) (h : i < ns.length) (hl : ns.length ≤ 2) :
    zaf.l0 (k + 1) ws ns (i : Int) = if ns[i] > 4611686018427387904 then some (0, 0, 0, 0, 0, false) else zaf.l0 k ws ns ((i + 1 : Nat) : Int) := by
  simp only [zaf.l0]
  rw [if_pos (by omega), if_pos (by omega), rd_nat _ _ h, zdd h (by omega)]
theorem read_end1 (p : List UInt8) (r : List ByteArray) (x : Int) (k : Nat) (h0 : 0 ≤ x) (hx : ¬ x > 4611686018427387904) :
    zaf.l0 (k + 1) (mkB p :: r) [x] ((1 : Nat) : Int) = some (tupG (finP p [x])) := by
  have e0 : rdOf ByteArray.empty (mkB p :: r) 0 = mkB p := rfl
  have e1 : rd [x] 0 = x := rfl
  simp only [zaf.l0]
  rw [if_neg (by simp), if_pos (by simp), if_pos (by simp only [List.length_cons]; omega), e0, e1, zda, wrap64_62 x h0 hx]
  unfold finP
  by_cases h1 : p = [105, 110]
  · rw [if_pos h1, if_pos (by simp)]; simp only; rw [if_pos h1]; rfl
  rw [if_neg h1]
  by_cases h2 : p = [98, 105, 116]
  · rw [if_pos h2, if_pos (by simp)]; simp only; rw [if_neg h1, if_pos h2]; rfl
  rw [if_neg h2]
  by_cases h3 : p = [99, 111, 110, 115, 116]
  · rw [if_pos h3, if_pos (by simp)]; simp only; rw [if_neg h1, if_neg h2, if_pos h3]; rfl
  rw [if_neg h3]; simp only; rw [if_neg h1, if_neg h2, if_neg h3]; rfl
theorem read_end2 (p : List UInt8) (r : List ByteArray) (x y : Int) (k : Nat) (h0 : 0 ≤ x) (hx : ¬ x > 4611686018427387904) (h0' : 0 ≤ y) (hy : ¬ y > 4611686018427387904) :
    zaf.l0 (k + 1) (mkB p :: r) [x, y] ((2 : Nat) : Int) = some (tupG (finP p [x, y])) := by
  have e0 : rdOf ByteArray.empty (mkB p :: r) 0 = mkB p := rfl
  have e1 : rd [x, y] 0 = x := rfl
  have e2 : rd [x, y] 1 = y := rfl
  simp only [zaf.l0]
  rw [if_neg (by simp), if_neg (by simp), if_pos (by simp only [List.length_cons]; omega), e0, e1, e2, zda, wrap64_62 x h0 hx, wrap64_62 y h0' hy]
  unfold finP
  by_cases h1 : p = [97, 100, 100]
  · rw [if_pos h1, if_pos (by simp), if_pos (by simp)]; simp only; rw [if_pos h1]; rfl
  rw [if_neg h1]
  by_cases h2 : p = [115, 117, 98]
  · rw [if_pos h2, if_pos (by simp), if_pos (by simp)]; simp only; rw [if_neg h1, if_pos h2]; rfl
  rw [if_neg h2]
  by_cases h3 : p = [115, 99, 97, 108, 101]
  · rw [if_pos h3, if_pos (by simp), if_pos (by simp)]; simp only; rw [if_neg h1, if_neg h2, if_pos h3]; rfl
  rw [if_neg h3]
  by_cases h4 : p = [109, 117, 108]
  · rw [if_pos h4, if_pos (by simp), if_pos (by simp)]; simp only; rw [if_neg h1, if_neg h2, if_neg h3, if_pos h4]; rfl
  rw [if_neg h4]; simp only; rw [if_neg h1, if_neg h2, if_neg h3, if_neg h4]; rfl
open Classical in
noncomputable def zc9 (w : List UInt8) (ns : List Int) : GT × Bool := if greatP ns then (zG, false) else finP w ns
noncomputable def readL (l : List UInt8) : GT × Bool := if (zct l).2.2 = true then zc9 (zct l).1 (zct l).2.1 else (zG, false)
theorem refRead (l : List UInt8) (hl : l.length ≤ 1000000) : Ev (fun k => zaf.f k ⟨l.toArray⟩) (tupG (readL l)) := by
  obtain ⟨p, r, hs, hw, hm⟩ := refSplit l hl
  have hsp : zct l = (match zcb r with | some ns => (p, ns, true) | none => ([], [], false)) := by unfold zct; rw [hs]; rfl
  have jt : ∀ ns : List Int, Ev (fun k => zaf.j0 k (mkB p :: r.map mkB) ns true) (tupG (zG, false)) := fun ns => Ev.step (f := fun _ => some (0, 0, 0, 0, 0, false)) (fun k => by simp only [zaf.j0]; rw [if_pos trivial]) (Ev.now _)
  have start : ∀ (ns : List Int) (ok : Bool) (R : Int × Int × Int × Int × Int × Bool), Ev (fun k => zal.f k (r.map mkB)) (ns, ok) → Ev (fun k => if ok = true then (if (ns.length : Int) < 1 then zaf.j0 k (mkB p :: r.map mkB) ns true else zaf.j0 k (mkB p :: r.map mkB) ns (decide ((ns.length : Int) > 2))) else zaf.j0 k (mkB p :: r.map mkB) ns true) R →
      Ev (fun k => zaf.f k ⟨l.toArray⟩) R := by
    intro ns ok R hm h
    unfold zaf.f
    refine Ev.bind hw ?_
    refine Ev.congr (fun k => if_pos (by simp only [List.length_cons]; omega)) ?_
    simp only [List.drop_succ_cons, List.drop_zero]
    exact Ev.bind hm h
  cases hpn : zcb r with
  | none =>
    rw [hpn] at hsp hm
    have : readL l = (zG, false) := by unfold readL; rw [hsp, if_neg (by simp)]
    rw [this]
    exact start [] false _ hm (Ev.congr (fun k => if_neg (by decide)) (jt _))
  | some ns =>
    rw [hpn] at hsp hm
    have hu := (parseNums_inv r ns hpn).2
    have hR : readL l = zc9 p ns := by unfold readL; rw [hsp, if_pos rfl]
    rw [hR]
    refine start ns true _ (by simpa [numsR] using hm) (Ev.congr (fun k => if_pos rfl) ?_)
    have zz : ∀ b : Bool, b = true → finP p ns = (zG, false) → Ev (fun k => zaf.j0 k (mkB p :: r.map mkB) ns b) (tupG (zc9 p ns)) := by
      rintro b rfl hf
      have : zc9 p ns = (zG, false) := by unfold zc9; rw [hf]; split <;> rfl
      rw [this]; exact jt ns
    have j0 : ∀ R, Ev (fun k => zaf.l0 k (mkB p :: r.map mkB) ns ((0 : Nat) : Int)) R → ns.length ≤ 2 → Ev (fun k => zaf.j0 k (mkB p :: r.map mkB) ns (decide ((ns.length : Int) > 2))) R := by
      intro R h hle
      refine Ev.step (fun k => ?_) h
      simp only [zaf.j0]
      rw [if_neg (by simp; omega)]
      rfl
    match ns, hu, zz, j0 with
    | [], _, zz, _ => exact Ev.congr (fun k => if_pos (by simp)) (zz true rfl rfl)
    | [x], hu, zz, j0 =>
      have hx := hu x (by simp)
      refine Ev.congr (fun k => if_neg (by simp)) (j0 _ ?_ (by simp))
      refine Ev.step (fun k => read_st _ _ 0 k (by simp) (by simp)) ?_
      by_cases hg : x > 4611686018427387904
      · have : zc9 p [x] = (zG, false) := by unfold zc9; rw [if_pos ⟨x, by simp, hg⟩]
        rw [this]
        exact Ev.congr (fun k => if_pos hg) (Ev.now _)
      · have : zc9 p [x] = finP p [x] := by unfold zc9; rw [if_neg (by rintro ⟨y, hy, h⟩; simp at hy; subst hy; exact hg h)]
        rw [this]
        refine Ev.congr (fun k => if_neg hg) ?_
        exact Ev.step (f := fun _ => some (tupG (finP p [x]))) (fun k => read_end1 p _ x k hx.1 hg) (Ev.now _)
    | [x, y], hu, zz, j0 =>
      have hx := hu x (by simp)
      have hy := hu y (by simp)
      refine Ev.congr (fun k => if_neg (by simp)) (j0 _ ?_ (by simp))
      refine Ev.step (fun k => read_st _ _ 0 k (by simp) (by simp)) ?_
      by_cases hg : x > 4611686018427387904
      · have : zc9 p [x, y] = (zG, false) := by unfold zc9; rw [if_pos ⟨x, by simp, hg⟩]
        rw [this]
        exact Ev.congr (fun k => if_pos hg) (Ev.now _)
      · refine Ev.congr (fun k => if_neg hg) ?_
        refine Ev.step (fun k => read_st _ _ 1 k (by simp) (by simp)) ?_
        by_cases hg2 : y > 4611686018427387904
        · have : zc9 p [x, y] = (zG, false) := by unfold zc9; rw [if_pos ⟨y, by simp, hg2⟩]
          rw [this]
          exact Ev.congr (fun k => if_pos hg2) (Ev.now _)
        · have : zc9 p [x, y] = finP p [x, y] := by unfold zc9; rw [if_neg (by rintro ⟨z, hz, h⟩; simp at hz; rcases hz with rfl | rfl; exact hg h; exact hg2 h)]
          rw [this]
          refine Ev.congr (fun k => if_neg hg2) ?_
          exact Ev.step (f := fun _ => some (tupG (finP p [x, y]))) (fun k => read_end2 p _ x y k hx.1 hg hy.1 hg2) (Ev.now _)
    | x :: y :: z :: q, _, zz, _ => exact Ev.congr (fun k => if_neg (by simp only [List.length_cons]; omega)) (zz _ (by simp; omega) rfl)
theorem read_gk (P at_ : Int) (g : GT) (h : GK P at_ g) (hP : P < 2305843009213693952) (ha : at_ ≤ 20000) : zc9 (zcv g) (zcx g) = (g, true) := by
  have ng1 : ∀ x : Int, x ≤ 4611686018427387904 → ¬ greatP [x] := by rintro x hx ⟨y, hy, h⟩; simp at hy; omega
  have ng2 : ∀ x y : Int, x ≤ 4611686018427387904 → y ≤ 4611686018427387904 → ¬ greatP [x, y] := by rintro x y hx hy ⟨z, hz, h⟩; simp at hz; omega
  rcases h with ⟨x, h1, h2, rfl⟩ | ⟨x, h1, h2, rfl⟩ | ⟨K, h1, h2, rfl⟩ | ⟨a, b, h1, h2, rfl⟩ | ⟨a, b, h1, h2, rfl⟩ | ⟨K, a, h1, h2, rfl⟩ | ⟨a, b, h1, h2, rfl⟩
  · rw [show zcv (⟨1, x, 0, 0, 0⟩ : GT) = [105, 110] by simp [zcv, of_in, fIn], show zcx (⟨1, x, 0, 0, 0⟩ : GT) = [x] by simp [zcx, of_in, zcl, fIn, zbw x (by omega) (by omega)]]
    unfold zc9; rw [if_neg (ng1 _ (by omega))]; rfl
  · rw [show zcv (⟨1, x, 0, 0, 1⟩ : GT) = [98, 105, 116] by simp [zcv, of_bit, fBit], show zcx (⟨1, x, 0, 0, 1⟩ : GT) = [x] by simp [zcx, of_bit, zcl, fBit, zbw x (by omega) (by omega)]]
    unfold zc9; rw [if_neg (ng1 _ (by omega))]; rfl
  · rw [show zcv (⟨2, 0, 0, 0, K⟩ : GT) = [99, 111, 110, 115, 116] by simp [zcv, of_const, zc3], show zcx (⟨2, 0, 0, 0, K⟩ : GT) = [K] by simp [zcx, of_const, zcl, zc3]]
    unfold zc9; rw [if_neg (ng1 _ (by omega))]; rfl
  · rw [show zcv (⟨3, 0, a, b, 0⟩ : GT) = [97, 100, 100] by simp [zcv, of_add, fAdd], show zcx (⟨3, 0, a, b, 0⟩ : GT) = [a, b] by simp [zcx, of_add, zcl, fAdd, zbw a (by omega) (by omega), zbw b (by omega) (by omega)]]
    unfold zc9; rw [if_neg (ng2 _ _ (by omega) (by omega))]; rfl
  · rw [show zcv (⟨4, 0, a, b, 0⟩ : GT) = [115, 117, 98] by simp [zcv, of_sub, fSub], show zcx (⟨4, 0, a, b, 0⟩ : GT) = [a, b] by simp [zcx, of_sub, zcl, fSub, zbw a (by omega) (by omega), zbw b (by omega) (by omega)]]
    unfold zc9; rw [if_neg (ng2 _ _ (by omega) (by omega))]; rfl
  · rw [show zcv (⟨5, 0, a, 0, K⟩ : GT) = [115, 99, 97, 108, 101] by simp [zcv, of_scale, zdf], show zcx (⟨5, 0, a, 0, K⟩ : GT) = [K, a] by simp [zcx, of_scale, zcl, zdf, zbw a (by omega) (by omega)]]
    unfold zc9; rw [if_neg (ng2 _ _ (by omega) (by omega))]; rfl
  · rw [show zcv (⟨6, 0, a, b, 0⟩ : GT) = [109, 117, 108] by simp [zcv, of_mul, fMul], show zcx (⟨6, 0, a, b, 0⟩ : GT) = [a, b] by simp [zcx, of_mul, zcl, fMul, zbw a (by omega) (by omega), zbw b (by omega) (by omega)]]
    unfold zc9; rw [if_neg (ng2 _ _ (by omega) (by omega))]; rfl
theorem read_inv (w : List UInt8) (ns : List Int) (g : GT) (hu : U64 ns) (h : zc9 w ns = (g, true)) : w = zcv g ∧ ns = zcx g ∧ 0 ≤ g.f4 := by
  unfold zc9 at h
  split at h
  · simp at h
  rename_i hng
  clear hng
  unfold finP at h
  split at h
  · next x =>
    have hx := hu x (by simp)
    split at h
    · next hw => cases h; exact ⟨by simp [zcv, of_in, fIn, hw], by simp [zcx, of_in, zcl, fIn, zbw x hx.1 hx.2], by simp⟩
    split at h
    · next hw => cases h; exact ⟨by simp [zcv, of_bit, fBit, hw], by simp [zcx, of_bit, zcl, fBit, zbw x hx.1 hx.2], by simp⟩
    split at h
    · next hw => cases h; exact ⟨by simp [zcv, of_const, zc3, hw], by simp [zcx, of_const, zcl, zc3], hx.1⟩
    simp at h
  · next x y =>
    have hx := hu x (by simp)
    have hy := hu y (by simp)
    split at h
    · next hw => cases h; exact ⟨by simp [zcv, of_add, fAdd, hw], by simp [zcx, of_add, zcl, fAdd, zbw x hx.1 hx.2, zbw y hy.1 hy.2], by simp⟩
    split at h
    · next hw => cases h; exact ⟨by simp [zcv, of_sub, fSub, hw], by simp [zcx, of_sub, zcl, fSub, zbw x hx.1 hx.2, zbw y hy.1 hy.2], by simp⟩
    split at h
    · next hw => cases h; exact ⟨by simp [zcv, of_scale, zdf, hw], by simp [zcx, of_scale, zcl, zdf, zbw x hx.1 hx.2, zbw y hy.1 hy.2], hx.1⟩
    split at h
    · next hw => cases h; exact ⟨by simp [zcv, of_mul, fMul, hw], by simp [zcx, of_mul, zcl, fMul, zbw x hx.1 hx.2, zbw y hy.1 hy.2], by simp⟩
    simp at h
  · simp at h
theorem read_out (ns : List Int) : (zc9 [111, 117, 116] ns).2 = false := by
  unfold zc9
  split
  · rfl
  · match ns with
    | [] => rfl
    | [x] => rfl
    | [x, y] => rfl
    | x :: y :: z :: q => rfl
theorem made_read (P at_ : Int) (w : List UInt8) (ns : List Int) (hu : U64 ns) (hP : P < 2305843009213693952) (ha : at_ ≤ 20000) (g : GT) : madeP P w ns at_ = (g, true) ↔ (zc9 w ns = (g, true) ∧ zcw P at_ g.f0 g.f1 g.f2 g.f3 g.f4 = true) := by
  constructor
  · intro h
    obtain ⟨h1, h2, h3⟩ := made_inv P at_ w ns g h hu
    exact ⟨by rw [h2, h3]; exact read_gk P at_ g h1 hP ha, gk_right P at_ g h1⟩
  · rintro ⟨h, hr⟩
    obtain ⟨h1, h2, h3⟩ := read_inv w ns g hu h
    have hk := right_gk P at_ g h3 hr
    rw [h1, h2]
    exact (made_gk P at_ g hk (by omega) ha).1
theorem line_ref (s : St) (a : List UInt8) (hb : s.begun = true) (hi : s.is = false) (ho : s.os = []) (hP : s.P < 2305843009213693952) (hn : s.gs.length ≤ 20000) :
    lineP s a = match outsP a s.gs.length with
      | some os => some { s with os := os, is := true }
      | none => if (readL a).2 = true ∧ zcw s.P s.gs.length (readL a).1.f0 (readL a).1.f1 (readL a).1.f2 (readL a).1.f3 (readL a).1.f4 = true ∧ s.gs.length < 20000 then some { s with gs := s.gs ++ [(readL a).1] } else none := by
  cases hsp : zct a with
  | mk w p =>
  obtain ⟨ns, ok⟩ := p
  cases ok with
  | false =>
    have h1 : outsP a s.gs.length = none := by unfold outsP; rw [hsp, if_neg (by simp)]
    have h2 : readL a = (zG, false) := by unfold readL; rw [hsp, if_neg (by simp)]
    rw [h1, h2]
    unfold lineP
    rw [hsp, if_neg (by simp)]
    simp
  | true =>
    have hu : U64 ns := (split_inv a w ns hsp).2
    have h2 : readL a = zc9 w ns := by unfold readL; rw [hsp, if_pos rfl]
    unfold lineP
    rw [hsp, if_pos ⟨rfl, hi⟩, if_pos hb]
    simp only
    by_cases hw : w = [111, 117, 116]
    · rw [if_pos hw]
      by_cases hc : ns.length ≤ 1000
      · have h1 : outsP a s.gs.length = outsF s.gs.length ns [] := by unfold outsP; rw [hsp, if_pos ⟨rfl, hw, hc⟩]
        rw [if_pos hc, h1, ho]
        cases outsF s.gs.length ns [] with
        | some os => rfl
        | none =>
          simp only [Option.map_none]
          rw [if_neg (by rw [h2, hw, read_out]; simp)]
      · have h1 : outsP a s.gs.length = none := by unfold outsP; rw [hsp, if_neg (by rintro ⟨_, _, h⟩; exact hc h)]
        rw [if_neg hc, h1]
        simp only
        rw [if_neg (by rw [h2, hw, read_out]; simp)]
    · have h1 : outsP a s.gs.length = none := by unfold outsP; rw [hsp, if_neg (by rintro ⟨_, h, _⟩; exact hw h)]
      rw [if_neg hw, h1, h2]
      simp only
      have key := fun g => made_read s.P s.gs.length w ns hu hP (by omega) g
      by_cases hm : (madeP s.P w ns s.gs.length).2 = true
      · have h3 := (key (madeP s.P w ns s.gs.length).1).1 (by rw [← hm])
        rw [h3.1]
        simp only [h3.2, hm, true_and]
      · have h4 : ¬ ((zc9 w ns).2 = true ∧ zcw s.P s.gs.length (zc9 w ns).1.f0 (zc9 w ns).1.f1 (zc9 w ns).1.f2 (zc9 w ns).1.f3 (zc9 w ns).1.f4 = true ∧ s.gs.length < 20000) := by
          rintro ⟨q1, q2, _⟩
          have := (key (zc9 w ns).1).2 ⟨by rw [← q1], q2⟩
          rw [this] at hm
          exact hm rfl
        rw [if_neg (fun h => hm h.1), if_neg h4]
def endP (l : List UInt8) (i : Nat) (o : Except Nat St) : Int × List GT × List Int × Int × Int := match o with
  | .error k => (0, [], [], (k : Int), 3)
  | .ok s => if (zci l).2 = [] ∧ s.is = true then (s.P, s.gs, s.os, 0, 0) else (0, [], [], ((i + (zci l).1.length + 1 : Nat) : Int), 3)
theorem parse_end (l : List UInt8) : zdl l = endP l 0 (runB (zci l).1 0 St0) := by
  unfold zdl endP
  cases runB (zci l).1 0 St0 with
  | error k => rfl
  | ok s => simp only [Nat.zero_add]
theorem endP_cons (a r : List UInt8) (i : Nat) (h : (10 : UInt8) ∉ a) (o : Except Nat St) : endP (a ++ 10 :: r) i o = endP r (i + 1) o := by
  unfold endP
  rw [bodies_app r a h]
  cases o with
  | error k => rfl
  | ok s =>
    simp only [List.length_cons]
    rw [show i + ((zci r).1.length + 1) + 1 = i + 1 + (zci r).1.length + 1 by omega]
theorem bodies_no (l : List UInt8) (h : (10 : UInt8) ∉ l) : zci l = ([], l) := by
  induction l with
  | nil => rfl
  | cons b r ih =>
    simp only [List.mem_cons, not_or] at h
    unfold zci
    rw [if_neg (fun e => h.1 e.symm), ih h.2]
theorem bodies_nil (r : List UInt8) (h : (zci r).1 = []) (h2 : (zci r).2 = []) : r = [] := by
  have := text_bodies r
  rw [h, h2] at this
  simpa [textB] using this
theorem refP_go (n : Nat) : ∀ (l : List UInt8) (i : Nat) (s : St), l.length = n → l.length ≤ 1000000 → i + l.length ≤ 2000000 → s.is = false → s.os = [] → s.gs.length ≤ 20000 → (s.begun = false ↔ i = 0) → (s.begun = true → s.P < 2305843009213693952) →
    Ev (fun k => zax.l0 k ⟨l.toArray⟩ ((i + 1 : Nat) : Int) s.P s.gs) (endP l i (runB (zci l).1 i s)) := by
  induction n using Nat.strongRecOn with
  | _ n ih =>
    intro l i s hn hl hil his hos hgs hbi hP
    rcases cut_or 10 l with h | ⟨a, r, rfl, h⟩
    · rw [bodies_no l h]
      have e : endP l i (runB [] i s) = (0, [], [], ((i + 1 : Nat) : Int), 3) := by
        simp only [runB, endP]
        rw [if_neg (by rw [his]; simp), bodies_no l h]
        rfl
      rw [e]
      refine Ev.step (fun k => by simp only [zax.l0]; rfl) (Ev.bind (refCut_no 10 l h hl) ?_)
      exact Ev.congr (fun k => if_neg (by simp)) (Ev.now _)
    · rw [endP_cons a r i h, bodies_app r a h]
      simp only [runB]
      simp only [List.length_append, List.length_cons] at hn hl hil
      refine Ev.step (fun k => by simp only [zax.l0]; rfl) (Ev.bind (refCut_yes 10 a r h (by simp; omega)) ?_)
      refine Ev.congr (fun k => if_pos rfl) ?_
      by_cases h0 : i = 0
      · have hb := hbi.2 h0
        refine Ev.congr (fun k => if_pos (by omega)) ?_
        obtain ⟨p, q, hs, hw, hm⟩ := refSplit a (by omega)
        have hsp : zct a = (match zcb q with | some ns => (p, ns, true) | none => ([], [], false)) := by unfold zct; rw [hs]; rfl
        refine Ev.bind hw ?_
        refine Ev.congr (fun k => if_pos (by simp only [List.length_cons]; omega)) ?_
        simp only [List.drop_succ_cons, List.drop_zero]
        have e0 : rdOf ByteArray.empty (mkB p :: q.map mkB) 0 = mkB p := rfl
        cases hpn : zcb q with
        | none =>
          rw [hpn] at hsp hm
          have hL : lineP s a = none := by unfold lineP; rw [hsp, if_neg (by simp)]
          rw [hL]; change Ev _ ((0 : Int), ([] : List GT), ([] : List Int), ((i + 1 : Nat) : Int), (3 : Int))
          refine Ev.bind hm ?_
          refine Ev.congr (fun k => if_pos (by simp only [List.length_cons]; omega)) ?_
          rw [e0, zda]
          by_cases hp : p = [112, 114, 105, 109, 101]
          · exact Ev.congr (fun k => if_pos hp) (Ev.congr (fun k => if_neg (by simp [numsR])) (Ev.now _))
          · exact Ev.congr (fun k => if_neg hp) (Ev.now _)
        | some ns =>
          rw [hpn] at hsp hm
          have hm2 : Ev (fun k => zal.f k (q.map mkB)) (ns, true) := by simpa [numsR] using hm
          refine Ev.bind hm2 ?_
          refine Ev.congr (fun k => if_pos (by simp only [List.length_cons]; omega)) ?_
          rw [e0, zda]
          by_cases hp : p = [112, 114, 105, 109, 101]
          · refine Ev.congr (fun k => if_pos hp) (Ev.congr (fun k => if_pos rfl) ?_)
            by_cases h1 : ns.length = 1
            · obtain ⟨x, rfl⟩ := List.length_eq_one_iff.1 h1
              refine Ev.congr (fun k => if_pos (by simp)) (Ev.congr (fun k => if_pos (by simp)) ?_)
              have ex : rd [x] 0 = x := rfl
              have hL : lineP s a = if (expF x != 0) = true then some { s with P := x, begun := true } else none := by
                unfold lineP; rw [hsp, if_pos ⟨rfl, his⟩, if_neg (by rw [hb]; decide)]
                simp only
                rw [if_pos hp]
              simp only [ex]
              refine Ev.bind (refSupported x) ?_
              cases hE : (expF x != 0) with
              | true =>
                rw [hE, if_pos rfl] at hL
                rw [hL]
                simp only
                have hxr := exp_range x (by simpa using hE)
                have h2 := ih r.length (by omega) r (i + 1) { s with P := x, begun := true } rfl (by omega) (by omega) his hos hgs ⟨fun h => (by cases h), fun h => (by omega)⟩ (fun _ => by simp only; omega)
                refine Ev.congr (fun k => ?_) h2
                rw [if_pos (by first | trivial | rfl), zdd (i := i + 1) (n := 3000000) (by omega) (by omega)]
              | false =>
                rw [hE, if_neg (by decide)] at hL
                rw [hL]; change Ev _ ((0 : Int), ([] : List GT), ([] : List Int), ((i + 1 : Nat) : Int), (3 : Int))
                exact Ev.congr (fun k => if_neg (by decide)) (Ev.now _)
            · have hL : lineP s a = none := by
                unfold lineP; rw [hsp, if_pos ⟨rfl, his⟩, if_neg (by rw [hb]; decide)]
                simp only
                rw [if_pos hp]
                split
                · simp at h1
                · rfl
              rw [hL]; change Ev _ ((0 : Int), ([] : List GT), ([] : List Int), ((i + 1 : Nat) : Int), (3 : Int))
              have h1' : ¬ ((ns.length : Int) = 1) := by omega
              exact Ev.congr (fun k => if_neg h1') (Ev.now _)
          · have hL : lineP s a = none := by
              unfold lineP; rw [hsp, if_pos ⟨rfl, his⟩, if_neg (by rw [hb]; decide)]
              simp only
              rw [if_neg hp]
            rw [hL]; change Ev _ ((0 : Int), ([] : List GT), ([] : List Int), ((i + 1 : Nat) : Int), (3 : Int))
            exact Ev.congr (fun k => if_neg hp) (Ev.now _)
      · have hb : s.begun = true := by
          cases hx : s.begun with
          | true => rfl
          | false => exact absurd (hbi.1 hx) h0
        refine Ev.congr (fun k => if_neg (by omega)) ?_
        rw [line_ref s a hb his hos (hP hb) hgs]
        refine Ev.bind (refOuts a s.gs.length (by omega) hgs) ?_
        cases hq : outsP a s.gs.length with
        | some os =>
          refine Ev.congr (fun k => if_pos rfl) ?_
          simp only [outsR]
          by_cases hr : r = []
          · subst hr
            refine Ev.congr (f := fun _ => some (s.P, s.gs, os, 0, 0)) (fun k => ?_) (Ev.now _)
            rw [if_pos (ba_toList [])]
          · refine Ev.congr (f := fun _ => some (0, [], [], ((i + 2 : Nat) : Int), 3)) (fun k => ?_) ?_
            · rw [if_neg (by rw [ba_toList]; exact hr), zdd (i := i + 1) (n := 3000000) (by omega) (by omega)]
            · cases hc : (zci r).1 with
              | nil =>
                have h2 : (zci r).2 ≠ [] := fun e => hr (bodies_nil r hc e)
                simp only [runB, endP]
                rw [if_neg (fun e => h2 e.1), hc]
                exact Ev.now _
              | cons x y =>
                rw [run_is _ _ _ rfl (by simp)]
                exact Ev.now _
        | none =>
          refine Ev.congr (fun k => if_neg (by simp [outsR])) ?_
          refine Ev.bind (refRead a (by omega)) ?_
          have hge : (readL a).2 = true → 0 ≤ (readL a).1.f4 := by
            intro h2
            cases hsp : zct a with
            | mk w p =>
            obtain ⟨ns, ok⟩ := p
            cases ok with
            | false => unfold readL at h2; rw [hsp, if_neg (by simp)] at h2; simp at h2
            | true =>
              have hu : U64 ns := (split_inv a w ns hsp).2
              have hL : readL a = zc9 w ns := by unfold readL; rw [hsp, if_pos rfl]
              rw [hL] at h2 ⊢
              exact (read_inv w ns (zc9 w ns).1 hu (by rw [← h2])).2.2
          generalize readL a = R at *
          obtain ⟨g, ok⟩ := R
          simp only at hge ⊢
          cases ok with
          | false =>
            rw [if_neg (by simp)]
            exact Ev.congr (fun k => if_neg (by simp [tupG])) (Ev.now _)
          | true =>
            refine Ev.congr (fun k => if_pos rfl) ?_
            simp only [tupG]
            rw [refGate s.P s.gs.length g (hge rfl)]
            simp only [Option.bind_some]
            cases hr : zcw s.P s.gs.length g.f0 g.f1 g.f2 g.f3 g.f4 with
            | false =>
              rw [if_neg (by simp)]
              exact Ev.congr (fun k => if_neg (by decide)) (Ev.now _)
            | true =>
              refine Ev.congr (fun k => if_pos rfl) ?_
              by_cases h2 : s.gs.length < 20000
              · rw [if_pos ⟨by first | trivial | rfl, by first | trivial | rfl, h2⟩]
                simp only
                have h3 := ih r.length (by omega) r (i + 1) { s with gs := s.gs ++ [g] } rfl (by omega) (by omega) his hos (by simp; omega) ⟨fun h => (by rw [hb] at h; cases h), fun h => (by omega)⟩ (fun _ => hP hb)
                refine Ev.congr (fun k => ?_) h3
                rw [if_neg (by omega), if_pos (by omega), zdd (i := i + 1) (n := 3000000) (by omega) (by omega)]
              · rw [if_neg (by rintro ⟨_, _, h⟩; exact h2 h)]
                exact Ev.congr (fun k => if_pos (by omega)) (Ev.now _)
theorem refParseC (l : List UInt8) (hl : l.length ≤ 1000000) : Ev (fun k => zax.f k ⟨l.toArray⟩) (zdl l) := by
  rw [parse_end]
  exact refP_go _ l 0 St0 rfl hl (by omega) rfl rfl (by simp [St0]) (by simp [St0]) (by simp [St0])
end Go.Proofs.YtmnleabeipmhmaaDoor.P
end
