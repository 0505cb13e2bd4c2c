/- What is proved here: a part of the proof of CircuitFormat: Crf, CcCircuitFormat. No conditions beside those that each theorem states. -/
import Derived.Test.YtmnleabeipmhmaaDoorKCFat46
import Derived.Test.YtmnleabeipmhmaaDoorKCFat35
import Derived.Test.YtmnleabeipmhmaaDoorKCFat36
import Derived.Test.YtmnleabeipmhmaaDoorKCFat37
import Derived.Test.YtmnleabeipmhmaaDoorKCFat44
import Derived.Test.YtmnleabeipmhmaaDoorKCFat45
section
set_option linter.unusedVariables false
set_option linter.unusedSimpArgs false
namespace Go.Proofs.YtmnleabeipmhmaaDoor.P
open Go.RowKit Go.Proofs.YtmnleabeipmhmaaDoorW.PrintWords Go.Proofs.YtmnleabeipmhmaaDoorW.PrintLast Go.Proofs.YtmnleabeipmhmaaDoorW.PrintMore
def IU (x : Int) : Prop := 0 ≤ x ∧ x < 18446744073709551616
theorem refNumber (x : Int) (h : IU x) : Ev (fun k => zak.f k x) ⟨(numT x).toArray⟩ := by
  unfold zak.f
  have h0 := refFormat x.toNat (by have := h.1; have := h.2; omega)
  rw [Int.toNat_of_nonneg h.1] at h0
  refine Ev.bind h0 ?_
  have hd := dd_length x.toNat (by have := h.1; have := h.2; omega)
  refine Ev.congr (fun k => by rw [if_pos (by rw [sz]; omega)]) ?_
  have e : (⟨#[32]⟩ : ByteArray) ++ ⟨(Lib.decDigits x.toNat).toArray⟩ = ⟨(numT x).toArray⟩ := app_eq [32] _
  rw [e]
  exact Ev.now _
theorem app3 (a b c : List UInt8) : (((⟨a.toArray⟩ : ByteArray) ++ (⟨b.toArray⟩ : ByteArray)) ++ (⟨c.toArray⟩ : ByteArray)) = ⟨(a ++ b ++ c).toArray⟩ := by rw [app_eq, app_eq]
theorem app4 (a b c d : List UInt8) : ((((⟨a.toArray⟩ : ByteArray) ++ (⟨b.toArray⟩ : ByteArray)) ++ (⟨c.toArray⟩ : ByteArray)) ++ (⟨d.toArray⟩ : ByteArray)) = ⟨(a ++ b ++ c ++ d).toArray⟩ := by rw [app_eq, app_eq, app_eq]
theorem one_num (a b : List UInt8) (T : List UInt8) (ha : a.length ≤ 100) (hb : b.length ≤ 100) (hT : T = a ++ b ++ [10]) (n : Nat) (hn : n = a.length) :
    (if n + (⟨b.toArray⟩ : ByteArray).size ≤ 9223372036854775807 then (if ((⟨a.toArray⟩ : ByteArray) ++ (⟨b.toArray⟩ : ByteArray)).size + 1 ≤ 9223372036854775807 then (some (((⟨a.toArray⟩ : ByteArray) ++ ⟨b.toArray⟩) ++ (⟨#[10]⟩ : ByteArray))) else none) else none) = some ⟨T.toArray⟩ := by
  rw [if_pos (by rw [sz]; omega), if_pos (by rw [app_eq, sz, List.length_append]; omega), hT]
  exact congrArg some (app3 a b [10])
theorem two_num (a b c : List UInt8) (T : List UInt8) (ha : a.length ≤ 100) (hb : b.length ≤ 100) (hc : c.length ≤ 100) (hT : T = a ++ b ++ c ++ [10]) (n : Nat) (hn : n = a.length) :
    (if n + (⟨b.toArray⟩ : ByteArray).size ≤ 9223372036854775807 then (if ((⟨a.toArray⟩ : ByteArray) ++ (⟨b.toArray⟩ : ByteArray)).size + (⟨c.toArray⟩ : ByteArray).size ≤ 9223372036854775807 then
      (if (((⟨a.toArray⟩ : ByteArray) ++ (⟨b.toArray⟩ : ByteArray)) ++ (⟨c.toArray⟩ : ByteArray)).size + 1 ≤ 9223372036854775807 then (some ((((⟨a.toArray⟩ : ByteArray) ++ ⟨b.toArray⟩) ++ ⟨c.toArray⟩) ++ (⟨#[10]⟩ : ByteArray))) else none) else none) else none) = some ⟨T.toArray⟩ := by
  rw [if_pos (by rw [sz]; omega), if_pos (by rw [app_eq, sz, sz, List.length_append]; omega), if_pos (by rw [app_eq, app_eq, sz, List.length_append, List.length_append]; omega), hT]
  exact congrArg some (app4 a b c [10])
theorem num_le (x : Int) (h : IU x) : (numT x).length ≤ 100 := by have := numT_le x h; omega
theorem iu_wrap (x : Int) : IU (IntKind.u64.wrap x) := wrap_u64 x
theorem refLine (P : Int) (i : Int) (g : GT) (h : GK P i g) (hP : P < 18446744073709551616) (hi : i ≤ 20000) : Ev (fun k => za8.f k g.f0 g.f1 g.f2 g.f3 g.f4) ⟨(gateT g).toArray⟩ := by
  have h4 : IU g.f4 := by
    rcases h with ⟨x, h1, h2, e⟩ | ⟨x, h1, h2, e⟩ | ⟨K, h1, h2, e⟩ | ⟨a, b, h1, h2, e⟩ | ⟨a, b, h1, h2, e⟩ | ⟨K, a, h1, h2, e⟩ | ⟨a, b, h1, h2, e⟩ <;> rw [e] <;> simp only [IU] <;> omega
  unfold za8.f
  refine Ev.bind (refNumber _ (iu_wrap g.f2)) ?_
  refine Ev.bind (refNumber _ (iu_wrap g.f3)) ?_
  refine Ev.bind (refNumber _ h4) ?_
  have n2 := num_le _ (iu_wrap g.f2)
  have n3 := num_le _ (iu_wrap g.f3)
  have n4 := num_le _ h4
  have n1 := num_le _ (iu_wrap g.f1)
  have b1 := refNumber _ (iu_wrap g.f1)
  rw [gateT_eq]
  rcases h with ⟨x, h1, h2, rfl⟩ | ⟨x, h1, h2, rfl⟩ | ⟨K, h1, h2, rfl⟩ | ⟨a, b, h1, h2, rfl⟩ | ⟨a, b, h1, h2, rfl⟩ | ⟨K, a, h1, h2, rfl⟩ | ⟨a, b, h1, h2, rfl⟩
  · simp only at n1 b1 ⊢
    simp only [reduceIte, Int.reduceEq]
    refine Ev.bind b1 (Ev.congr (f := fun _ => some _) (fun k => one_num [105, 110] _ _ (by decide) n1 ?_ 2 rfl) (Ev.now _))
    simp [zcg, zc1, zc7, of_in, zck, fIn]
  · simp only at n1 b1 ⊢
    simp only [reduceIte, Int.reduceEq]
    refine Ev.bind b1 (Ev.congr (f := fun _ => some _) (fun k => one_num [98, 105, 116] _ _ (by decide) n1 ?_ 3 rfl) (Ev.now _))
    simp [zcg, zc1, zc7, of_bit, zck, fBit]
  · simp only at n4 ⊢
    simp only [reduceIte, Int.reduceEq]
    refine Ev.congr (f := fun _ => some _) (fun k => one_num [99, 111, 110, 115, 116] _ _ (by decide) n4 ?_ 5 rfl) (Ev.now _)
    simp [zcg, zc1, zc7, of_const, zck, zc0]
  · simp only at n2 n3 ⊢
    simp only [reduceIte, Int.reduceEq]
    refine Ev.congr (f := fun _ => some _) (fun k => two_num [97, 100, 100] _ _ _ (by decide) n2 n3 ?_ 3 rfl) (Ev.now _)
    simp [zcg, zc1, zc7, of_add, zck, fAdd]
  · simp only at n2 n3 ⊢
    simp only [reduceIte, Int.reduceEq]
    refine Ev.congr (f := fun _ => some _) (fun k => two_num [115, 117, 98] _ _ _ (by decide) n2 n3 ?_ 3 rfl) (Ev.now _)
    simp [zcg, zc1, zc7, of_sub, zck, fSub]
  · simp only at n2 n4 ⊢
    simp only [reduceIte, Int.reduceEq]
    refine Ev.congr (f := fun _ => some _) (fun k => two_num [115, 99, 97, 108, 101] _ _ _ (by decide) n4 n2 ?_ 5 rfl) (Ev.now _)
    simp [zcg, zc1, zc7, of_scale, zck, zc9]
  · simp only at n2 n3 ⊢
    simp only [reduceIte, Int.reduceEq]
    refine Ev.congr (f := fun _ => some _) (fun k => two_num [109, 117, 108] _ _ _ (by decide) n2 n3 ?_ 3 rfl) (Ev.now _)
    simp [zcg, zc1, zc7, of_mul, zck, fMul]
theorem rF_outs (P : Int) (gs : List GT) (os : List Int) (t : List UInt8) (hl : os.length ≤ 1000) (ht : t.length ≤ 10000000) (d : Nat) : ∀ i : Nat, os.length - i = d → i ≤ os.length →
    Ev (fun k => zav.l1 k ⟨(t ++ zcg [111, 117, 116] ((os.take i).map IntKind.u64.wrap)).toArray⟩ (i : Int) P gs os) (⟨(t ++ outsT os).toArray⟩, 0) := by
  induction d with
  | zero =>
    intro i hd hi
    obtain rfl : i = os.length := by omega
    rw [List.take_length]
    have hq := lineT_le [111, 117, 116] (os.map IntKind.u64.wrap) (fun x hx => by simp only [List.mem_map] at hx; obtain ⟨y, _, rfl⟩ := hx; exact wrap_u64 y)
    simp only [List.length_map, List.length_cons, List.length_nil] at hq
    refine Ev.step (f := fun _ => some (⟨(t ++ outsT os).toArray⟩, 0)) (fun k => ?_) (Ev.now _)
    simp only [zav.l1]
    rw [if_neg (by omega), if_pos (by rw [sz, List.length_append]; omega)]
    have e : (⟨(t ++ zcg [111, 117, 116] (os.map IntKind.u64.wrap)).toArray⟩ : ByteArray) ++ (⟨#[10]⟩ : ByteArray) = ⟨(t ++ outsT os).toArray⟩ := by
      rw [show outsT os = zcg [111, 117, 116] (os.map IntKind.u64.wrap) ++ [10] from rfl, ← List.append_assoc]
      exact app_eq _ [10]
    rw [e]
  | succ d ih =>
    intro i hd hi
    have hlt : i < os.length := by omega
    have hq := lineT_le [111, 117, 116] ((os.take i).map IntKind.u64.wrap) (fun x hx => by simp only [List.mem_map] at hx; obtain ⟨y, _, rfl⟩ := hx; exact wrap_u64 y)
    simp only [List.length_map, List.length_cons, List.length_nil, List.length_take] at hq
    have hn := numT_le _ (iu_wrap os[i])
    have h1 := ih (i + 1) (by omega) (by omega)
    rw [List.take_succ_eq_append_getElem hlt, List.map_append, List.map_cons, List.map_nil, lineT_snoc, ← List.append_assoc] at h1
    refine Ev.step (f := fun k => (zak.f k (IntKind.u64.wrap os[i])).bind fun t258 => if (ByteArray.mk (t ++ zcg [111, 117, 116] ((os.take i).map IntKind.u64.wrap)).toArray).size + t258.size ≤ 9223372036854775807 then zav.l1 k ((ByteArray.mk (t ++ zcg [111, 117, 116] ((os.take i).map IntKind.u64.wrap)).toArray) ++ t258) ((i + 1 : Nat) : Int) P gs os else none) (fun k => ?_) ?_
    · simp only [zav.l1]
      rw [if_pos (by omega), if_pos (by omega), rd_nat _ _ hlt, wrap_nat hlt (by omega)]
    · refine Ev.bind (refNumber _ (iu_wrap os[i])) ?_
      refine Ev.congr (fun k => ?_) h1
      rw [if_pos (by rw [sz, sz, List.length_append]; omega), app_eq]
theorem rF_gates (P : Int) (gs : List GT) (os : List Int) (h : GoodC P gs os) (d : Nat) : ∀ i : Nat, gs.length - i = d → i ≤ gs.length →
    Ev (fun k => zav.l0 k ⟨(headT P ++ zcs (gs.take i)).toArray⟩ (i : Int) P gs os) (⟨(formatT P gs os).toArray⟩, 0) := by
  have hP := exp_range P h.p
  have hK : ∀ g ∈ gs, 0 ≤ g.f4 ∧ g.f4 < 18446744073709551616 := by
    intro g hg
    obtain ⟨i, hi, rfl⟩ := List.getElem_of_mem hg
    rcases h.g i hi with ⟨x, h1, h2, e⟩ | ⟨x, h1, h2, e⟩ | ⟨K, h1, h2, e⟩ | ⟨a, b, h1, h2, e⟩ | ⟨a, b, h1, h2, e⟩ | ⟨K, a, h1, h2, e⟩ | ⟨a, b, h1, h2, e⟩ <;> rw [e] <;> simp only <;> omega
  have hh := headT_le P ⟨by omega, by omega⟩
  have hn := h.n
  have hle : ∀ i : Nat, (headT P ++ zcs (gs.take i)).length ≤ 3000000 := by
    intro i
    have := gatesT_le (gs.take i) (fun g hg => hK g (List.mem_of_mem_take hg))
    rw [List.length_take] at this
    rw [List.length_append]; omega
  induction d with
  | zero =>
    intro i hd hi
    obtain rfl : i = gs.length := by omega
    have h1 := rF_outs P gs os (headT P ++ zcs gs) h.m (by have := hle gs.length; rw [List.take_length] at this; omega) _ 0 rfl (Nat.zero_le _)
    have hq := hle gs.length
    rw [List.take_length] at hq ⊢
    refine Ev.step (fun k => ?_) h1
    simp only [zav.l0]
    rw [if_neg (by omega), if_pos (by rw [sz]; omega)]
    have e : (⟨(headT P ++ zcs gs).toArray⟩ : ByteArray) ++ (⟨#[111, 117, 116]⟩ : ByteArray) = ⟨(headT P ++ zcs gs ++ zcg [111, 117, 116] ((os.take 0).map IntKind.u64.wrap)).toArray⟩ := app_eq _ [111, 117, 116]
    rw [e]
    rfl
  | succ d ih =>
    intro i hd hi
    have hlt : i < gs.length := by omega
    have hq := hle i
    have h1 := ih (i + 1) (by omega) (by omega)
    rw [List.take_succ_eq_append_getElem hlt, gatesT_snoc, ← List.append_assoc] at h1
    have hg := gateT_le gs[i] (hK _ (List.getElem_mem hlt))
    refine Ev.step (f := fun k => (za8.f k gs[i].f0 gs[i].f1 gs[i].f2 gs[i].f3 gs[i].f4).bind fun t256 => if (ByteArray.mk (headT P ++ zcs (gs.take i)).toArray).size + t256.size ≤ 9223372036854775807 then zav.l0 k ((ByteArray.mk (headT P ++ zcs (gs.take i)).toArray) ++ t256) ((i + 1 : Nat) : Int) P gs os else none) (fun k => ?_) ?_
    · simp only [zav.l0]
      rw [if_pos (by omega), if_pos (by omega), rdG _ _ hlt, wrap_nat hlt (by omega)]
    · refine Ev.bind (refLine P i gs[i] (h.g i hlt) (by omega) (by omega)) ?_
      refine Ev.congr (fun k => ?_) h1
      rw [if_pos (by rw [sz, sz]; omega), app_eq]
theorem refFormat_c {P : Int} {gs : List GT} {os : List Int} (h : GoodC P gs os) (hu : ∀ g ∈ gs, 0 ≤ g.f4) : Ev (fun k => zav.f k P gs os) (⟨(formatT P gs os).toArray⟩, 0) := by
  have hP := exp_range P h.p
  have hv := refValid P gs os hu (by have := h.n; omega) (by have := h.m; omega)
  rw [(valid_good P gs os hu).2 h] at hv
  unfold zav.f
  refine Ev.bind hv ?_
  refine Ev.congr (fun k => by rw [if_pos rfl]) ?_
  have hIP : IU P := ⟨by omega, by omega⟩
  refine Ev.bind (refNumber P hIP) ?_
  have hn := num_le P hIP
  have h1 := rF_gates P gs os h _ 0 rfl (Nat.zero_le _)
  refine Ev.congr (fun k => ?_) h1
  rw [if_pos (by rw [sz]; omega)]
  have e1 : (⟨#[112, 114, 105, 109, 101]⟩ : ByteArray) ++ ⟨(numT P).toArray⟩ = ⟨([112, 114, 105, 109, 101] ++ numT P).toArray⟩ := app_eq [112, 114, 105, 109, 101] _
  rw [e1, if_pos (by rw [sz, List.length_append]; simp only [List.length_cons, List.length_nil]; omega)]
  have e2 : (⟨([112, 114, 105, 109, 101] ++ numT P).toArray⟩ : ByteArray) ++ (⟨#[10]⟩ : ByteArray) = ⟨(headT P ++ zcs (gs.take 0)).toArray⟩ := by
    rw [show headT P ++ zcs (gs.take 0) = [112, 114, 105, 109, 101] ++ numT P ++ [10] by simp [headT, zcs, zcg]]
    exact app_eq _ [10]
  rw [e2]
  rfl
theorem refFormat_bad {P : Int} {gs : List GT} {os : List Int} (h : validF P gs os = false) (hu : ∀ g ∈ gs, 0 ≤ g.f4) (hl : gs.length ≤ 1000000) (ho : os.length ≤ 1000000) : Ev (fun k => zav.f k P gs os) (⟨#[]⟩, 1) := by
  have hv := refValid P gs os hu hl ho
  rw [h] at hv
  unfold zav.f
  refine Ev.bind hv ?_
  exact Ev.congr (fun k => by rw [if_neg (by decide)]) (Ev.now _)
end Go.Proofs.YtmnleabeipmhmaaDoor.P
end
section
set_option linter.unusedVariables false
set_option linter.unusedSimpArgs false
namespace Go.Proofs.YtmnleabeipmhmaaDoor.P
open Go.RowKit Go.Proofs.YtmnleabeipmhmaaDoorW.PrintWords Go.Proofs.YtmnleabeipmhmaaDoorW.PrintLast Go.Proofs.YtmnleabeipmhmaaDoorW.PrintMore
theorem format_le {P : Int} {gs : List GT} {os : List Int} (h : GoodC P gs os) : (formatT P gs os).length ≤ 4000000 := by
  have hP := exp_range P h.p
  have hK : ∀ g ∈ gs, 0 ≤ g.f4 ∧ g.f4 < 18446744073709551616 := by
    intro g hg
    obtain ⟨i, hi, rfl⟩ := List.getElem_of_mem hg
    rcases h.g i hi with ⟨x, h1, h2, e⟩ | ⟨x, h1, h2, e⟩ | ⟨K, h1, h2, e⟩ | ⟨a, b, h1, h2, e⟩ | ⟨a, b, h1, h2, e⟩ | ⟨K, a, h1, h2, e⟩ | ⟨a, b, h1, h2, e⟩ <;> rw [e] <;> simp only <;> omega
  have h1 := headT_le P ⟨by omega, by omega⟩
  have h2 := gatesT_le gs hK
  have h3 := lineT_le [111, 117, 116] (os.map IntKind.u64.wrap) (fun x hx => by simp only [List.mem_map] at hx; obtain ⟨y, _, rfl⟩ := hx; exact wrap_u64 y)
  simp only [List.length_map, List.length_cons, List.length_nil] at h3
  have hn := h.n
  have hm := h.m
  simp only [formatT, outsT, List.length_append, List.length_cons, List.length_nil]
  omega
theorem format_ev (P : Int) (gs : List GT) (os : List Int) (hu : ∀ g ∈ gs, 0 ≤ g.f4) : Ev (fun k => privitylaw32_CircuitFormat.f k P gs os) true := by
  unfold privitylaw32_CircuitFormat.f
  rw [show (200 : Int) = ((200 : Nat) : Int) from rfl, few_c]
  simp only [Option.bind_some]
  by_cases hf : gs.length ≤ 200 ∧ os.length ≤ 200
  · refine Ev.congr (fun k => if_pos (decide_eq_true hf)) ?_
    cases hv : validF P gs os with
    | false =>
      have h1 : zbr.f P gs os = some (⟨#[]⟩, 1) := by unfold zbr.f; rw [if_neg (by rw [hv]; decide)]
      rw [h1]
      simp only [Option.bind_some]
      refine Ev.bind (refFormat_bad hv hu (by omega) (by omega)) ?_
      refine Ev.congr (fun k => if_pos rfl) ?_
      exact Ev.step (f := fun _ => some true) (fun k => by simp only [privitylaw32_CircuitFormat.j0, awake_f]; rfl) (Ev.now _)
    | true =>
      have hg := (valid_good P gs os hu).1 hv
      rw [format_c hg]
      simp only [Option.bind_some]
      refine Ev.bind (refFormat_c hg hu) ?_
      refine Ev.congr (fun k => if_pos rfl) ?_
      have hp : zbh.f (⟨(formatT P gs os).toArray⟩ : ByteArray) = some (P, gs, os, 0, 0) := by rw [parse_c _ (by have := format_le hg; omega), parse_format hg]
      refine Ev.step (f := fun k => (zaq.f k P gs os P gs os).bind fun t283 => some t283) (fun k => by simp only [privitylaw32_CircuitFormat.j0, awake_f, hp]; rfl) ?_
      exact Ev.bind (refEqual P P gs gs os os (by omega) (by omega) true (by simp)) (Ev.now _)
  · refine Ev.congr (fun k => if_neg (by simpa using hf)) ?_
    simp only [awake_f]
    exact Ev.now _
end Go.Proofs.YtmnleabeipmhmaaDoor.P
end
