/- What is proved here: a part of the proof of CircuitParse: Cio, Px38, Px39, Px40, Cre, Px24, Px25, Px26, Crf, Crq. No conditions beside those that each theorem states. -/
import Derived.Test.YtmnleabeipmhmaaDoorKCPse1
import Derived.Test.YtmnleabeipmhmaaDoorKCPse5
import Derived.Test.YtmnleabeipmhmaaDoorKCPse25
import Derived.Test.YtmnleabeipmhmaaDoorKCPse42
import Derived.Test.YtmnleabeipmhmaaDoorKCPse26
import Derived.Test.YtmnleabeipmhmaaDoorKCPse28
import Derived.Test.YtmnleabeipmhmaaDoorKCPse27
import Derived.Test.YtmnleabeipmhmaaDoorKCPse30
import Derived.Test.YtmnleabeipmhmaaDoorKCPse31
section
set_option linter.unusedVariables false
namespace Go.Proofs.YtmnleabeipmhmaaDoor.P
open Go.RowKit Go.Proofs.YtmnleabeipmhmaaDoorW.PrintWords Go.Proofs.YtmnleabeipmhmaaDoor.Opn
variable {H : Type} {enc : TypeId × Value → H} {w : World}
structure SC where
  P : Int
  gs : List S43
  os : List Int
end Go.Proofs.YtmnleabeipmhmaaDoor.P
end
section
namespace Go.Proofs.YtmnleabeipmhmaaDoor.P
open Go.RowKit Go.Proofs.YtmnleabeipmhmaaDoorW.PrintWords Go.Proofs.YtmnleabeipmhmaaDoorW.PrintLast Go.Proofs.YtmnleabeipmhmaaDoorW.PrintMore
attribute [local go_sem] zb0 zbz zcd zce zbr zbs zb1 zb3   -- for this text's walks alone
set_option linter.unusedVariables false
set_option linter.unusedSimpArgs false
attribute [local go_sem high] eqA43
end Go.Proofs.YtmnleabeipmhmaaDoor.P
end
section
namespace Go.Proofs.YtmnleabeipmhmaaDoor.P
open Go.RowKit Go.Proofs.YtmnleabeipmhmaaDoorW.PrintWords Go.Proofs.YtmnleabeipmhmaaDoorW.PrintLast Go.Proofs.YtmnleabeipmhmaaDoorW.PrintMore
attribute [local go_sem] zb0 zbz zcd zce zbr zbs zb1 zb3   -- for this text's walks alone
set_option linter.unusedVariables false
set_option linter.unusedSimpArgs false
end Go.Proofs.YtmnleabeipmhmaaDoor.P
end
section
namespace Go.Proofs.YtmnleabeipmhmaaDoor.P
open Go.RowKit Go.Proofs.YtmnleabeipmhmaaDoorW.PrintWords Go.Proofs.YtmnleabeipmhmaaDoorW.PrintLast Go.Proofs.YtmnleabeipmhmaaDoorW.PrintMore
attribute [local go_sem] zb0 zbz zcd zce zbr zbs zb1 zb3   -- for this text's walks alone
set_option linter.unusedVariables false
set_option linter.unusedSimpArgs false
end Go.Proofs.YtmnleabeipmhmaaDoor.P
end
section
set_option linter.unusedVariables false
set_option linter.unusedSimpArgs false
namespace Go.Proofs.YtmnleabeipmhmaaDoor.P
open Go.RowKit Go.Proofs.YtmnleabeipmhmaaDoorW.PrintWords Go.Proofs.YtmnleabeipmhmaaDoorW.PrintLast Go.Proofs.YtmnleabeipmhmaaDoorW.PrintMore
theorem gt_ne (g h : GT) : ((!((g.f0) == (h.f0)) || (!((g.f1) == (h.f1)) || (!((g.f2) == (h.f2)) || (!((g.f3) == (h.f3)) || (!((g.f4) == (h.f4))))))) = true) ↔ g ≠ h := by
  obtain ⟨a0, a1, a2, a3, a4⟩ := g
  obtain ⟨b0, b1, b2, b3, b4⟩ := h
  by_cases h0 : a0 = b0 <;> by_cases h1 : a1 = b1 <;> by_cases h2 : a2 = b2 <;> by_cases h3 : a3 = b3 <;> by_cases h4 : a4 = b4 <;> simp [*]
theorem rE_outs (P P' : Int) (gs gs' : List GT) (a b : List Int) (h : a.length = b.length) (hl : a.length ≤ 1000000) (d : Nat) : ∀ (i : Nat) (r : Bool), a.length - i = d → i ≤ a.length → (r = true ↔ a.drop i = b.drop i) → Ev (fun k => zav.l1 k (i : Int) P gs a P' gs' b) r := by
  induction d with
  | zero =>
    intro i r hd hi hr
    obtain rfl : i = a.length := by omega
    obtain rfl : r = true := hr.2 (by rw [List.drop_length, h, List.drop_length])
    exact Ev.step (f := fun _ => some true) (fun k => by simp only [zav.l1]; rw [if_neg (by omega)]) (Ev.now _)
  | succ d ih =>
    intro i r hd hi hr
    have ha : i < a.length := by omega
    have hb : i < b.length := by omega
    rw [List.drop_eq_getElem_cons ha, List.drop_eq_getElem_cons hb] at hr
    by_cases hg : a[i] = b[i]
    · have h1 := ih (i + 1) r (by omega) (by omega) (by rw [hr]; simp only [List.cons.injEq, hg, true_and])
      exact Ev.step (fun k => by simp only [zav.l1]; rw [if_pos (by omega), if_pos (by omega), if_pos (by omega), rd_nat _ _ ha, rd_nat _ _ hb, if_pos hg, zdd ha (by omega)]) h1
    · obtain rfl : r = false := by cases r with | false => rfl | true => exact absurd (List.cons.inj (hr.1 rfl)).1 hg
      exact Ev.step (f := fun _ => some false) (fun k => by simp only [zav.l1]; rw [if_pos (by omega), if_pos (by omega), if_pos (by omega), rd_nat _ _ ha, rd_nat _ _ hb, if_neg hg]) (Ev.now _)
theorem rE_gates (P P' : Int) (a b : List GT) (os os' : List Int) (h : a.length = b.length) (hl : a.length ≤ 1000000) (ho : os.length = os'.length) (hm : os.length ≤ 1000000) (d : Nat) : ∀ (i : Nat) (r : Bool), a.length - i = d → i ≤ a.length → (r = true ↔ (a.drop i = b.drop i ∧ os = os')) → Ev (fun k => zav.l0 k (i : Int) P a os P' b os') r := by
  induction d with
  | zero =>
    intro i r hd hi hr
    obtain rfl : i = a.length := by omega
    rw [List.drop_length, h, List.drop_length] at hr
    exact Ev.step (fun k => by simp only [zav.l0]; rw [if_neg (by omega)]; rfl) (rE_outs P P' a b os os' ho hm _ 0 r rfl (Nat.zero_le _) (by rw [hr]; simp))
  | succ d ih =>
    intro i r hd hi hr
    have ha : i < a.length := by omega
    have hb : i < b.length := by omega
    rw [List.drop_eq_getElem_cons ha, List.drop_eq_getElem_cons hb] at hr
    by_cases hg : a[i] = b[i]
    · have h1 := ih (i + 1) r (by omega) (by omega) (by rw [hr]; simp only [List.cons.injEq, hg, true_and])
      exact Ev.step (fun k => by simp only [zav.l0]; rw [if_pos (by omega), if_pos (by omega), if_pos (by omega), rdG _ _ ha, rdG _ _ hb, if_neg (fun e => ((gt_ne _ _).1 e) hg), zdd ha (by omega)]) h1
    · obtain rfl : r = false := by cases r with | false => rfl | true => exact absurd (List.cons.inj (hr.1 rfl).1).1 hg
      exact Ev.step (f := fun _ => some false) (fun k => by simp only [zav.l0]; rw [if_pos (by omega), if_pos (by omega), if_pos (by omega), rdG _ _ ha, rdG _ _ hb, if_pos ((gt_ne _ _).2 hg)]) (Ev.now _)
theorem refEqual (P P' : Int) (gs gs' : List GT) (os os' : List Int) (hl : gs.length ≤ 1000000) (ho : os.length ≤ 1000000) (r : Bool) (hr : r = true ↔ (P = P' ∧ gs = gs' ∧ os = os')) : Ev (fun k => zav.f k P gs os P' gs' os') r := by
  unfold zav.f
  have jt : r = false → Ev (fun k => zav.j0 k true P gs os P' gs' os') r := by
    rintro rfl
    exact Ev.step (f := fun _ => some false) (fun k => by simp only [zav.j0]; rw [if_pos trivial]) (Ev.now _)
  have fl : ¬ (P = P' ∧ gs = gs' ∧ os = os') → r = false := fun h => by cases r with | false => rfl | true => exact absurd (hr.1 rfl) h
  by_cases hP : P = P'
  · refine Ev.congr (fun k => if_pos hP) ?_
    by_cases hg : gs.length = gs'.length
    · refine Ev.congr (fun k => if_pos (by omega)) ?_
      by_cases hq : os.length = os'.length
      · refine Ev.step (fun k => ?_) (rE_gates P P' gs gs' os os' hg hl hq ho _ 0 r rfl (Nat.zero_le _) (by rw [hr]; simp [hP]))
        simp only [zav.j0]
        rw [if_neg (by simp; omega)]
        rfl
      · have e : ((os.length : Int) != (os'.length : Int)) = true := by simp; omega
        rw [e]
        exact jt (fl (fun h => hq (congrArg List.length h.2.2)))
    · exact Ev.congr (fun k => if_neg (by omega)) (jt (fl (fun h => hg (congrArg List.length h.2.1))))
  · exact Ev.congr (fun k => if_neg hP) (jt (fl (fun h => hP h.1)))
end Go.Proofs.YtmnleabeipmhmaaDoor.P
end
section
namespace Go.Proofs.YtmnleabeipmhmaaDoor.P
open Go.RowKit Go.Proofs.YtmnleabeipmhmaaDoorW.PrintWords Go.Proofs.YtmnleabeipmhmaaDoorW.PrintLast Go.Proofs.YtmnleabeipmhmaaDoorW.PrintMore
attribute [local go_sem] zb0 zbz zcd zce zbr zbs zb1 zb3   -- for this text's walks alone
set_option linter.unusedVariables false
set_option linter.unusedSimpArgs false
end Go.Proofs.YtmnleabeipmhmaaDoor.P
end
section
namespace Go.Proofs.YtmnleabeipmhmaaDoor.P
open Go.RowKit Go.Proofs.YtmnleabeipmhmaaDoorW.PrintWords Go.Proofs.YtmnleabeipmhmaaDoorW.PrintLast Go.Proofs.YtmnleabeipmhmaaDoorW.PrintMore
attribute [local go_sem] zb0 zbz zcd zce zbr zbs zb1 zb3   -- for this text's walks alone
set_option linter.unusedVariables false
set_option linter.unusedSimpArgs false
end Go.Proofs.YtmnleabeipmhmaaDoor.P
end
section
namespace Go.Proofs.YtmnleabeipmhmaaDoor.P
open Go.RowKit Go.Proofs.YtmnleabeipmhmaaDoorW.PrintWords Go.Proofs.YtmnleabeipmhmaaDoorW.PrintLast Go.Proofs.YtmnleabeipmhmaaDoorW.PrintMore
attribute [local go_sem] zb0 zbz zcd zce zbr zbs zb1 zb3   -- for this text's walks alone
set_option linter.unusedVariables false
set_option linter.unusedSimpArgs false
end Go.Proofs.YtmnleabeipmhmaaDoor.P
end
section
namespace Go.Proofs.YtmnleabeipmhmaaDoor.P
end Go.Proofs.YtmnleabeipmhmaaDoor.P
end
section
set_option linter.unusedVariables false
set_option linter.unusedSimpArgs false
namespace Go.Proofs.YtmnleabeipmhmaaDoor.P
open Go.RowKit Go.Proofs.YtmnleabeipmhmaaDoorW.PrintWords Go.Proofs.YtmnleabeipmhmaaDoorW.PrintLast Go.Proofs.YtmnleabeipmhmaaDoorW.PrintMore
theorem cut_or (c : UInt8) (l : List UInt8) : c ∉ l ∨ ∃ a r, l = a ++ c :: r ∧ c ∉ a := by
  by_cases h : c ∈ l
  · obtain ⟨a, r, h1, h2⟩ := List.eq_append_cons_of_mem h
    exact Or.inr ⟨a, r, h1, h2⟩
  · exact Or.inl h
theorem u8_ne {a b : UInt8} (h : a ≠ b) : ¬ ((a.toNat : Int) = (b.toNat : Int)) := fun e => h (UInt8.toNat_inj.1 (by omega))
theorem refCut_no_go (c : UInt8) (b : List UInt8) (h : c ∉ b) (hl : b.length ≤ 1000000) (d : Nat) : ∀ i : Nat, b.length - i = d → i ≤ b.length → Ev (fun k => za8.l0 k ⟨b.toArray⟩ (c.toNat : Int) (i : Int)) (⟨b.toArray⟩, ⟨#[]⟩, false) := by
  induction d with
  | zero =>
    intro i hd hi
    obtain rfl : i = b.length := by omega
    exact Ev.step (f := fun _ => some (⟨b.toArray⟩, ⟨#[]⟩, false)) (fun k => by simp only [za8.l0]; rw [if_neg (by rw [sz]; omega)]) (Ev.now _)
  | succ d ih =>
    intro i hd hi
    have hlt : i < b.length := by omega
    refine Ev.step (fun k => ?_) (ih (i + 1) (by omega) (by omega))
    simp only [za8.l0]
    rw [if_pos (by rw [sz]; omega), if_pos (by omega), bt_nat b i hlt, if_neg (u8_ne (fun e => h (by rw [← e]; exact List.getElem_mem hlt))), zdd hlt (by omega)]
theorem refCut_no (c : UInt8) (b : List UInt8) (h : c ∉ b) (hl : b.length ≤ 1000000) : Ev (fun k => za8.f k ⟨b.toArray⟩ (c.toNat : Int)) (⟨b.toArray⟩, ⟨#[]⟩, false) := refCut_no_go c b h hl _ 0 rfl (Nat.zero_le _)
theorem refCut_yes_go (c : UInt8) (a r : List UInt8) (h : c ∉ a) (hl : (a ++ c :: r).length ≤ 1000000) (d : Nat) : ∀ i : Nat, a.length - i = d → i ≤ a.length → Ev (fun k => za8.l0 k ⟨(a ++ c :: r).toArray⟩ (c.toNat : Int) (i : Int)) (⟨a.toArray⟩, ⟨r.toArray⟩, true) := by
  have hL : (a ++ c :: r).length = a.length + r.length + 1 := by simp; omega
  induction d with
  | zero =>
    intro i hd hi
    obtain rfl : i = a.length := by omega
    refine Ev.step (f := fun _ => some (⟨a.toArray⟩, ⟨r.toArray⟩, true)) (fun k => ?_) (Ev.now _)
    have hlt : a.length < (a ++ c :: r).length := by omega
    have hb : (a ++ c :: r)[a.length]'hlt = c := by simp
    simp only [za8.l0]
    rw [if_pos (by rw [sz]; omega), if_pos (by omega), bt_nat _ _ hlt, hb, if_pos rfl, zdd hlt (by omega), if_pos (by rw [sz]; omega), if_pos (by omega), if_pos (by rw [sz]; omega)]
    have e1 : (⟨(a ++ c :: r).toArray⟩ : ByteArray).extract 0 (a.length : Int).toNat = ⟨a.toArray⟩ := by rw [ext_eq]; simp
    have e2 : (⟨(a ++ c :: r).toArray⟩ : ByteArray).extract ((a.length + 1 : Nat) : Int).toNat (⟨(a ++ c :: r).toArray⟩ : ByteArray).size = ⟨r.toArray⟩ := by
      rw [ext_eq, sz, hL]
      have hd : (a ++ c :: r).drop ((a.length + 1 : Nat) : Int).toNat = r := by
        rw [show ((a.length + 1 : Nat) : Int).toNat = (a ++ [c]).length by simp, show a ++ c :: r = (a ++ [c]) ++ r by simp, List.drop_left]
      rw [hd, List.take_of_length_le (by omega)]
    rw [e1, e2]
  | succ d ih =>
    intro i hd hi
    have hlt : i < (a ++ c :: r).length := by omega
    have hb : (a ++ c :: r)[i]'hlt = a[i]'(by omega) := List.getElem_append_left (by omega)
    refine Ev.step (fun k => ?_) (ih (i + 1) (by omega) (by omega))
    simp only [za8.l0]
    rw [if_pos (by rw [sz]; omega), if_pos (by omega), bt_nat _ i hlt, hb, if_neg (u8_ne (fun e => h (by rw [← e]; exact List.getElem_mem (by omega)))), zdd hlt (by omega)]
theorem refCut_yes (c : UInt8) (a r : List UInt8) (h : c ∉ a) (hl : (a ++ c :: r).length ≤ 1000000) : Ev (fun k => za8.f k ⟨(a ++ c :: r).toArray⟩ (c.toNat : Int)) (⟨a.toArray⟩, ⟨r.toArray⟩, true) := refCut_yes_go c a r h hl _ 0 rfl (Nat.zero_le _)
theorem refWords_go (n : Nat) : ∀ (l : List UInt8) (acc : List ByteArray), l.length = n → l.length ≤ 1000000 → acc.length + l.length ≤ 2000000 → Ev (fun k => za4.l0 k ⟨l.toArray⟩ acc) (acc ++ (spl 32 false l).map mkB) := by
  induction n using Nat.strongRecOn with
  | _ n ih =>
    intro l acc hn hl ha
    rcases cut_or 32 l with h | ⟨a, r, rfl, h⟩
    · rw [spl_no 32 false l h]
      refine Ev.step (fun k => by simp only [za4.l0]; rfl) (Ev.bind (refCut_no 32 l h hl) ?_)
      refine Ev.congr (f := fun _ => some (acc ++ [l].map mkB)) (fun k => ?_) (Ev.now _)
      rw [if_pos (by omega)]
      simp only [Option.bind_some]
      rw [if_neg (by simp)]
      rfl
    · rw [spl_app 32 r a h]
      simp only [List.length_append, List.length_cons] at hn hl ha
      refine Ev.step (fun k => by simp only [za4.l0]; rfl) (Ev.bind (refCut_yes 32 a r h (by simp; omega)) ?_)
      have h1 := ih r.length (by omega) r (acc ++ [mkB a]) rfl (by omega) (by simp; omega)
      rw [List.append_assoc] at h1
      refine Ev.congr (fun k => ?_) h1
      rw [if_pos (by omega)]
      simp only [Option.bind_some, if_true]
      rfl
theorem refWords (l : List UInt8) (hl : l.length ≤ 1000000) : Ev (fun k => za4.f k ⟨l.toArray⟩) ((spl 32 false l).map mkB) := by
  have := refWords_go _ l [] rfl hl (by simpa using (by omega : l.length ≤ 2000000))
  exact this
theorem rdB (ws : List (List UInt8)) (i : Nat) (h : i < ws.length) : rdOf ByteArray.empty (ws.map mkB) (i : Int) = mkB ws[i] := by simp [rdOf, h]
def numsR (acc : List Int) (o : Option (List Int)) : List Int × Bool := match o with
  | some ns => (acc ++ ns, true)
  | none => ([], false)
theorem refNumbers_go (ws : List (List UInt8)) (hw : ∀ x ∈ ws, x.length ≤ 1000000) (hl : ws.length ≤ 1000001) (d : Nat) : ∀ (i : Nat) (acc : List Int), ws.length - i = d → i ≤ ws.length → acc.length ≤ i →
    Ev (fun k => zal.l0 k (ws.map mkB) acc (i : Int)) (numsR acc (zcb (ws.drop i))) := by
  induction d with
  | zero =>
    intro i acc hd hi ha
    obtain rfl : i = ws.length := by omega
    rw [List.drop_length]
    refine Ev.step (f := fun _ => some (acc, true)) (fun k => by simp only [zal.l0]; rw [if_neg (by simp)]) ?_
    simp only [zcb, numsR, List.append_nil]
    exact Ev.now _
  | succ d ih =>
    intro i acc hd hi ha
    have hlt : i < ws.length := by omega
    rw [List.drop_eq_getElem_cons hlt]
    have hp := refParse ws[i] (hw _ (List.getElem_mem hlt))
    have hnp : ∀ k, (zal.l0 (k + 1) (ws.map mkB) acc (i : Int)) = (zai.f k (mkB ws[i])).bind fun bt292 => (if bt292.2 = 0 then ((zay.f k bt292.1).bind fun t294 => (if t294.toList = (mkB ws[i]).toList then (if acc.length < 17592186044416 then (zal.l0 k (ws.map mkB) (acc ++ [bt292.1]) ((i + 1 : Nat) : Int)) else (none)) else (some (([] : List Int), false)))) else (some (([] : List Int), false))) := by
      intro k
      simp only [zal.l0]
      rw [if_pos (by simp; omega), if_pos (by omega), rdB _ _ hlt, zdd hlt (by omega)]
    refine Ev.step hnp (Ev.bind hp ?_)
    by_cases h0 : (zc5 ws[i]).2 = 0
    · obtain ⟨h1, h2⟩ := parse_exact ws[i] h0
      have e : numsR acc (zcb (ws[i] :: ws.drop (i + 1))) = numsR (acc ++ [((zc5 ws[i]).1 : Int)]) (zcb (ws.drop (i + 1))) := by
        simp only [zcb]
        rw [if_pos h0]
        cases zcb (ws.drop (i + 1)) <;> simp [numsR]
      rw [e]
      refine Ev.congr (fun k => if_pos h0) (Ev.bind (refFormat _ h1) ?_)
      refine Ev.congr (fun k => ?_) (ih (i + 1) (acc ++ [((zc5 ws[i]).1 : Int)]) (by omega) (by omega) (by simp; omega))
      rw [h2, if_pos (show (⟨ws[i].toArray⟩ : ByteArray).toList = (mkB ws[i]).toList from rfl), if_pos (by omega)]
    · have e : numsR acc (zcb (ws[i] :: ws.drop (i + 1))) = ([], false) := by simp only [zcb]; rw [if_neg h0]; rfl
      rw [e]
      exact Ev.congr (fun k => if_neg h0) (Ev.now _)
theorem refNumbers (ws : List (List UInt8)) (hw : ∀ x ∈ ws, x.length ≤ 1000000) (hl : ws.length ≤ 1000001) : Ev (fun k => zal.f k (ws.map mkB)) (numsR [] (zcb ws)) := refNumbers_go ws hw hl _ 0 [] rfl (Nat.zero_le _) (by simp)
theorem spl_len (c : UInt8) (keep : Bool) : ∀ l : List UInt8, (spl c keep l).length ≤ l.length + 1 ∧ ∀ x ∈ spl c keep l, x.length ≤ l.length
  | [] => by simp [spl]
  | b :: r => by
    obtain ⟨h1, h2⟩ := spl_len c keep r
    unfold spl
    split
    · refine ⟨by simp; omega, ?_⟩
      intro x hx
      rcases List.mem_cons.1 hx with hx | hx
      · subst hx; cases keep <;> simp
      · have := h2 x hx; simp; omega
    · split
      · simp
      · next p q hq =>
        rw [hq] at h1 h2
        refine ⟨by simp at h1 ⊢; omega, ?_⟩
        intro x hx
        rcases List.mem_cons.1 hx with hx | hx
        · subst hx; have := h2 p (by simp); simp; omega
        · have := h2 x (by simp [hx]); simp; omega
theorem refSplit (l : List UInt8) (hl : l.length ≤ 1000000) : ∃ p r, spl 32 false l = p :: r ∧ Ev (fun k => za4.f k ⟨l.toArray⟩) (mkB p :: r.map mkB) ∧ Ev (fun k => zal.f k (r.map mkB)) (numsR [] (zcb r)) := by
  have hw := refWords l hl
  obtain ⟨h1, h2⟩ := spl_len 32 false l
  cases hs : spl 32 false l with
  | nil => exact absurd hs (spl_ne _ _ _)
  | cons p r =>
    rw [hs] at hw h1 h2
    refine ⟨p, r, rfl, hw, refNumbers r (fun x hx => by have := h2 x (List.mem_cons_of_mem _ hx); omega) (by simp at h1; omega)⟩
theorem refOuts_loop (n : Nat) (hn : n ≤ 20000) (ns : List Int) (hu : U64 ns) (hl : ns.length ≤ 1000) (d : Nat) : ∀ (i : Nat) (acc : List Int), ns.length - i = d → i ≤ ns.length → acc.length ≤ i →
    Ev (fun k => zar.l0 k (n : Int) ns acc (i : Int)) (match outsF n (ns.drop i) acc with | some os => (os, true) | none => ([], false)) := by
  induction d with
  | zero =>
    intro i acc hd hi ha
    obtain rfl : i = ns.length := by omega
    rw [List.drop_length]
    exact Ev.step (f := fun _ => some (acc, true)) (fun k => by simp only [zar.l0]; rw [if_neg (by omega)]) (Ev.now _)
  | succ d ih =>
    intro i acc hd hi ha
    have hlt : i < ns.length := by omega
    rw [List.drop_eq_getElem_cons hlt]
    have hx := hu _ (List.getElem_mem hlt)
    have hwn : IntKind.u64.wrap (n : Int) = n := wrapU_nat n (by omega)
    simp only [outsF]
    by_cases h : ns[i] ≥ (n : Int)
    · have hc : zbi ns[i] < 0 ∨ (n : Int) ≤ zbi ns[i] := by
        by_cases h2 : ns[i] ≤ 20000
        · right; rw [zcs _ hx.1 h2]; exact h
        · left; rw [small_big _ h2]; omega
      rw [if_pos hc]
      exact Ev.step (f := fun _ => some ([], false)) (fun k => by simp only [zar.l0]; rw [if_pos (by omega), if_pos (by omega), rd_nat _ _ hlt, hwn, if_pos h]) (Ev.now _)
    · rw [zcs _ hx.1 (by omega), if_neg (by omega)]
      have hw : wrap64 ns[i] = ns[i] := by unfold wrap64; omega
      exact Ev.step (fun k => by simp only [zar.l0]; rw [if_pos (by omega), if_pos (by omega), rd_nat _ _ hlt, hwn, if_neg h, if_pos (by omega), hw, zdd hlt (by omega)]) (ih (i + 1) (acc ++ [ns[i]]) (by omega) (by omega) (by simp; omega))
def outsP (l : List UInt8) (n : Nat) : Option (List Int) :=
  if (zct l).2.2 = true ∧ (zct l).1 = [111, 117, 116] ∧ (zct l).2.1.length ≤ 1000 then outsF n (zct l).2.1 [] else none
def outsR (o : Option (List Int)) : List Int × Bool := match o with
  | some os => (os, true)
  | none => ([], false)
theorem refOuts (l : List UInt8) (n : Nat) (hl : l.length ≤ 1000000) (hn : n ≤ 20000) : Ev (fun k => zar.f k ⟨l.toArray⟩ (n : Int)) (outsR (outsP l n)) := by
  obtain ⟨p, r, hs, hw, hm⟩ := refSplit l hl
  have jt : ∀ ns : List Int, Ev (fun k => zar.j0 k (n : Int) ns true) (outsR none) := fun ns => Ev.step (f := fun _ => some ([], false)) (fun k => by simp only [zar.j0]; rw [if_pos trivial]) (Ev.now _)
  have e0 : rdOf ByteArray.empty (mkB p :: r.map mkB) 0 = mkB p := rfl
  have hsp : zct l = (match zcb r with | some ns => (p, ns, true) | none => ([], [], false)) := by unfold zct; rw [hs]; rfl
  have start : ∀ (ns : List Int) (ok : Bool) (R : List Int × Bool), Ev (fun k => zal.f k (r.map mkB)) (ns, ok) → Ev (fun k => if p = [111, 117, 116] then (if ok = true then (zar.j0 k (n : Int) ns (decide ((ns.length : Int) > 1000))) else (zar.j0 k (n : Int) ns true)) else (zar.j0 k (n : Int) ns true)) R →
      Ev (fun k => zar.f k ⟨l.toArray⟩ (n : Int)) R := by
    intro ns ok R hm h
    unfold zar.f
    refine Ev.bind hw ?_
    refine Ev.congr (fun k => if_pos (by simp only [List.length_cons]; omega)) ?_
    simp only [List.drop_succ_cons, List.drop_zero]
    refine Ev.bind hm ?_
    refine Ev.congr (fun k => if_pos (by simp only [List.length_cons]; omega)) ?_
    rw [e0, zda]
    exact h
  cases hpn : zcb r with
  | none =>
    rw [hpn] at hsp hm
    have : outsP l n = none := by unfold outsP; rw [hsp, if_neg (by simp)]
    rw [this]
    refine start [] false _ hm ?_
    by_cases ho : p = [111, 117, 116]
    · exact Ev.congr (fun k => by rw [if_pos ho, if_neg (by decide)]) (jt _)
    · exact Ev.congr (fun k => if_neg ho) (jt _)
  | some ns =>
    rw [hpn] at hsp hm
    refine start ns true _ (by simpa [numsR] using hm) ?_
    by_cases ho : p = [111, 117, 116]
    · refine Ev.congr (f := fun k => zar.j0 k (n : Int) ns (decide ((ns.length : Int) > 1000))) (fun k => by rw [if_pos ho, if_pos rfl]) ?_
      by_cases hc : ns.length ≤ 1000
      · have : outsP l n = outsF n ns [] := by unfold outsP; rw [hsp, if_pos ⟨rfl, ho, hc⟩]
        rw [this]
        have hu := (parseNums_inv r ns hpn).2
        refine Ev.step (fun k => ?_) (refOuts_loop n hn ns hu hc _ 0 [] rfl (Nat.zero_le _) (by simp))
        simp only [zar.j0]
        rw [if_neg (by simp; omega)]
        rfl
      · have : outsP l n = none := by unfold outsP; rw [hsp, if_neg (by rintro ⟨_, _, h⟩; exact hc h)]
        rw [this, decide_eq_true (by omega)]
        exact jt _
    · have : outsP l n = none := by unfold outsP; rw [hsp, if_neg (by rintro ⟨_, h, _⟩; exact ho h)]
      rw [this]
      exact Ev.congr (fun k => if_neg ho) (jt _)
end Go.Proofs.YtmnleabeipmhmaaDoor.P
end
