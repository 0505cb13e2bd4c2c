/- What is proved: in plain Lean: what the encodings of views and coalitions are, for views of moderate size; a few fixed results. -/
import Derived.Test.YtojbfgaipkllbaaPb
import Derived.Test.YtojbfgaipkllbaaPx9
set_option linter.unusedVariables false
set_option linter.unusedSimpArgs false
namespace Go.Proofs.Ytojbfgaipkllbaa.P
open Go.RowKit Go.Proofs.YtojbfgaipkllbaaW.PrintWords Go.Proofs.YtojbfgaipkllbaaW.PrintLast Go.Proofs.YtojbfgaipkllbaaW.PrintMore

/-- The bytes of a view. -/
def EB (l : List Ve) : List UInt8 := Enc.enc (lw (l.map evw))
/-- At most so many events, each with at most so many words. -/
def few (l : List Ve) (a b : Nat) : Bool := decide (l.length ≤ a) && l.all fun e => decide (e.f2.length ≤ b)
theorem few_len {l : List Ve} {a b : Nat} (h : few l a b = true) : l.length ≤ a ∧ ∀ e ∈ l, e.f2.length ≤ b := by
  simp [few] at h; exact h

theorem lw_few {l : List Ve} {a b : Nat} (h : few l a b = true) : (lw (l.map evw)).length ≤ 1 + a * (b + 3) := by
  obtain ⟨h1, h2⟩ := few_len h
  have key : ∀ m : List Ve, (∀ e ∈ m, e.f2.length ≤ b) → ((m.map evw).flatMap lg).length ≤ m.length * (b + 3) := by
    intro m
    induction m with
    | nil => intro _; simp
    | cons x m ih =>
      intro hm
      have hx := hm x (List.mem_cons_self ..)
      have := ih (fun e he => hm e (List.mem_cons_of_mem _ he))
      have hl : (lg (evw x)).length = x.f2.length + 3 := by simp [lg_length, evw]
      simp only [List.map_cons, List.flatMap_cons, List.length_append, List.length_cons, hl, Nat.add_mul, Nat.one_mul] at this ⊢
      omega
  have hk := key l h2
  have : l.length * (b + 3) ≤ a * (b + 3) := Nat.mul_le_mul_right _ h1
  have hb : (lw (l.map evw)).length = 1 + ((l.map evw).flatMap lg).length := by simp [lw]; omega
  omega

theorem encode_f (l : List Ve) (h : (lw (l.map evw)).length < 17592186044416) : view_Encode.f l = some ⟨(EB l).toArray⟩ := by
  unfold view_Encode.f
  rw [gate_eq, if_pos (by rw [decide_eq_true_eq]; exact h)]; rfl

theorem rlLoop (l : List (List Int)) (hl : l.length ≤ 9223372036854775807) (r : ByteArray) (d : Nat) : ∀ (i : Nat) (acc : List Int), l.length - i = d → i ≤ l.length → acc.length + ((l.drop i).flatMap lg).length < 17592186044416 →
    Ev (fun k => privityref03_EncodeWords.f k (acc ++ (l.drop i).flatMap lg)) r → Ev (fun k => privityref03_EncodeLists.l0 k l acc (i : Int)) r := by
  induction d with
  | zero =>
    intro i acc hd hi hb h
    refine Ev.step (fun k => by simp only [privityref03_EncodeLists.l0]; rw [if_neg (by omega)]) ?_
    rw [List.drop_of_length_le (by omega), List.flatMap_nil, List.append_nil] at h
    exact Ev.bind h (Ev.now _)
  | succ d ih =>
    intro i acc hd hi hb h
    have hlt : i < l.length := by omega
    have hrd : rd_L1 l (i : Int) = l[i] := by simp [rd_L1, hlt]
    rw [List.drop_eq_getElem_cons hlt, List.flatMap_cons, List.length_append, lg_length] at hb
    refine Ev.step (fun k => by
      simp only [privityref03_EncodeLists.l0]
      rw [if_pos (by omega), if_pos (by omega), if_pos (by omega), hrd]) ?_
    simp only [Option.bind_some]
    refine Ev.congr (fun k => by rw [if_pos (by rw [List.length_append, List.length_singleton]; omega), wrap_nat hlt hl]) ?_
    refine ih (i + 1) _ (by omega) (by omega) (by rw [List.length_append, List.length_append, List.length_singleton]; omega) ?_
    rw [List.drop_eq_getElem_cons hlt, List.flatMap_cons] at h
    simpa [lg] using h
theorem refLists (l : List (List Int)) (h : (lw l).length < 17592186044416) : Ev (fun k => privityref03_EncodeLists.f k l) ⟨(Enc.enc (lw l)).toArray⟩ := by
  have hf := flat_le l
  have hb : (lw l).length = 1 + (l.flatMap lg).length := by simp [lw]; omega
  refine rlLoop l (by omega) _ l.length 0 _ (by omega) (by omega) (by rw [List.drop_zero, List.length_singleton]; omega) ?_
  exact refWords (lw l) (by omega)

theorem reLoop (l : List Ve) (hl : l.length ≤ 5864062014805) (hw : ∀ e ∈ l, e.f2.length + 2 < 17592186044416) (r : ByteArray) (d : Nat) : ∀ (i : Nat), l.length - i = d → i ≤ l.length →
    Ev (fun k => privityref03_EncodeLists.f k (l.map evw)) r → Ev (fun k => privityref15_Encode.l0 k l ((l.take i).map evw) (i : Int)) r := by
  induction d with
  | zero =>
    intro i hd hi h
    obtain rfl : i = l.length := by omega
    refine Ev.step (fun k => by simp only [privityref15_Encode.l0]; rw [if_neg (by omega)]) ?_
    rw [List.take_length]
    exact Ev.bind h (Ev.now _)
  | succ d ih =>
    intro i hd hi h
    have hlt : i < l.length := by omega
    refine Ev.step (fun k => by
      simp only [privityref15_Encode.l0]
      rw [if_pos (by omega), if_pos (by omega), rdT _ _ hlt]) ?_
    simp only [Option.bind_some]
    refine Ev.congr (fun k => by
      rw [if_pos (by have := hw _ (List.getElem_mem hlt); simp; omega), if_pos (by simp; omega), wrap_nat hlt (by omega),
        show (l.take i).map evw ++ [[IntKind.u64.wrap l[i].f0, IntKind.u64.wrap l[i].f1] ++ l[i].f2] = (l.take (i + 1)).map evw from by rw [List.take_succ_eq_append_getElem hlt, List.map_append]; rfl]) ?_
    exact ih (i + 1) (by omega) (by omega) h
theorem refEncode (l : List Ve) (h : (lw (l.map evw)).length < 17592186044416) : Ev (fun k => privityref15_Encode.f k l) ⟨(EB l).toArray⟩ := by
  have hb : (lw (l.map evw)).length = 1 + ((l.map evw).flatMap lg).length := by simp [lw]; omega
  obtain ⟨h1, h2⟩ := ev_bound l h
  have hw : ∀ e ∈ l, e.f2.length + 2 < 17592186044416 := by
    have key : ∀ m : List Ve, ∀ e ∈ m, e.f2.length + 3 ≤ ((m.map evw).flatMap lg).length := by
      intro m
      induction m with
      | nil => intro e he; cases he
      | cons x m ih =>
        intro e he
        have hx : (lg (evw x)).length = x.f2.length + 3 := by simp [lg_length, evw]
        simp only [List.map_cons, List.flatMap_cons, List.length_append, hx]
        rcases List.mem_cons.1 he with rfl | he
        · omega
        · have := ih e he; omega
    intro e he
    have := key l e he
    omega
  exact reLoop l h1 hw _ l.length 0 (by omega) (by omega) (refLists _ h)

theorem fewLoop (l : List Ve) (hl : l.length ≤ 9223372036854775807) (b : Nat) (d : Nat) : ∀ (i : Nat), l.length - i = d → i ≤ l.length → Ev (fun k => privityref15_Few.l0 k l (b : Int) (i : Int)) ((l.drop i).all fun e => decide (e.f2.length ≤ b)) := by
  induction d with
  | zero =>
    intro i hd hi
    refine Ev.step (fun k => by simp only [privityref15_Few.l0]; rw [if_neg (by omega)]) ?_
    rw [List.drop_of_length_le (by omega)]
    exact Ev.now _
  | succ d ih =>
    intro i hd hi
    have hlt : i < l.length := by omega
    rw [List.drop_eq_getElem_cons hlt, List.all_cons]
    by_cases he : l[i].f2.length ≤ b
    · refine Ev.step (fun k => by simp only [privityref15_Few.l0]; rw [if_pos (by omega), if_pos (by omega), rdT _ _ hlt, if_neg (by omega), wrap_nat hlt hl]) ?_
      rw [decide_eq_true he, Bool.true_and]
      exact ih (i + 1) (by omega) (by omega)
    · refine Ev.step (fun k => by simp only [privityref15_Few.l0]; rw [if_pos (by omega), if_pos (by omega), rdT _ _ hlt, if_pos (by omega)]) ?_
      rw [decide_eq_false he, Bool.false_and]
      exact Ev.now _
theorem few_ev (l : List Ve) (hl : l.length ≤ 9223372036854775807) (a b : Nat) : Ev (fun k => privityref15_Few.f k l (a : Int) (b : Int)) (few l a b) := by
  unfold privityref15_Few.f few
  by_cases h : l.length ≤ a
  · have h' : ¬ ((l.length : Int) > (a : Int)) := by omega
    simp only [h', if_false, h, decide_true, Bool.true_and]
    have := fewLoop l hl b l.length 0 (by omega) (by omega)
    simpa using this
  · have h' : (l.length : Int) > (a : Int) := by omega
    simp only [h', if_true, h, decide_false, Bool.false_and]
    exact Ev.now _

/-- The bytes of a coalition's views. -/
def pick (vs : List (List Ve)) (i : Int) : List UInt8 := if 1 ≤ i ∧ i ≤ (vs.length : Int) then EB (vs.getD (i.toNat - 1) []) else []
def CB (bad : List Int) (vs : List (List Ve)) : List UInt8 := bad.flatMap (pick vs)
theorem rdL (vs : List (List Ve)) (i : Int) (h0 : 1 ≤ i) (h1 : i ≤ (vs.length : Int)) (h2 : i ≤ 9223372036854775807) : rd_L4 vs (wrap64 (i - 1)) = vs.getD (i.toNat - 1) [] := by
  rw [show wrap64 (i - 1) = i - 1 from by unfold wrap64; omega]
  unfold rd_L4
  rw [show (i - 1).toNat = i.toNat - 1 from by omega]

/-- Views whose encodings are small. -/
def Small (M : Nat) (vs : List (List Ve)) : Prop := ∀ v ∈ vs, (lw (v.map evw)).length ≤ M
theorem EB_length (l : List Ve) : (EB l).length = 8 * (lw (l.map evw)).length := by unfold EB; rw [Enc.enc_length]
theorem getD_small {M : Nat} {vs : List (List Ve)} (h : Small M vs) (hM : 1 ≤ M) (n : Nat) : (lw ((vs.getD n []).map evw)).length ≤ M := by
  rw [List.getD_eq_getElem?_getD]
  rcases Nat.lt_or_ge n vs.length with hlt | hge
  · rw [List.getElem?_eq_getElem hlt, Option.getD_some]; exact h _ (List.getElem_mem hlt)
  · rw [List.getElem?_eq_none hge, Option.getD_none]; simpa [lw] using hM
theorem pick_length {M : Nat} {vs : List (List Ve)} (h : Small M vs) (hM : 1 ≤ M) (i : Int) : (pick vs i).length ≤ 8 * M := by
  unfold pick
  split
  · rw [EB_length]; have := getD_small h hM (i.toNat - 1); omega
  · simp
theorem mk_append (a b : List UInt8) : (ByteArray.mk a.toArray) ++ (ByteArray.mk b.toArray) = ByteArray.mk (a ++ b).toArray := by
  apply ByteArray.ext
  simp

theorem coLoop (bad : List Int) (vs : List (List Ve)) (M : Nat) (hM : 1 ≤ M) (hM2 : M ≤ 100000) (hb : bad.length ≤ 1000) (hv : vs.length ≤ 1000) (hs : Small M vs) (d : Nat) : ∀ (i : Nat), bad.length - i = d → i ≤ bad.length →
    Ev (fun k => view_EncodeCoalition.l0 k vs ⟨(CB (bad.take i) vs).toArray⟩ bad (bad.length : Int) (i : Int)) ⟨(CB bad vs).toArray⟩ := by
  have hcb : ∀ m : List Int, (CB m vs).length ≤ m.length * (8 * M) := by
    intro m
    induction m with
    | nil => simp [CB]
    | cons x m ih =>
      have := pick_length hs hM x
      unfold CB at ih ⊢
      rw [List.flatMap_cons, List.length_append, List.length_cons, Nat.add_mul, Nat.one_mul]
      omega
  induction d with
  | zero =>
    intro i hd hi
    obtain rfl : i = bad.length := by omega
    refine Ev.step (fun k => by simp only [view_EncodeCoalition.l0]; rw [if_neg (by omega)]) ?_
    rw [List.take_length]
    exact Ev.now _
  | succ d ih =>
    intro i hd hi
    have hlt : i < bad.length := by omega
    have hnx : CB (bad.take (i + 1)) vs = CB (bad.take i) vs ++ pick vs bad[i] := by
      unfold CB
      rw [List.take_succ_eq_append_getElem hlt, List.flatMap_append]; simp
    have hI := ih (i + 1) (by omega) (by omega)
    rw [hnx] at hI
    by_cases h1 : bad[i] ≥ 1
    · by_cases h2 : bad[i] ≤ (vs.length : Int)
      · have hp : pick vs bad[i] = EB (vs.getD (bad[i].toNat - 1) []) := by unfold pick; rw [if_pos ⟨h1, h2⟩]
        rw [hp] at hI
        have hsm := getD_small hs hM (bad[i].toNat - 1)
        have hcl := hcb (bad.take i)
        have hmul : (bad.take i).length * (8 * M) ≤ 1000 * (8 * M) := Nat.mul_le_mul_right _ (by rw [List.length_take]; omega)
        refine Ev.step (fun k => by
          simp only [view_EncodeCoalition.l0]
          rw [if_pos (by omega), if_pos (by omega), if_pos (by omega), rd_nat _ _ hlt, if_pos h1, if_pos h2, if_pos (by unfold wrap64; omega), if_pos (by unfold wrap64; omega), rdL vs _ h1 h2 (by omega), encode_f _ (by omega)]) ?_
        simp only [Option.bind_some]
        refine Ev.congr (fun k => by
          rw [if_pos (by
            show (CB (bad.take i) vs).toArray.size + (EB _).toArray.size ≤ _
            rw [List.size_toArray, List.size_toArray, EB_length]; omega), mk_append, wrap_nat hlt (by omega)]) ?_
        exact hI
      · have hp : pick vs bad[i] = [] := by unfold pick; rw [if_neg (fun h => h2 h.2)]
        rw [hp, List.append_nil] at hI
        refine Ev.step (fun k => by
          simp only [view_EncodeCoalition.l0]
          rw [if_pos (by omega), if_pos (by omega), if_pos (by omega), rd_nat _ _ hlt, if_pos h1, if_neg h2, wrap_nat hlt (by omega)]) ?_
        exact hI
    · have hp : pick vs bad[i] = [] := by unfold pick; rw [if_neg (fun h => h1 h.1)]
      rw [hp, List.append_nil] at hI
      refine Ev.step (fun k => by
        simp only [view_EncodeCoalition.l0]
        rw [if_pos (by omega), if_pos (by omega), if_pos (by omega), rd_nat _ _ hlt, if_neg h1, wrap_nat hlt (by omega)]) ?_
      exact hI
theorem co_ev (bad : List Int) (vs : List (List Ve)) (M : Nat) (hM : 1 ≤ M) (hM2 : M ≤ 100000) (hb : bad.length ≤ 1000) (hv : vs.length ≤ 1000) (hs : Small M vs) : Ev (fun k => view_EncodeCoalition.f k bad vs) ⟨(CB bad vs).toArray⟩ := by
  have := coLoop bad vs M hM hM2 hb hv hs bad.length 0 (by omega) (by omega)
  exact this

theorem rcoLoop (bad : List Int) (vs : List (List Ve)) (M : Nat) (hM : 1 ≤ M) (hM2 : M ≤ 100000) (hb : bad.length ≤ 1000) (hv : vs.length ≤ 1000) (hs : Small M vs) (d : Nat) : ∀ (i : Nat), bad.length - i = d → i ≤ bad.length →
    Ev (fun k => privityref15_EncodeCoalition.l0 k bad vs ⟨(CB (bad.take i) vs).toArray⟩ (i : Int)) ⟨(CB bad vs).toArray⟩ := by
  have hcb : ∀ m : List Int, (CB m vs).length ≤ m.length * (8 * M) := by
    intro m
    induction m with
    | nil => simp [CB]
    | cons x m ih =>
      have := pick_length hs hM x
      unfold CB at ih ⊢
      rw [List.flatMap_cons, List.length_append, List.length_cons, Nat.add_mul, Nat.one_mul]
      omega
  induction d with
  | zero =>
    intro i hd hi
    obtain rfl : i = bad.length := by omega
    refine Ev.step (fun k => by simp only [privityref15_EncodeCoalition.l0]; rw [if_neg (by omega)]) ?_
    rw [List.take_length]
    exact Ev.now _
  | succ d ih =>
    intro i hd hi
    have hlt : i < bad.length := by omega
    have hnx : CB (bad.take (i + 1)) vs = CB (bad.take i) vs ++ pick vs bad[i] := by
      unfold CB
      rw [List.take_succ_eq_append_getElem hlt, List.flatMap_append]; simp
    have hI := ih (i + 1) (by omega) (by omega)
    rw [hnx] at hI
    by_cases h1 : bad[i] ≥ 1
    · by_cases h2 : bad[i] ≤ (vs.length : Int)
      · have hp : pick vs bad[i] = EB (vs.getD (bad[i].toNat - 1) []) := by unfold pick; rw [if_pos ⟨h1, h2⟩]
        rw [hp] at hI
        have hsm := getD_small hs hM (bad[i].toNat - 1)
        have hcl := hcb (bad.take i)
        have hmul : (bad.take i).length * (8 * M) ≤ 1000 * (8 * M) := Nat.mul_le_mul_right _ (by rw [List.length_take]; omega)
        refine Ev.step (fun k => by
          simp only [privityref15_EncodeCoalition.l0]
          rw [if_pos (by omega), if_pos (by omega), rd_nat _ _ hlt, if_pos h1, if_pos h2, if_pos (by unfold wrap64; omega), if_pos (by unfold wrap64; omega), rdL vs _ h1 h2 (by omega)]) ?_
        refine Ev.bind (refEncode _ (by omega)) ?_
        refine Ev.congr (fun k => by
          rw [if_pos (by
            show (CB (bad.take i) vs).toArray.size + (EB _).toArray.size ≤ _
            rw [List.size_toArray, List.size_toArray, EB_length]; omega), mk_append, wrap_nat hlt (by omega)]) ?_
        exact hI
      · have hp : pick vs bad[i] = [] := by unfold pick; rw [if_neg (fun h => h2 h.2)]
        rw [hp, List.append_nil] at hI
        refine Ev.step (fun k => by
          simp only [privityref15_EncodeCoalition.l0]
          rw [if_pos (by omega), if_pos (by omega), rd_nat _ _ hlt, if_pos h1, if_neg h2, wrap_nat hlt (by omega)]) ?_
        exact hI
    · have hp : pick vs bad[i] = [] := by unfold pick; rw [if_neg (fun h => h1 h.1)]
      rw [hp, List.append_nil] at hI
      refine Ev.step (fun k => by
        simp only [privityref15_EncodeCoalition.l0]
        rw [if_pos (by omega), if_pos (by omega), rd_nat _ _ hlt, if_neg h1, wrap_nat hlt (by omega)]) ?_
      exact hI
theorem rco_ev (bad : List Int) (vs : List (List Ve)) (M : Nat) (hM : 1 ≤ M) (hM2 : M ≤ 100000) (hb : bad.length ≤ 1000) (hv : vs.length ≤ 1000) (hs : Small M vs) : Ev (fun k => privityref15_EncodeCoalition.f k bad vs) ⟨(CB bad vs).toArray⟩ := by
  have := rcoLoop bad vs M hM hM2 hb hv hs bad.length 0 (by omega) (by omega)
  exact this

end Go.Proofs.Ytojbfgaipkllbaa.P
