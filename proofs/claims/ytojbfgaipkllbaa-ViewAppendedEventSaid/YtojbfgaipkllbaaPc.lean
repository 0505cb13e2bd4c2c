/- What is proved: in plain Lean: what the encodings of views and coalitions are, for views of moderate size; a few fixed results. -/
import Derived.Test.YtojbfgaipkllbaaPb
import Derived.Test.YtojbfgaipkllbaaPx9
set_option linter.unusedVariables false
set_option linter.unusedSimpArgs false
namespace Go.Proofs.Ytojbfgaipkllbaa.P
open Go.RowKit Go.Proofs.YtojbfgaipkllbaaW.PrintWords Go.Proofs.YtojbfgaipkllbaaW.PrintLast Go.Proofs.YtojbfgaipkllbaaW.PrintMore

/-- The bytes of a view. -/
def EB (l : List Ve) : List UInt8 := Enc.enc (lw (l.map evw))
/-- At most so many events, each with at most so many words. -/
def few (l : List Ve) (a b : Nat) : Bool := decide (l.length ≤ a) && l.all fun e => decide (e.f2.length ≤ b)
theorem few_len {l : List Ve} {a b : Nat} (h : few l a b = true) : l.length ≤ a ∧ ∀ e ∈ l, e.f2.length ≤ b := by
  simp [few] at h; exact h

theorem lw_few {l : List Ve} {a b : Nat} (h : few l a b = true) : (lw (l.map evw)).length ≤ 1 + a * (b + 3) := by
  obtain ⟨h1, h2⟩ := few_len h
  have key : ∀ m : List Ve, (∀ e ∈ m, e.f2.length ≤ b) → ((m.map evw).flatMap lg).length ≤ m.length * (b + 3) := by
    intro m
    induction m with
    | nil => intro _; simp
    | cons x m ih =>
      intro hm
      have hx := hm x (List.mem_cons_self ..)
      have := ih (fun e he => hm e (List.mem_cons_of_mem _ he))
      have hl : (lg (evw x)).length = x.f2.length + 3 := by simp [lg_length, evw]
      simp only [List.map_cons, List.flatMap_cons, List.length_append, List.length_cons, hl, Nat.add_mul, Nat.one_mul] at this ⊢
      omega
  have hk := key l h2
  have : l.length * (b + 3) ≤ a * (b + 3) := Nat.mul_le_mul_right _ h1
  have hb : (lw (l.map evw)).length = 1 + ((l.map evw).flatMap lg).length := by simp [lw]; omega
  omega

theorem encode_f (l : List Ve) (h : (lw (l.map evw)).length < 17592186044416) : view_Encode.f l = some ⟨(EB l).toArray⟩ := by
  unfold view_Encode.f
  rw [gate_eq, if_pos (by rw [decide_eq_true_eq]; exact h)]; rfl

theorem rlLoop (l : List (List Int)) (hl : l.length ≤ 9223372036854775807) (r : ByteArray) (d : Nat) : ∀ (i : Nat) (acc : List Int), l.length - i = d → i ≤ l.length → acc.length + ((l.drop i).flatMap lg).length < 17592186044416 →
    Ev (fun k => privityref03_EncodeWords.f k (acc ++ (l.drop i).flatMap lg)) r → Ev (fun k => privityref03_EncodeLists.l0 k l acc (i : Int)) r := by
  induction d with
  | zero =>
    intro i acc hd hi hb h
    refine Ev.step (fun k => by simp only [privityref03_EncodeLists.l0]; rw [if_neg (by omega)]) ?_
    rw [List.drop_of_length_le (by omega), List.flatMap_nil, List.append_nil] at h
    exact Ev.bind h (Ev.now _)
  | succ d ih =>
    intro i acc hd hi hb h
    have hlt : i < l.length := by omega
    have hrd : rd_L1 l (i : Int) = l[i] := by simp [rd_L1, hlt]
    rw [List.drop_eq_getElem_cons hlt, List.flatMap_cons, List.length_append, lg_length] at hb
    refine Ev.step (fun k => by
      simp only [privityref03_EncodeLists.l0]
      rw [if_pos (by omega), if_pos (by omega), if_pos (by omega), hrd]) ?_
    simp only [Option.bind_some]
    refine Ev.congr (fun k => by rw [if_pos (by rw [List.length_append, List.length_singleton]; omega), wrap_nat hlt hl]) ?_
    refine ih (i + 1) _ (by omega) (by omega) (by rw [List.length_append, List.length_append, List.length_singleton]; omega) ?_
    rw [List.drop_eq_getElem_cons hlt, List.flatMap_cons] at h
    simpa [lg] using h
theorem refLists (l : List (List Int)) (h : (lw l).length < 17592186044416) : Ev (fun k => privityref03_EncodeLists.f k l) ⟨(Enc.enc (lw l)).toArray⟩ := by
  have hf := flat_le l
  have hb : (lw l).length = 1 + (l.flatMap lg).length := by simp [lw]; omega
  refine rlLoop l (by omega) _ l.length 0 _ (by omega) (by omega) (by rw [List.drop_zero, List.length_singleton]; omega) ?_
  exact refWords (lw l) (by omega)

theorem reLoop (l : List Ve) (hl : l.length ≤ 5864062014805) (hw : ∀ e ∈ l, e.f2.length + 2 < 17592186044416) (r : ByteArray) (d : Nat) : ∀ (i : Nat), l.length - i = d → i ≤ l.length →
    Ev (fun k => privityref03_EncodeLists.f k (l.map evw)) r → Ev (fun k => privityref15_Encode.l0 k l ((l.take i).map evw) (i : Int)) r := by
  induction d with
  | zero =>
    intro i hd hi h
    obtain rfl : i = l.length := by omega
    refine Ev.step (fun k => by simp only [privityref15_Encode.l0]; rw [if_neg (by omega)]) ?_
    rw [List.take_length]
    exact Ev.bind h (Ev.now _)
  | succ d ih =>
    intro i hd hi h
    have hlt : i < l.length := by omega
    refine Ev.step (fun k => by
      simp only [privityref15_Encode.l0]
      rw [if_pos (by omega), if_pos (by omega), rdT _ _ hlt]) ?_
    simp only [Option.bind_some]
    refine Ev.congr (fun k => by
      rw [if_pos (by have := hw _ (List.getElem_mem hlt); simp; omega), if_pos (by simp; omega), wrap_nat hlt (by omega),
        show (l.take i).map evw ++ [[IntKind.u64.wrap l[i].f0, IntKind.u64.wrap l[i].f1] ++ l[i].f2] = (l.take (i + 1)).map evw from by rw [List.take_succ_eq_append_getElem hlt, List.map_append]; rfl]) ?_
    exact ih (i + 1) (by omega) (by omega) h
theorem refEncode (l : List Ve) (h : (lw (l.map evw)).length < 17592186044416) : Ev (fun k => privityref15_Encode.f k l) ⟨(EB l).toArray⟩ := by
  have hb : (lw (l.map evw)).length = 1 + ((l.map evw).flatMap lg).length := by simp [lw]; omega
  obtain ⟨h1, h2⟩ := ev_bound l h
  have hw : ∀ e ∈ l, e.f2.length + 2 < 17592186044416 := by
    have key : ∀ m : List Ve, ∀ e ∈ m, e.f2.length + 3 ≤ ((m.map evw).flatMap lg).length := by
      intro m
      induction m with
      | nil => intro e he; cases he
      | cons x m ih =>
        intro e he
        have hx : (lg (evw x)).length = x.f2.length + 3 := by simp [lg_length, evw]
        simp only [List.map_cons, List.flatMap_cons, List.length_append, hx]
        rcases List.mem_cons.1 he with rfl | he
        · omega
        · have := ih e he; omega
    intro e he
    have := key l e he
    omega
  exact reLoop l h1 hw _ l.length 0 (by omega) (by omega) (refLists _ h)

theorem fewLoop (l : List Ve) (hl : l.length ≤ 9223372036854775807) (b : Nat) (d : Nat) : ∀ (i : Nat), l.length - i = d → i ≤ l.length → Ev (fun k => privityref15_Few.l0 k l (b : Int) (i : Int)) ((l.drop i).all fun e => decide (e.f2.length ≤ b)) := by
  induction d with
  | zero =>
    intro i hd hi
    refine Ev.step (fun k => by simp only [privityref15_Few.l0]; rw [if_neg (by omega)]) ?_
    rw [List.drop_of_length_le (by omega)]
    exact Ev.now _
  | succ d ih =>
    intro i hd hi
    have hlt : i < l.length := by omega
    rw [List.drop_eq_getElem_cons hlt, List.all_cons]
    by_cases he : l[i].f2.length ≤ b
    · refine Ev.step (fun k => by simp only [privityref15_Few.l0]; rw [if_pos (by omega), if_pos (by omega), rdT _ _ hlt, if_neg (by omega), wrap_nat hlt hl]) ?_
      rw [decide_eq_true he, Bool.true_and]
      exact ih (i + 1) (by omega) (by omega)
    · refine Ev.step (fun k => by simp only [privityref15_Few.l0]; rw [if_pos (by omega), if_pos (by omega), rdT _ _ hlt, if_pos (by omega)]) ?_
      rw [decide_eq_false he, Bool.false_and]
      exact Ev.now _
theorem few_ev (l : List Ve) (hl : l.length ≤ 9223372036854775807) (a b : Nat) : Ev (fun k => privityref15_Few.f k l (a : Int) (b : Int)) (few l a b) := by
  unfold privityref15_Few.f few
  by_cases h : l.length ≤ a
  · have h' : ¬ ((l.length : Int) > (a : Int)) := by omega
    simp only [h', if_false, h, decide_true, Bool.true_and]
    have := fewLoop l hl b l.length 0 (by omega) (by omega)
    simpa using this
  · have h' : (l.length : Int) > (a : Int) := by omega
    simp only [h', if_true, h, decide_false, Bool.false_and]
    exact Ev.now _

/-- The bytes of a coalition's views. -/
def pick (vs : List (List Ve)) (i : Int) : List UInt8 := if 1 ≤ i ∧ i ≤ (vs.length : Int) then EB (vs.getD (i.toNat - 1) []) else []
def CB (bad : List Int) (vs : List (List Ve)) : List UInt8 := bad.flatMap (pick vs)
theorem rdL (vs : List (List Ve)) (i : Int) (h0 : 1 ≤ i) (h1 : i ≤ (vs.length : Int)) (h2 : i ≤ 9223372036854775807) : rd_L4 vs (wrap64 (i - 1)) = vs.getD (i.toNat - 1) [] := by
  rw [show wrap64 (i - 1) = i - 1 from by unfold wrap64; omega]
  unfold rd_L4
  rw [show (i - 1).toNat = i.toNat - 1 from by omega]

/-- Views whose encodings are small. -/
def Small (M : Nat) (vs : List (List Ve)) : Prop := ∀ v ∈ vs, (lw (v.map evw)).length ≤ M
theorem EB_length (l : List Ve) : (EB l).length = 8 * (lw (l.map evw)).length := by unfold EB; rw [Enc.enc_length]
theorem getD_small {M : Nat} {vs : List (List Ve)} (h : Small M vs) (hM : 1 ≤ M) (n : Nat) : (lw ((vs.getD n []).map evw)).length ≤ M := by
  rw [List.getD_eq_getElem?_getD]
  rcases Nat.lt_or_ge n vs.length with hlt | hge
  · rw [List.getElem?_eq_getElem hlt, Option.getD_some]; exact h _ (List.getElem_mem hlt)
  · rw [List.getElem?_eq_none hge, Option.getD_none]; simpa [lw] using hM
theorem pick_length {M : Nat} {vs : List (List Ve)} (h : Small M vs) (hM : 1 ≤ M) (i : Int) : (pick vs i).length ≤ 8 * M := by
  unfold pick
  split
  · rw [EB_length]; have := getD_small h hM (i.toNat - 1); omega
  · simp
theorem mk_append (a b : List UInt8) : (ByteArray.mk a.toArray) ++ (ByteArray.mk b.toArray) = ByteArray.mk (a ++ b).toArray := by
  apply ByteArray.ext
  simp

theorem coLoop (bad : List Int) (vs : List (List Ve)) (M : Nat) (hM : 1 ≤ M) (hM2 : M ≤ 100000) (hb : bad.length ≤ 1000) (hv : vs.length ≤ 1000) (hs : Small M vs) (d : Nat) : ∀ (i : Nat), bad.length - i = d → i ≤ bad.length →
    Ev (fun k => view_EncodeCoalition.l0 k vs ⟨(CB (bad.take i) vs).toArray⟩ bad (bad.length : Int) (i : Int)) ⟨(CB bad vs).toArray⟩ := by
  have hcb : ∀ m : List Int, (CB m vs).length ≤ m.length * (8 * M) := by
    intro m
    induction m with
    | nil => simp [CB]
    | cons x m ih =>
      have := pick_length hs hM x
      unfold CB at ih ⊢
      rw [List.flatMap_cons, List.length_append, List.length_cons, Nat.add_mul, Nat.one_mul]
      omega
  induction d with
  | zero =>
    intro i hd hi
    obtain rfl : i = bad.length := by omega
    refine Ev.step (fun k => by simp only [view_EncodeCoalition.l0]; rw [if_neg (by omega)]) ?_
    rw [List.take_length]
    exact Ev.now _
  | succ d ih =>
    intro i hd hi
    have hlt : i < bad.length := by omega
    have hnx : CB (bad.take (i + 1)) vs = CB (bad.take i) vs ++ pick vs bad[i] := by
      unfold CB
      rw [List.take_succ_eq_append_getElem hlt, List.flatMap_append]; simp
    have hI := ih (i + 1) (by omega) (by omega)
    rw [hnx] at hI
    by_cases h1 : bad[i] ≥ 1
    · by_cases h2 : bad[i] ≤ (vs.length : Int)
      · have hp : pick vs bad[i] = EB (vs.getD (bad[i].toNat - 1) []) := by unfold pick; rw [if_pos ⟨h1, h2⟩]
        rw [hp] at hI
        have hsm := getD_small hs hM (bad[i].toNat - 1)
        have hcl := hcb (bad.take i)
        have hmul : (bad.take i).length * (8 * M) ≤ 1000 * (8 * M) := Nat.mul_le_mul_right _ (by rw [List.length_take]; omega)
        refine Ev.step (fun k => by
          simp only [view_EncodeCoalition.l0]
          rw [if_pos (by omega), if_pos (by omega), if_pos (by omega), rd_nat _ _ hlt, if_pos h1, if_pos h2, if_pos (by unfold wrap64; omega), if_pos (by unfold wrap64; omega), rdL vs _ h1 h2 (by omega), encode_f _ (by omega)]) ?_
        simp only [Option.bind_some]
        refine Ev.congr (fun k => by
          rw [if_pos (by
            show (CB (bad.take i) vs).toArray.size + (EB _).toArray.size ≤ _
            rw [List.size_toArray, List.size_toArray, EB_length]; omega), mk_append, wrap_nat hlt (by omega)]) ?_
        exact hI
      · have hp : pick vs bad[i] = [] := by unfold pick; rw [if_neg (fun h => h2 h.2)]
        rw [hp, List.append_nil] at hI
        refine Ev.step (fun k => by
          simp only [view_EncodeCoalition.l0]
          rw [if_pos (by omega), if_pos (by omega), if_pos (by omega), rd_nat _ _ hlt, if_pos h1, if_neg h2, wrap_nat hlt (by omega)]) ?_
        exact hI
    · have hp : pick vs bad[i] = [] := by unfold pick; rw [if_neg (fun h => h1 h.1)]
      rw [hp, List.append_nil] at hI
      refine Ev.step (fun k => by
        simp only [view_EncodeCoalition.l0]
        rw [if_pos (by omega), if_pos (by omega), if_pos (by omega), rd_nat _ _ hlt, if_neg h1, wrap_nat hlt (by omega)]) ?_
      exact hI
theorem co_ev (bad : List Int) (vs : List (List Ve)) (M : Nat) (hM : 1 ≤ M) (hM2 : M ≤ 100000) (hb : bad.length ≤ 1000) (hv : vs.length ≤ 1000) (hs : Small M vs) : Ev (fun k => view_EncodeCoalition.f k bad vs) ⟨(CB bad vs).toArray⟩ := by
  have := coLoop bad vs M hM hM2 hb hv hs bad.length 0 (by omega) (by omega)
  exact this

theorem rcoLoop (bad : List Int) (vs : List (List Ve)) (M : Nat) (hM : 1 ≤ M) (hM2 : M ≤ 100000) (hb : bad.length ≤ 1000) (hv : vs.length ≤ 1000) (hs : Small M vs) (d : Nat) : ∀ (i : Nat), bad.length - i = d → i ≤ bad.length →
    Ev (fun k => privityref15_EncodeCoalition.l0 k bad vs ⟨(CB (bad.take i) vs).toArray⟩ (i : Int)) ⟨(CB bad vs).toArray⟩ := by
  have hcb : ∀ m : List Int, (CB m vs).length ≤ m.length * (8 * M) := by
    intro m
    induction m with
    | nil => simp [CB]
    | cons x m ih =>
      have := pick_length hs hM x
      unfold CB at ih ⊢
      rw [List.flatMap_cons, List.length_append, List.length_cons, Nat.add_mul, Nat.one_mul]
      omega
  induction d with
  | zero =>
    intro i hd hi
    obtain rfl : i = bad.length := by omega
    refine Ev.step (fun k => by simp only [privityref15_EncodeCoalition.l0]; rw [if_neg (by omega)]) ?_
    rw [List.take_length]
    exact Ev.now _
  | succ d ih =>
    intro i hd hi
    have hlt : i < bad.length := by omega
    have hnx : CB (bad.take (i + 1)) vs = CB (bad.take i) vs ++ pick vs bad[i] := by
      unfold CB
      rw [List.take_succ_eq_append_getElem hlt, List.flatMap_append]; simp
    have hI := ih (i + 1) (by omega) (by omega)
    rw [hnx] at hI
    by_cases h1 : bad[i] ≥ 1
    · by_cases h2 : bad[i] ≤ (vs.length : Int)
      · have hp : pick vs bad[i] = EB (vs.getD (bad[i].toNat - 1) []) := by unfold pick; rw [if_pos ⟨h1, h2⟩]
        rw [hp] at hI
        have hsm := getD_small hs hM (bad[i].toNat - 1)
        have hcl := hcb (bad.take i)
        have hmul : (bad.take i).length * (8 * M) ≤ 1000 * (8 * M) := Nat.mul_le_mul_right _ (by rw [List.length_take]; omega)
        refine Ev.step (fun k => by
          simp only [privityref15_EncodeCoalition.l0]
          rw [if_pos (by omega), if_pos (by omega), rd_nat _ _ hlt, if_pos h1, if_pos h2, if_pos (by unfold wrap64; omega), if_pos (by unfold wrap64; omega), rdL vs _ h1 h2 (by omega)]) ?_
        refine Ev.bind (refEncode _ (by omega)) ?_
        refine Ev.congr (fun k => by
          rw [if_pos (by
            show (CB (bad.take i) vs).toArray.size + (EB _).toArray.size ≤ _
            rw [List.size_toArray, List.size_toArray, EB_length]; omega), mk_append, wrap_nat hlt (by omega)]) ?_
        exact hI
      · have hp : pick vs bad[i] = [] := by unfold pick; rw [if_neg (fun h => h2 h.2)]
        rw [hp, List.append_nil] at hI
        refine Ev.step (fun k => by
          simp only [privityref15_EncodeCoalition.l0]
          rw [if_pos (by omega), if_pos (by omega), rd_nat _ _ hlt, if_pos h1, if_neg h2, wrap_nat hlt (by omega)]) ?_
        exact hI
    · have hp : pick vs bad[i] = [] := by unfold pick; rw [if_neg (fun h => h1 h.1)]
      rw [hp, List.append_nil] at hI
      refine Ev.step (fun k => by
        simp only [privityref15_EncodeCoalition.l0]
        rw [if_pos (by omega), if_pos (by omega), rd_nat _ _ hlt, if_neg h1, wrap_nat hlt (by omega)]) ?_
      exact hI
theorem rco_ev (bad : List Int) (vs : List (List Ve)) (M : Nat) (hM : 1 ≤ M) (hM2 : M ≤ 100000) (hb : bad.length ≤ 1000) (hv : vs.length ≤ 1000) (hs : Small M vs) : Ev (fun k => privityref15_EncodeCoalition.f k bad vs) ⟨(CB bad vs).toArray⟩ := by
  have := rcoLoop bad vs M hM hM2 hb hv hs bad.length 0 (by omega) (by omega)
  exact this

def U64 (x : Int) : Prop := 0 ≤ x ∧ x < 18446744073709551616
def I64 (x : Int) : Prop := -9223372036854775808 ≤ x ∧ x ≤ 9223372036854775807
theorem wrapU_u64 (x : Int) : U64 (IntKind.u64.wrap x) := by
  unfold U64; simp [IntKind.wrap, IntKind.bits, IntKind.signed]; omega
theorem wrapU_nat (n : Nat) (h : n < 18446744073709551616) : IntKind.u64.wrap (n : Int) = (n : Int) := by
  simp [IntKind.wrap, IntKind.bits, IntKind.signed]; omega
theorem wrapU_inj {x y : Int} (hx : I64 x) (hy : I64 y) (h : IntKind.u64.wrap x = IntKind.u64.wrap y) : x = y := by
  unfold I64 at hx hy; simp [IntKind.wrap, IntKind.bits, IntKind.signed] at h; omega
theorem u64_of_wf {n : Int} (h : (Lit.int .u64 n).wf = true) : U64 n := by
  simp [Lit.wf, IntKind.min, IntKind.max, IntKind.bits, IntKind.signed] at h; unfold U64; omega
theorem i64_of_wf {n : Int} (h : (Lit.int .i64 n).wf = true) : I64 n := by
  simp [Lit.wf, IntKind.min, IntKind.max, IntKind.bits, IntKind.signed] at h; unfold I64; omega

theorem upto_inj {x y : Int} (hx : U64 x) (hy : U64 y) (h : Enc.upto x 8 = Enc.upto y 8) : x = y := by
  have hb : ∀ k, k < 8 → (x / 2 ^ (8 * k)) % 256 = (y / 2 ^ (8 * k)) % 256 := by
    intro k hk
    have h1 : (Enc.upto x 8)[k]? = (Enc.upto y 8)[k]? := by rw [h]
    have h2 : Enc.byteAt x k = Enc.byteAt y k := by simpa [Enc.upto, hk] using h1
    rw [← Enc.byteAt_toNat, ← Enc.byteAt_toNat, h2]
  have b0 := hb 0 (by omega)
  have b1 := hb 1 (by omega)
  have b2 := hb 2 (by omega)
  have b3 := hb 3 (by omega)
  have b4 := hb 4 (by omega)
  have b5 := hb 5 (by omega)
  have b6 := hb 6 (by omega)
  have b7 := hb 7 (by omega)
  unfold U64 at hx hy
  simp only [Nat.reduceMul, Int.reducePow] at b0 b1 b2 b3 b4 b5 b6 b7
  omega

theorem enc_inj : ∀ (a b : List Int), (∀ x ∈ a, U64 x) → (∀ x ∈ b, U64 x) → Enc.enc a = Enc.enc b → a = b := by
  intro a
  induction a with
  | nil =>
    intro b _ _ h
    have := congrArg List.length h
    rw [Enc.enc_length, Enc.enc_length] at this
    cases b with
    | nil => rfl
    | cons y b => simp at this
  | cons x a ih =>
    intro b ha hb h
    cases b with
    | nil =>
      have := congrArg List.length h
      rw [Enc.enc_length, Enc.enc_length] at this
      simp at this
    | cons y b =>
      have e : ∀ (z : Int) (l : List Int), Enc.enc (z :: l) = Enc.upto z 8 ++ Enc.enc l := fun z l => by simp [Enc.enc]
      rw [e, e] at h
      obtain ⟨h1, h2⟩ := List.append_inj h (by rw [Enc.upto_length, Enc.upto_length])
      rw [upto_inj (ha _ (List.mem_cons_self ..)) (hb _ (List.mem_cons_self ..)) h1, ih b (fun z hz => ha z (List.mem_cons_of_mem _ hz)) (fun z hz => hb z (List.mem_cons_of_mem _ hz)) h2]

theorem enc_take (l : List Int) (n : Nat) : (Enc.enc l).take (8 * n) = Enc.enc (l.take n) := by
  induction l generalizing n with
  | nil => simp [Enc.enc]
  | cons x l ih =>
    cases n with
    | zero => simp [Enc.enc]
    | succ n =>
      have e : ∀ (z : Int) (l : List Int), Enc.enc (z :: l) = Enc.upto z 8 ++ Enc.enc l := fun z l => by simp [Enc.enc]
      rw [List.take_succ_cons, e, e, ← ih, show 8 * (n + 1) = 8 + 8 * n from by omega, List.take_append, Enc.upto_length, List.take_of_length_le (by rw [Enc.upto_length]; omega), show 8 + 8 * n - 8 = 8 * n from by omega]

/-- Lists of words, each behind its length, tell where they end. -/
theorem flat_inj : ∀ (a b : List (List Int)), a.length = b.length → (∀ x ∈ a, x.length < 18446744073709551616) → (∀ x ∈ b, x.length < 18446744073709551616) → ∀ s t : List Int, a.flatMap lg ++ s = b.flatMap lg ++ t → a = b ∧ s = t := by
  intro a
  induction a with
  | nil =>
    intro b hl _ _ s t h
    cases b with
    | nil => exact ⟨rfl, by simpa using h⟩
    | cons y b => simp at hl
  | cons x a ih =>
    intro b hl ha hb s t h
    cases b with
    | nil => simp at hl
    | cons y b =>
      simp only [List.flatMap_cons, lg, List.cons_append, List.append_assoc, List.cons.injEq] at h
      obtain ⟨h1, h2⟩ := h
      rw [wrapU_nat _ (ha _ (List.mem_cons_self ..)), wrapU_nat _ (hb _ (List.mem_cons_self ..))] at h1
      obtain ⟨h3, h4⟩ := List.append_inj h2 (by omega)
      obtain ⟨h5, h6⟩ := ih b (by simpa using hl) (fun z hz => ha z (List.mem_cons_of_mem _ hz)) (fun z hz => hb z (List.mem_cons_of_mem _ hz)) s t h4
      exact ⟨by rw [h3, h5], h6⟩
theorem lw_inj (a b : List (List Int)) (hla : a.length < 18446744073709551616) (hlb : b.length < 18446744073709551616) (ha : ∀ x ∈ a, x.length < 18446744073709551616) (hb : ∀ x ∈ b, x.length < 18446744073709551616) (s t : List Int) (h : lw a ++ s = lw b ++ t) : a = b ∧ s = t := by
  simp only [lw, List.cons_append, List.cons.injEq] at h
  rw [wrapU_nat _ hla, wrapU_nat _ hlb] at h
  exact flat_inj a b (by omega) ha hb s t h.2

/-- An event's numbers and words are of their kinds. -/
def Ok1 (e : Ve) : Prop := I64 e.f0 ∧ I64 e.f1 ∧ ∀ x ∈ e.f2, U64 x
theorem evw_inj {x y : Ve} (hx : Ok1 x) (hy : Ok1 y) (h : evw x = evw y) : x = y := by
  simp [evw] at h
  obtain ⟨h0, h1, h2⟩ := h
  have e0 := wrapU_inj hx.1 hy.1 h0
  have e1 := wrapU_inj hx.2.1 hy.2.1 h1
  cases x; cases y
  simp only at e0 e1 h2
  rw [e0, e1, h2]
theorem map_evw_inj : ∀ (a b : List Ve), (∀ e ∈ a, Ok1 e) → (∀ e ∈ b, Ok1 e) → a.map evw = b.map evw → a = b := by
  intro a
  induction a with
  | nil => intro b _ _ h; cases b with
    | nil => rfl
    | cons y b => simp at h
  | cons x a ih =>
    intro b ha hb h
    cases b with
    | nil => simp at h
    | cons y b =>
      simp only [List.map_cons, List.cons.injEq] at h
      rw [evw_inj (ha _ (List.mem_cons_self ..)) (hb _ (List.mem_cons_self ..)) h.1, ih b (fun z hz => ha z (List.mem_cons_of_mem _ hz)) (fun z hz => hb z (List.mem_cons_of_mem _ hz)) h.2]

theorem evw_u64 {e : Ve} (h : Ok1 e) : ∀ x ∈ evw e, U64 x := by
  intro x hx
  simp [evw] at hx
  rcases hx with rfl | rfl | hx
  · exact wrapU_u64 _
  · exact wrapU_u64 _
  · exact h.2.2 x hx
theorem lw_u64 {l : List Ve} (h : ∀ e ∈ l, Ok1 e) : ∀ x ∈ lw (l.map evw), U64 x := by
  intro x hx
  simp only [lw, List.mem_cons, List.mem_flatMap, List.mem_map] at hx
  rcases hx with rfl | ⟨y, ⟨e, he, rfl⟩, hx⟩
  · exact wrapU_u64 _
  · simp only [lg, List.mem_cons] at hx
    rcases hx with rfl | hx
    · exact wrapU_u64 _
    · exact evw_u64 (h e he) x hx

theorem few_bounds {l : List Ve} {a b : Nat} (h : few l a b = true) (ha : a ≤ 1000) (hb : b ≤ 1000) : (l.map evw).length < 18446744073709551616 ∧ ∀ x ∈ l.map evw, x.length < 18446744073709551616 := by
  obtain ⟨h1, h2⟩ := few_len h
  refine ⟨by rw [List.length_map]; omega, fun x hx => ?_⟩
  obtain ⟨e, he, rfl⟩ := List.mem_map.1 hx
  have := h2 e he
  simp [evw]; omega

theorem EB_inj {a b : List Ve} {p q : Nat} (ha : few a p q = true) (hb : few b p q = true) (hp : p ≤ 1000) (hq : q ≤ 1000) (oa : ∀ e ∈ a, Ok1 e) (ob : ∀ e ∈ b, Ok1 e) (h : EB a = EB b) : a = b := by
  have h1 := enc_inj _ _ (lw_u64 oa) (lw_u64 ob) h
  obtain ⟨b1, b2⟩ := few_bounds ha hp hq
  obtain ⟨b3, b4⟩ := few_bounds hb hp hq
  have h2 := lw_inj (a.map evw) (b.map evw) b1 b3 b2 b4 [] [] (by simpa using h1)
  exact map_evw_inj a b oa ob h2.1

theorem EB_begin {a b : List Ve} {p q : Nat} (ha : few a p q = true) (hb : few b p q = true) (hp : p ≤ 1000) (hq : q ≤ 1000) (oa : ∀ e ∈ a, Ok1 e) (ob : ∀ e ∈ b, Ok1 e) (h : (EB b).take (EB a).length = EB a) : a = b := by
  rw [EB_length, EB, enc_take, EB] at h
  have h1 := enc_inj _ _ (fun x hx => lw_u64 ob x (List.mem_of_mem_take hx)) (lw_u64 oa) h
  obtain ⟨b1, b2⟩ := few_bounds ha hp hq
  obtain ⟨b3, b4⟩ := few_bounds hb hp hq
  have h2 := lw_inj (a.map evw) (b.map evw) b1 b3 b2 b4 ((lw (b.map evw)).drop (lw (a.map evw)).length) [] (by
    rw [List.append_nil]
    conv => lhs; lhs; rw [← h1]
    exact List.take_append_drop _ _)
  exact map_evw_inj a b oa ob h2.1

/-- Of equally many views: the joined encodings tell them all. -/
theorem join_inj : ∀ (a b : List (List Ve)) {p q : Nat}, p ≤ 1000 → q ≤ 1000 → a.length = b.length → (∀ v ∈ a, few v p q = true ∧ ∀ e ∈ v, Ok1 e) → (∀ v ∈ b, few v p q = true ∧ ∀ e ∈ v, Ok1 e) →
    a.flatMap EB = b.flatMap EB → a = b := by
  intro a b p q hp hq hl ha hb h
  have e : ∀ l : List (List Ve), l.flatMap EB = Enc.enc (l.flatMap fun v => lw (v.map evw)) := by
    intro l
    induction l with
    | nil => rfl
    | cons x l ih => rw [List.flatMap_cons, List.flatMap_cons, Enc.enc_append, ih]; rfl
  rw [e, e] at h
  have hu : ∀ l : List (List Ve), (∀ v ∈ l, few v p q = true ∧ ∀ e ∈ v, Ok1 e) → ∀ x ∈ l.flatMap (fun v => lw (v.map evw)), U64 x := by
    intro l hl x hx
    obtain ⟨v, hv, hx⟩ := List.mem_flatMap.1 hx
    exact lw_u64 (hl v hv).2 x hx
  have h1 := enc_inj _ _ (hu a ha) (hu b hb) h
  clear h e hu
  induction a generalizing b with
  | nil => cases b with
    | nil => rfl
    | cons y b => simp at hl
  | cons x a ih =>
    cases b with
    | nil => simp at hl
    | cons y b =>
      rw [List.flatMap_cons, List.flatMap_cons] at h1
      obtain ⟨fx, ox⟩ := ha x (List.mem_cons_self ..)
      obtain ⟨fy, oy⟩ := hb y (List.mem_cons_self ..)
      obtain ⟨b1, b2⟩ := few_bounds fx hp hq
      obtain ⟨b3, b4⟩ := few_bounds fy hp hq
      obtain ⟨h2, h3⟩ := lw_inj _ _ b1 b3 b2 b4 _ _ h1
      rw [map_evw_inj x y ox oy h2, ih b (by simpa using hl) (fun v hv => ha v (List.mem_cons_of_mem _ hv)) (fun v hv => hb v (List.mem_cons_of_mem _ hv)) h3]

end Go.Proofs.Ytojbfgaipkllbaa.P
