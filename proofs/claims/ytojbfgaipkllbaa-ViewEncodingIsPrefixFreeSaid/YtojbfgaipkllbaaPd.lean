/- What is proved: in plain Lean: the encoding of lists of words as bytes is injective, and no encoding of a list of lists begins another. -/
import Derived.Test.YtojbfgaipkllbaaPc
set_option linter.unusedVariables false
set_option linter.unusedSimpArgs false
namespace Go.Proofs.Ytojbfgaipkllbaa.P
open Go.RowKit Go.Proofs.YtojbfgaipkllbaaW.PrintWords Go.Proofs.YtojbfgaipkllbaaW.PrintLast Go.Proofs.YtojbfgaipkllbaaW.PrintMore

def U64 (x : Int) : Prop := 0 ≤ x ∧ x < 18446744073709551616
def I64 (x : Int) : Prop := -9223372036854775808 ≤ x ∧ x ≤ 9223372036854775807
theorem wrapU_u64 (x : Int) : U64 (IntKind.u64.wrap x) := by
  unfold U64; simp [IntKind.wrap, IntKind.bits, IntKind.signed]; omega
theorem wrapU_nat (n : Nat) (h : n < 18446744073709551616) : IntKind.u64.wrap (n : Int) = (n : Int) := by
  simp [IntKind.wrap, IntKind.bits, IntKind.signed]; omega
theorem wrapU_inj {x y : Int} (hx : I64 x) (hy : I64 y) (h : IntKind.u64.wrap x = IntKind.u64.wrap y) : x = y := by
  unfold I64 at hx hy; simp [IntKind.wrap, IntKind.bits, IntKind.signed] at h; omega
theorem u64_of_wf {n : Int} (h : (Lit.int .u64 n).wf = true) : U64 n := by
  simp [Lit.wf, IntKind.min, IntKind.max, IntKind.bits, IntKind.signed] at h; unfold U64; omega
theorem i64_of_wf {n : Int} (h : (Lit.int .i64 n).wf = true) : I64 n := by
  simp [Lit.wf, IntKind.min, IntKind.max, IntKind.bits, IntKind.signed] at h; unfold I64; omega

theorem upto_inj {x y : Int} (hx : U64 x) (hy : U64 y) (h : Enc.upto x 8 = Enc.upto y 8) : x = y := by
  have hb : ∀ k, k < 8 → (x / 2 ^ (8 * k)) % 256 = (y / 2 ^ (8 * k)) % 256 := by
    intro k hk
    have h1 : (Enc.upto x 8)[k]? = (Enc.upto y 8)[k]? := by rw [h]
    have h2 : Enc.byteAt x k = Enc.byteAt y k := by simpa [Enc.upto, hk] using h1
    rw [← Enc.byteAt_toNat, ← Enc.byteAt_toNat, h2]
  have b0 := hb 0 (by omega)
  have b1 := hb 1 (by omega)
  have b2 := hb 2 (by omega)
  have b3 := hb 3 (by omega)
  have b4 := hb 4 (by omega)
  have b5 := hb 5 (by omega)
  have b6 := hb 6 (by omega)
  have b7 := hb 7 (by omega)
  unfold U64 at hx hy
  simp only [Nat.reduceMul, Int.reducePow] at b0 b1 b2 b3 b4 b5 b6 b7
  omega

theorem enc_inj : ∀ (a b : List Int), (∀ x ∈ a, U64 x) → (∀ x ∈ b, U64 x) → Enc.enc a = Enc.enc b → a = b := by
  intro a
  induction a with
  | nil =>
    intro b _ _ h
    have := congrArg List.length h
    rw [Enc.enc_length, Enc.enc_length] at this
    cases b with
    | nil => rfl
    | cons y b => simp at this
  | cons x a ih =>
    intro b ha hb h
    cases b with
    | nil =>
      have := congrArg List.length h
      rw [Enc.enc_length, Enc.enc_length] at this
      simp at this
    | cons y b =>
      have e : ∀ (z : Int) (l : List Int), Enc.enc (z :: l) = Enc.upto z 8 ++ Enc.enc l := fun z l => by simp [Enc.enc]
      rw [e, e] at h
      obtain ⟨h1, h2⟩ := List.append_inj h (by rw [Enc.upto_length, Enc.upto_length])
      rw [upto_inj (ha _ (List.mem_cons_self ..)) (hb _ (List.mem_cons_self ..)) h1, ih b (fun z hz => ha z (List.mem_cons_of_mem _ hz)) (fun z hz => hb z (List.mem_cons_of_mem _ hz)) h2]

theorem enc_take (l : List Int) (n : Nat) : (Enc.enc l).take (8 * n) = Enc.enc (l.take n) := by
  induction l generalizing n with
  | nil => simp [Enc.enc]
  | cons x l ih =>
    cases n with
    | zero => simp [Enc.enc]
    | succ n =>
      have e : ∀ (z : Int) (l : List Int), Enc.enc (z :: l) = Enc.upto z 8 ++ Enc.enc l := fun z l => by simp [Enc.enc]
      rw [List.take_succ_cons, e, e, ← ih, show 8 * (n + 1) = 8 + 8 * n from by omega, List.take_append, Enc.upto_length, List.take_of_length_le (by rw [Enc.upto_length]; omega), show 8 + 8 * n - 8 = 8 * n from by omega]

/-- Lists of words, each behind its length, tell where they end. -/
theorem flat_inj : ∀ (a b : List (List Int)), a.length = b.length → (∀ x ∈ a, x.length < 18446744073709551616) → (∀ x ∈ b, x.length < 18446744073709551616) → ∀ s t : List Int, a.flatMap lg ++ s = b.flatMap lg ++ t → a = b ∧ s = t := by
  intro a
  induction a with
  | nil =>
    intro b hl _ _ s t h
    cases b with
    | nil => exact ⟨rfl, by simpa using h⟩
    | cons y b => simp at hl
  | cons x a ih =>
    intro b hl ha hb s t h
    cases b with
    | nil => simp at hl
    | cons y b =>
      simp only [List.flatMap_cons, lg, List.cons_append, List.append_assoc, List.cons.injEq] at h
      obtain ⟨h1, h2⟩ := h
      rw [wrapU_nat _ (ha _ (List.mem_cons_self ..)), wrapU_nat _ (hb _ (List.mem_cons_self ..))] at h1
      obtain ⟨h3, h4⟩ := List.append_inj h2 (by omega)
      obtain ⟨h5, h6⟩ := ih b (by simpa using hl) (fun z hz => ha z (List.mem_cons_of_mem _ hz)) (fun z hz => hb z (List.mem_cons_of_mem _ hz)) s t h4
      exact ⟨by rw [h3, h5], h6⟩
theorem lw_inj (a b : List (List Int)) (hla : a.length < 18446744073709551616) (hlb : b.length < 18446744073709551616) (ha : ∀ x ∈ a, x.length < 18446744073709551616) (hb : ∀ x ∈ b, x.length < 18446744073709551616) (s t : List Int) (h : lw a ++ s = lw b ++ t) : a = b ∧ s = t := by
  simp only [lw, List.cons_append, List.cons.injEq] at h
  rw [wrapU_nat _ hla, wrapU_nat _ hlb] at h
  exact flat_inj a b (by omega) ha hb s t h.2

/-- An event's numbers and words are of their kinds. -/
def Ok1 (e : Ve) : Prop := I64 e.f0 ∧ I64 e.f1 ∧ ∀ x ∈ e.f2, U64 x
theorem evw_inj {x y : Ve} (hx : Ok1 x) (hy : Ok1 y) (h : evw x = evw y) : x = y := by
  simp [evw] at h
  obtain ⟨h0, h1, h2⟩ := h
  have e0 := wrapU_inj hx.1 hy.1 h0
  have e1 := wrapU_inj hx.2.1 hy.2.1 h1
  cases x; cases y
  simp only at e0 e1 h2
  rw [e0, e1, h2]
theorem map_evw_inj : ∀ (a b : List Ve), (∀ e ∈ a, Ok1 e) → (∀ e ∈ b, Ok1 e) → a.map evw = b.map evw → a = b := by
  intro a
  induction a with
  | nil => intro b _ _ h; cases b with
    | nil => rfl
    | cons y b => simp at h
  | cons x a ih =>
    intro b ha hb h
    cases b with
    | nil => simp at h
    | cons y b =>
      simp only [List.map_cons, List.cons.injEq] at h
      rw [evw_inj (ha _ (List.mem_cons_self ..)) (hb _ (List.mem_cons_self ..)) h.1, ih b (fun z hz => ha z (List.mem_cons_of_mem _ hz)) (fun z hz => hb z (List.mem_cons_of_mem _ hz)) h.2]

theorem evw_u64 {e : Ve} (h : Ok1 e) : ∀ x ∈ evw e, U64 x := by
  intro x hx
  simp [evw] at hx
  rcases hx with rfl | rfl | hx
  · exact wrapU_u64 _
  · exact wrapU_u64 _
  · exact h.2.2 x hx
theorem lw_u64 {l : List Ve} (h : ∀ e ∈ l, Ok1 e) : ∀ x ∈ lw (l.map evw), U64 x := by
  intro x hx
  simp only [lw, List.mem_cons, List.mem_flatMap, List.mem_map] at hx
  rcases hx with rfl | ⟨y, ⟨e, he, rfl⟩, hx⟩
  · exact wrapU_u64 _
  · simp only [lg, List.mem_cons] at hx
    rcases hx with rfl | hx
    · exact wrapU_u64 _
    · exact evw_u64 (h e he) x hx

theorem few_bounds {l : List Ve} {a b : Nat} (h : few l a b = true) (ha : a ≤ 1000) (hb : b ≤ 1000) : (l.map evw).length < 18446744073709551616 ∧ ∀ x ∈ l.map evw, x.length < 18446744073709551616 := by
  obtain ⟨h1, h2⟩ := few_len h
  refine ⟨by rw [List.length_map]; omega, fun x hx => ?_⟩
  obtain ⟨e, he, rfl⟩ := List.mem_map.1 hx
  have := h2 e he
  simp [evw]; omega

theorem EB_inj {a b : List Ve} {p q : Nat} (ha : few a p q = true) (hb : few b p q = true) (hp : p ≤ 1000) (hq : q ≤ 1000) (oa : ∀ e ∈ a, Ok1 e) (ob : ∀ e ∈ b, Ok1 e) (h : EB a = EB b) : a = b := by
  have h1 := enc_inj _ _ (lw_u64 oa) (lw_u64 ob) h
  obtain ⟨b1, b2⟩ := few_bounds ha hp hq
  obtain ⟨b3, b4⟩ := few_bounds hb hp hq
  have h2 := lw_inj (a.map evw) (b.map evw) b1 b3 b2 b4 [] [] (by simpa using h1)
  exact map_evw_inj a b oa ob h2.1

theorem EB_begin {a b : List Ve} {p q : Nat} (ha : few a p q = true) (hb : few b p q = true) (hp : p ≤ 1000) (hq : q ≤ 1000) (oa : ∀ e ∈ a, Ok1 e) (ob : ∀ e ∈ b, Ok1 e) (h : (EB b).take (EB a).length = EB a) : a = b := by
  rw [EB_length, EB, enc_take, EB] at h
  have h1 := enc_inj _ _ (fun x hx => lw_u64 ob x (List.mem_of_mem_take hx)) (lw_u64 oa) h
  obtain ⟨b1, b2⟩ := few_bounds ha hp hq
  obtain ⟨b3, b4⟩ := few_bounds hb hp hq
  have h2 := lw_inj (a.map evw) (b.map evw) b1 b3 b2 b4 ((lw (b.map evw)).drop (lw (a.map evw)).length) [] (by
    rw [List.append_nil]
    conv => lhs; lhs; rw [← h1]
    exact List.take_append_drop _ _)
  exact map_evw_inj a b oa ob h2.1

/-- Of equally many views: the joined encodings tell them all. -/
theorem join_inj : ∀ (a b : List (List Ve)) {p q : Nat}, p ≤ 1000 → q ≤ 1000 → a.length = b.length → (∀ v ∈ a, few v p q = true ∧ ∀ e ∈ v, Ok1 e) → (∀ v ∈ b, few v p q = true ∧ ∀ e ∈ v, Ok1 e) →
    a.flatMap EB = b.flatMap EB → a = b := by
  intro a b p q hp hq hl ha hb h
  have e : ∀ l : List (List Ve), l.flatMap EB = Enc.enc (l.flatMap fun v => lw (v.map evw)) := by
    intro l
    induction l with
    | nil => rfl
    | cons x l ih => rw [List.flatMap_cons, List.flatMap_cons, Enc.enc_append, ih]; rfl
  rw [e, e] at h
  have hu : ∀ l : List (List Ve), (∀ v ∈ l, few v p q = true ∧ ∀ e ∈ v, Ok1 e) → ∀ x ∈ l.flatMap (fun v => lw (v.map evw)), U64 x := by
    intro l hl x hx
    obtain ⟨v, hv, hx⟩ := List.mem_flatMap.1 hx
    exact lw_u64 (hl v hv).2 x hx
  have h1 := enc_inj _ _ (hu a ha) (hu b hb) h
  clear h e hu
  induction a generalizing b with
  | nil => cases b with
    | nil => rfl
    | cons y b => simp at hl
  | cons x a ih =>
    cases b with
    | nil => simp at hl
    | cons y b =>
      rw [List.flatMap_cons, List.flatMap_cons] at h1
      obtain ⟨fx, ox⟩ := ha x (List.mem_cons_self ..)
      obtain ⟨fy, oy⟩ := hb y (List.mem_cons_self ..)
      obtain ⟨b1, b2⟩ := few_bounds fx hp hq
      obtain ⟨b3, b4⟩ := few_bounds fy hp hq
      obtain ⟨h2, h3⟩ := lw_inj _ _ b1 b3 b2 b4 _ _ h1
      rw [map_evw_inj x y ox oy h2, ih b (by simpa using hl) (fun v hv => ha v (List.mem_cons_of_mem _ hv)) (fun v hv => hb v (List.mem_cons_of_mem _ hv)) h3]

end Go.Proofs.Ytojbfgaipkllbaa.P
