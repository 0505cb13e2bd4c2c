/- What is proved: in plain Lean: a journal of which one byte was changed, in the words or the checksum of a record, decodes to the rows before that record. -/
import Derived.Test.YtaalmmnjehfimaaJawk
import Derived.Test.YtaalmmnjehfimaaCor
set_option linter.unusedVariables false
set_option linter.unusedSimpArgs false
namespace Go.Proofs.Ytaalmmnjehfimaa.P
open Go.RowKit Go.Proofs.YtaalmmnjehfimaaW.PrintWords Go.Proofs.YtaalmmnjehfimaaW.PrintLast Go.Proofs.YtaalmmnjehfimaaW.PrintMore

theorem stp_eq (m w : Int) : stp m w = ((m * 6364136223846793005) % 18446744073709551616 + w + 1) % 18446744073709551616 := by
  unfold stp
  simp only [IntKind.wrap, IntKind.bits, IntKind.signed]
  simp
  try omega
theorem stp_word {m x y : Int} (hx : U64 x) (hy : U64 y) (h : stp m x = stp m y) : x = y := by
  rw [stp_eq, stp_eq] at h
  unfold U64 at hx hy
  omega
theorem dvd_inv (M C D d : Int) (h2 : M ∣ d * C) (h3 : M ∣ C * D - 1) : M ∣ d := by
  obtain ⟨a, ha⟩ := h2
  obtain ⟨b, hb⟩ := h3
  refine ⟨a * D - d * b, ?_⟩
  have h : d * C * D = M * a * D := by rw [ha]
  rw [Int.mul_sub, ← Int.mul_assoc M a D, ← h, show M * (d * b) = d * (M * b) from Int.mul_left_comm M d b, ← hb, Int.mul_sub, Int.mul_one, Int.mul_assoc]
  generalize d * (C * D) = z
  omega
theorem inv_ok : (18446744073709551616 : Int) ∣ 6364136223846793005 * 13877824140714322085 - 1 := ⟨4787856489426250814, by omega⟩
theorem emod_sub {x y M : Int} (h : x % M = y % M) : M ∣ x - y := Int.dvd_of_emod_eq_zero (Int.emod_eq_emod_iff_emod_sub_eq_zero.1 h)
theorem stp_mark {m n w : Int} (hm : U64 m) (hn : U64 n) (h : stp m w = stp n w) : m = n := by
  rw [stp_eq, stp_eq] at h
  have h1 : (m * 6364136223846793005) % 18446744073709551616 = (n * 6364136223846793005) % 18446744073709551616 := by
    have ha := Int.emod_lt_of_pos (m * 6364136223846793005) (show (0 : Int) < 18446744073709551616 by decide)
    have ha0 := Int.emod_nonneg (m * 6364136223846793005) (show (18446744073709551616 : Int) ≠ 0 by decide)
    have hb := Int.emod_lt_of_pos (n * 6364136223846793005) (show (0 : Int) < 18446744073709551616 by decide)
    have hb0 := Int.emod_nonneg (n * 6364136223846793005) (show (18446744073709551616 : Int) ≠ 0 by decide)
    generalize (m * 6364136223846793005) % 18446744073709551616 = a at *
    generalize (n * 6364136223846793005) % 18446744073709551616 = b at *
    omega
  have h2 := emod_sub h1
  rw [← Int.sub_mul] at h2
  have h5 := dvd_inv _ _ _ (m - n) h2 inv_ok
  unfold U64 at hm hn
  clear h h1 h2
  omega
theorem fold_mark (l : List Int) : ∀ {m n : Int}, U64 m → U64 n → l.foldl stp m = l.foldl stp n → m = n := by
  induction l with
  | nil => intro m n _ _ h; exact h
  | cons x l ih => intro m n hm hn h; exact stp_mark hm hn (ih (stp_u64 _ _) (stp_u64 _ _) h)
theorem fold_set (l : List Int) : ∀ (m : Int), U64 m → (∀ x ∈ l, U64 x) → ∀ (j : Nat) (x : Int), U64 x → j < l.length → (l.set j x).foldl stp m = l.foldl stp m → l.set j x = l := by
  induction l with
  | nil => intro m _ _ j x _ h _; simp at h
  | cons y l ih =>
    intro m hm hl j x hx hj h
    cases j with
    | zero =>
      simp only [List.set_cons_zero, List.foldl_cons] at h ⊢
      rw [stp_word hx (hl y (List.mem_cons_self ..)) (fold_mark l (stp_u64 _ _) (stp_u64 _ _) h)]
    | succ j =>
      simp only [List.set_cons_succ, List.foldl_cons] at h ⊢
      rw [ih _ (stp_u64 _ _) (fun z hz => hl z (List.mem_cons_of_mem _ hz)) j x hx (by simpa using hj) h]
theorem mk_set {r : List Int} (hr : ∀ x ∈ r, U64 x) {j : Nat} {x : Int} (hx : U64 x) (hj : j < r.length) (h : mk (r.set j x) = mk r) : r.set j x = r := by
  unfold mk at h
  rw [List.length_set] at h
  exact fold_set r _ (wrapU_u64 _) hr j x hx hj h

theorem dec_set (m : Nat) : ∀ (l : List UInt8) (q : Nat) (v : UInt8), q < 8 * m → ∃ x, dec m (l.set q v) = (dec m l).set (q / 8) x := by
  induction m with
  | zero => intro l q v h; omega
  | succ m ih =>
    intro l q v h
    by_cases h8 : q < 8
    · refine ⟨(wn ((l.set q v).take 8) : Int), ?_⟩
      rw [dec, dec, List.drop_set, if_pos (by omega), show q / 8 = 0 from by omega, List.set_cons_zero]
    · obtain ⟨x, hx⟩ := ih (l.drop 8) (q - 8) v (by omega)
      refine ⟨x, ?_⟩
      rw [dec, dec, List.drop_set, if_neg (by omega), hx, show q / 8 = (q - 8) / 8 + 1 from by omega, List.set_cons_succ]
      congr 2
      rw [List.take_set_of_le (by omega)]

theorem one_bad (r : List Int) (h : r.length ≤ 1000000) (hu : ∀ x ∈ r, U64 x) (c : List UInt8) (q : Nat) (v : UInt8) (h8 : 8 ≤ q) (hq : q < 16 + 8 * r.length) (hv : (Enc.enc (rc r) ++ c)[q]? ≠ some v) :
    one ((Enc.enc (rc r) ++ c).set q v) = none := by
  cases ho : one ((Enc.enc (rc r) ++ c).set q v) with
  | none => rfl
  | some row =>
    exfalso
    have hlen := rec_length r
    obtain ⟨hn, hle⟩ := one_le ho
    rw [List.take_set_of_le (by omega), wn_len r h c] at hn
    obtain ⟨hs, hru⟩ := one_sound ho
    rw [List.set_append_left _ _ (by omega)] at hs
    have hb : (Enc.enc (rc r)).set q v = Enc.enc (rc row) := by
      have := congrArg (List.take (16 + 8 * r.length)) hs
      rw [List.take_left' (by rw [List.length_set, hlen]), List.take_left' (by rw [rec_length, hn])] at this
      exact this
    have u0 : ∀ (l : List Int), (∀ x ∈ l, U64 x) → ∀ x ∈ rc l, U64 x := by
      intro l hl x hx
      unfold rc at hx
      rcases List.mem_cons.1 hx with rfl | hx
      · exact wrapU_u64 _
      · rcases List.mem_append.1 hx with hx | hx
        · exact hl x hx
        · rw [List.mem_singleton.1 hx]; exact mk_u64 _
    have d1 : dec (r.length + 2) (Enc.enc (rc r)) = rc r := by
      have := dec_enc (rc r) [] (u0 r hu)
      rwa [rc_length, List.append_nil] at this
    have d2 : dec (r.length + 2) (Enc.enc (rc row)) = rc row := by
      have := dec_enc (rc row) [] (u0 row hru)
      rwa [rc_length, List.append_nil, hn] at this
    obtain ⟨x, hx⟩ := dec_set (r.length + 2) (Enc.enc (rc r)) q v (by omega)
    rw [hb, d1, d2] at hx
    obtain ⟨j, hj⟩ : ∃ j, q / 8 = j + 1 := ⟨q / 8 - 1, by omega⟩
    have key : rc row = rc r := by
      rw [hj] at hx
      unfold rc at hx
      rw [List.set_cons_succ] at hx
      obtain ⟨_, hx⟩ := List.cons.inj hx
      by_cases hjn : j < r.length
      · rw [List.set_append_left _ _ hjn] at hx
        obtain ⟨e1, e2⟩ := List.append_inj hx (by rw [List.length_set, hn])
        have e3 : mk row = mk r := by simpa using e2
        have hxu : U64 x := hru x (by rw [e1]; exact List.mem_set hjn x)
        rw [e1] at e3
        rw [e1, mk_set hu hxu hjn e3]
      · rw [List.set_append_right _ _ (by omega)] at hx
        obtain ⟨e1, e2⟩ := List.append_inj hx hn
        rw [e1]
    rw [key] at hb
    apply hv
    have := congrArg (fun l => l[q]?) hb
    simp only [List.getElem?_set_self (show q < (Enc.enc (rc r)).length by omega)] at this
    rw [List.getElem?_append_left (by omega), ← this]

theorem bad_dec {rows : List (List Int)} (hok : Ok rows) (k : Nat) (hk : k < rows.length) (q : Nat) (v : UInt8) (h8 : 8 ≤ q) (hq : q < 16 + 8 * rows[k].length) (hv : (EJ rows)[(EJ (rows.take k)).length + q]? ≠ some v) :
    ∃ rest, Dec ((EJ rows).set ((EJ (rows.take k)).length + q) v) (rows.take k) rest ∧ rest.length = (EJ rows).length - (EJ (rows.take k)).length := by
  have e : EJ rows = EJ (rows.take k) ++ (Enc.enc (rc rows[k]) ++ EJ (rows.drop (k + 1))) := by
    rw [← EJ_cons, ← List.drop_eq_getElem_cons hk, ← EJ_split]
  have hv2 : (Enc.enc (rc rows[k]) ++ EJ (rows.drop (k + 1)))[q]? ≠ some v := by
    rw [e, List.getElem?_append_right (by omega), Nat.add_sub_cancel_left] at hv; exact hv
  have e2 : (EJ rows).set ((EJ (rows.take k)).length + q) v = EJ (rows.take k) ++ (Enc.enc (rc rows[k]) ++ EJ (rows.drop (k + 1))).set q v := by
    conv => lhs; rw [e]
    rw [List.set_append_right _ _ (by omega), Nat.add_sub_cancel_left]
  refine ⟨(Enc.enc (rc rows[k]) ++ EJ (rows.drop (k + 1))).set q v, ?_, ?_⟩
  · rw [e2]
    have hr := hok rows[k] (List.getElem_mem hk)
    have := Dec.app (rows := rows.take k) ((fun r hr => hok r (List.mem_of_mem_take hr))) (Dec.stop (one_bad rows[k] hr.1 hr.2 (EJ (rows.drop (k + 1))) q v h8 hq hv2))
    rwa [List.append_nil] at this
  · have el := congrArg List.length e
    rw [List.length_append] at el
    rw [List.length_set, el, Nat.add_sub_cancel_left]

theorem tmod_nat (a b : Nat) : Int.tmod (a : Int) (b : Int) = ((a % b : Nat) : Int) := (Int.ofNat_tmod a b).symm
theorem patch_eq (b : List UInt8) (p : Nat) (c : Int) (hp : p < b.length) (hl : b.length ≤ 140737488355328) : patch.f ⟨b.toArray⟩ (p : Int) c = some ⟨(b.set p (UInt8.ofNat ((b[p].toNat + c) % 256).toNat)).toArray⟩ := by
  unfold patch.f
  rw [gate_eq, if_pos (by rw [decide_eq_true_eq, sz]; omega), bt_nat b p hp, wrap8, Int.toNat_natCast]
theorem pickT {t E : Nat} (g : t = E ∨ 4000 < t ∧ 4000 < E) (h : E ≤ 4000) : t = E := by omega
theorem w64 {z : Int} {m : Nat} (h : z = (m : Int)) (hm : m ≤ 9223372036854775807) : wrap64 z = (m : Int) := by subst h; unfold wrap64; omega
theorem w8 (n : Nat) (h : n ≤ 1000000) : wrap64 (8 + wrap64 (8 * (n : Int))) = ((8 + 8 * n : Nat) : Int) := by
  rw [w64 (show 8 * (n : Int) = ((8 * n : Nat) : Int) by omega) (by omega)]
  exact w64 (by omega) (by omega)
theorem wpq (E q : Nat) (h : E ≤ 4000) (hq : q ≤ 10000000) : wrap64 (wrap64 ((E : Int) + 8) + (q : Int)) = ((E + (8 + q) : Nat) : Int) := by
  rw [w64 (show (E : Int) + 8 = ((E + 8 : Nat) : Int) by omega) (by omega)]
  exact w64 (by omega) (by omega)
theorem wsub (T E : Nat) (h : E ≤ T) (hT : T ≤ 4000) : wrap64 ((T : Int) - (E : Int)) = ((T - E : Nat) : Int) := w64 (by omega) (by omega)
theorem corTail (rows : List (List Int)) (hs : (EJ rows).length ≤ 4000) (ha : Arg rows) (u v : Nat) (hu : u ≤ 65535) (hv : v ≤ 65535) (c : Int) (hc : 0 < c) (hc2 : c < 256) (h0 : 0 < rows.length) :
    Ev (fun k => privitylaw48_JournalDetectsCorruption.j0 k rows c false (u : Int) (v : Int)) true := by
  have hok := ha.ok (Nat.le_trans hs (by decide))
  have hr := EJ_rows rows
  have hk : u % rows.length < rows.length := Nat.mod_lt _ h0
  obtain ⟨k0, hk0⟩ : ∃ k0, u % rows.length = k0 := ⟨_, rfl⟩
  rw [hk0] at hk
  have wu : wrap64 (u : Int) = (u : Int) := w64 rfl (by omega)
  have wv : wrap64 (v : Int) = (v : Int) := w64 rfl (by omega)
  have ek : Int.tmod (wrap64 (u : Int)) (rows.length : Int) = (k0 : Int) := by rw [wu, tmod_nat, hk0]
  have hE4 := hs
  clear hE4
  have h1 := (hok _ (List.getElem_mem hk)).1
  have es := EJ_take_succ rows k0 hk
  have hle := EJ_take rows (k0 + 1)
  obtain ⟨n, hn⟩ : ∃ n, rows[k0].length = n := ⟨_, rfl⟩
  obtain ⟨E, hE⟩ : ∃ E, (EJ (rows.take k0)).length = E := ⟨_, rfl⟩
  obtain ⟨T, hT⟩ : ∃ T, (EJ rows).length = T := ⟨_, rfl⟩
  rw [hn, hE] at es
  rw [es, hT] at hle
  rw [hn] at h1
  rw [hT] at hr
  have hTs : T ≤ 4000 := by rw [← hT]; exact hs
  have HE := Aside0.mk hE
  have HT := Aside0.mk hT
  have HN := Aside0.mk hn
  have HS := Aside0.mk hs
  have HK := Aside0.mk hk0
  clear hE hT hn hs es hk0
  have p0 : (0 : Int) ≤ (k0 : Int) := Int.natCast_nonneg k0
  have p1 : (k0 : Int) ≤ (rows.length : Int) := Int.ofNat_le.2 (Nat.le_of_lt hk)
  have p2 : (k0 : Int) < (rows.length : Int) := Int.ofNat_lt.2 hk
  have p3 : ¬ ((8 + 8 * n : Nat) : Int) = 0 := fun h => by have := Int.ofNat_inj.1 h; omega
  have p4 : ¬ (rows.length : Int) = 0 := fun h => by have := Int.ofNat_inj.1 h; omega
  have e8 : wrap64 (8 + wrap64 (8 * ((rd_L1 rows (k0 : Int)).length : Int))) = ((8 + 8 * n : Nat) : Int) := by
    rw [rdL1 rows k0 hk, HN.out]; exact w8 n h1
  have hq : v % (8 + 8 * n) < 8 + 8 * n := Nat.mod_lt _ (by omega)
  obtain ⟨q, hq0⟩ : ∃ q, v % (8 + 8 * n) = q := ⟨_, rfl⟩
  rw [hq0] at hq
  have ep : wrap64 (wrap64 ((E : Int) + 8) + Int.tmod (wrap64 (v : Int)) ((8 + 8 * n : Nat) : Int)) = ((E + (8 + q) : Nat) : Int) := by
    rw [wv, tmod_nat, hq0]; exact wpq E q (by omega) (by omega)
  obtain ⟨t1, ht1, g1⟩ := total_ev (rows.take k0) ⟨by rw [List.length_take]; have := ha.1; omega, fun r hr => ha.2 r (List.mem_of_mem_take hr)⟩ 4000 (by decide)
  obtain ⟨t2, ht2, g2⟩ := total_ev rows ha 4000 (by decide)
  rw [HE.out] at g1
  rw [HT.out] at g2
  have hE4 : E ≤ 4000 := Nat.le_trans (Nat.le_trans (Nat.le_add_right _ _) hle) hTs
  have te1 : t1 = E := pickT g1 hE4
  have te2 : t2 = T := pickT g2 hTs
  rw [te1] at ht1
  rw [te2] at ht2
  clear g1 g2 te1 te2
  refine Ev.step (fun k => by
    simp only [privitylaw48_JournalDetectsCorruption.j0, Bool.false_eq_true, if_false, if_neg p4, ek, if_pos p0, if_pos p1, if_pos p2, e8, if_neg p3, Int.toNat_natCast]; rfl) ?_
  refine Ev.bind (encode_ev rows (Nat.le_trans HS.out (by decide))) ?_
  refine Ev.bind ht1 ?_
  refine Ev.bind ht2 ?_
  have ew := wsub T E (Nat.le_trans (Nat.le_add_right _ _) hle) hTs
  have Hep := Aside0.mk ep
  have Hew := Aside0.mk ew
  clear e8 ep ek wu wv ew p0 p1 p2 p3 p4
  have hpl : E + (8 + q) < (EJ rows).length := by rw [HT.out]; omega
  have hpe := patch_eq (EJ rows) (E + (8 + q)) c hpl (by rw [HT.out]; omega)
  simp only [sz, HT.out, if_true, Hep.out, hpe, Option.bind_some]
  obtain ⟨rest, hd, hrl⟩ := bad_dec hok k0 hk (8 + q) (UInt8.ofNat (((EJ rows)[E + (8 + q)].toNat + c) % 256).toNat) (Nat.le_add_right 8 q) (by rw [HN.out]; clear hpe hpl; omega) (by
    rw [HE.out, List.getElem?_eq_getElem hpl]
    intro he
    have he2 := congrArg UInt8.toNat (Option.some.inj he)
    have hb := (EJ rows)[E + (8 + q)].toNat_lt
    rw [UInt8.toNat_ofNat'] at he2
    clear he hpe
    generalize (EJ rows)[E + (8 + q)].toNat = z at *
    clear hpl
    omega)
  rw [HE.out] at hd hrl
  rw [HT.out] at hrl
  clear hpe
  refine Ev.bind (jdecode_ev hd (by rw [List.length_set, HT.out]; omega)) ?_
  refine Ev.bind (same_ev (rows.take k0) (rows.take k0) (by rw [List.length_take]; omega) (fun r h => by have := (hok r (List.mem_of_mem_take h)).1; omega)) ?_
  simp only [decide_true, if_true, hrl, Hew.out, beq_self_eq_true]
  exact Ev.now _
theorem corruption (rows : List (List Int)) (ha : Arg rows) (x y c : Int) (hx : (Lit.int .u16 x).wf = true) (hy : (Lit.int .u16 y).wf = true) (hc : (Lit.int .u8 c).wf = true) :
    Ev (fun k => privitylaw48_JournalDetectsCorruption.f k rows x y c) true := by
  simp [Lit.wf, IntKind.min, IntKind.max, IntKind.bits, IntKind.signed] at hx hy hc
  obtain ⟨u, rfl, hu⟩ : ∃ m : Nat, x = (m : Int) ∧ m ≤ 65535 := ⟨x.toNat, by omega, by omega⟩
  obtain ⟨v, rfl, hv⟩ : ∃ m : Nat, y = (m : Int) ∧ m ≤ 65535 := ⟨y.toNat, by omega, by omega⟩
  have hj : Ev (fun k => privitylaw48_JournalDetectsCorruption.j0 k rows c true (u : Int) (v : Int)) true := Ev.step (fun k => by simp only [privitylaw48_JournalDetectsCorruption.j0, if_true]) (Ev.now _)
  unfold privitylaw48_JournalDetectsCorruption.f
  refine Ev.bind awake_ev ?_
  simp only [if_true]
  obtain ⟨t, ht, h⟩ := total_ev rows ha 4000 (by decide)
  refine Ev.bind ht ?_
  by_cases h2 : (t : Int) > 4000
  · simp only [h2, if_true]; exact hj
  · have hs : (EJ rows).length ≤ 4000 := by rcases h with rfl | ⟨h, _⟩ <;> omega
    simp only [h2, if_false]
    by_cases h3 : (rows.length : Int) = 0
    · simp only [h3, if_true]; exact hj
    · simp only [h3, if_false]
      by_cases h4 : c = 0
      · subst h4; simp only [beq_self_eq_true]; exact hj
      · rw [show (c == 0) = false from beq_eq_false_iff_ne.mpr h4]
        exact corTail rows hs ha u v hu hv c (by omega) (by omega) (by omega)
end Go.Proofs.Ytaalmmnjehfimaa.P
