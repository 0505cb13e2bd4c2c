/- What is proved here: a part of the proof of ElectionTally: Eaw, Px74, Ety, PureElectionTally. No conditions beside those that each theorem states. -/
import Derived.Test.YtkgdhdjkpnalmaaGreatDoorKETly44
import Derived.Test.YtkgdhdjkpnalmaaGreatDoorKETly43
import Derived.KernelRfl
import Derived.Test.YtkgdhdjkpnalmaaGreatDoorKETly3
set_option linter.unusedVariables false
set_option linter.unusedSimpArgs false
section
namespace Go.Proofs.YtkgdhdjkpnalmaaGreatDoor.P
open Go.RowKit Go.Proofs.YtkgdhdjkpnalmaaGreatDoorW.PrintWords Go.Proofs.YtkgdhdjkpnalmaaGreatDoorW.PrintLast Go.Proofs.YtkgdhdjkpnalmaaGreatDoorW.PrintMore
def tk43 : List S92 := (lexT 400 0 (progL 4 3)).getD []
set_option maxRecDepth 100000 in
theorem aw_lex : lexT 400 0 (progL 4 3) = some tk43 := by kernel_rfl
set_option maxRecDepth 100000 in
theorem aw_len : tk43.length = 169 := by kernel_rfl
set_option maxRecDepth 100000 in
theorem aw_parse : zae.f 80 tk43 0 false = some (insE 2 4, [], bodyE 4 3, 169, false) := by kernel_rfl
set_option maxRecDepth 100000 in
theorem aw_valid : zbh.f 80 (insE 2 4) [] (bodyE 4 3) = some true := by kernel_rfl
set_option maxRecDepth 100000 in
theorem aw_check : zcx.f 80 (insE 2 4) [] (bodyE 4 3) = some 0 := by kernel_rfl
set_option maxRecDepth 100000 in
theorem aw_fit : za8.f 80 (insE 2 4) [] (bodyE 4 3) [[2], [0], [2], [3]] = some true := by kernel_rfl
set_option maxRecDepth 100000 in
theorem aw_ins : insOk 80 (insE 2 4) [[2], [0], [2], [3]] = true := by kernel_rfl
set_option maxRecDepth 100000 in
theorem aw_outs : outs 80 ((insE 2 4).map (·.f0)) (heads [[2], [0], [2], [3]] 4) (bodyE 4 3) = some [1, 0, 2] := by kernel_rfl
theorem aw_run : zci.f 80 (insE 2 4) [] (bodyE 4 3) [[2], [0], [2], [3]] = some ([1, 0, 2], 0) := by
 unfold zci.f; rw [if_pos ⟨⟨aw_check, aw_fit⟩, ⟨by decide, by decide, by decide, by decide, by decide⟩, aw_ins⟩]
 have e : (insE 2 4).length = 4 := by decide
 rw [e, aw_outs]; rfl
set_option maxRecDepth 100000 in
theorem aw_plen : (progL 4 3).length = 335 := by kernel_rfl
set_option maxRecDepth 100000 in
theorem aw_fair : fair (progL 4 3) = true := by kernel_rfl
theorem aw_prog : Ev (fun k => zb8.f k ⟨(progL 4 3).toArray⟩) (insE 2 4, [], bodyE 4 3, 0, 0) := by
 unfold zb8.f; refine Ev.bind (lex_ok (progL 4 3) (by rw [aw_plen]; omega) aw_fair 400 tk43 aw_lex) (Ev.pos rfl (Ev.bind (Ev.of (fun k => zae.mono _ _ _ k) aw_parse) (Ev.neg (by decide) (Ev.neg ?_ (Ev.bind (Ev.of (fun k => zbh.mono _ _ _ k) aw_valid) (Ev.pos rfl (Ev.now _)))))))
 show ¬ ((169 : Int) < ((tk43.length : Nat) : Int))
 rw [aw_len]
 decide
theorem aw_w1 : zao.f 80 [1, 0, 2] [1, 0, 2] = some true := by kernel_rfl
theorem aw_tally : election_Tally.f 80 [2, 0, 2, 3] 3 = some [1, 0, 2] := by kernel_rfl
theorem awake_ev : Ev (fun k => zbd.f k) true := by
 have p1 : election_Program.f 4 3 = some (⟨(progL 4 3).toArray⟩, 0) := by
  unfold election_Program.f; rw [if_neg (by decide)]; rfl
 have p2 : election_Program.f 4 9 = some (⟨#[]⟩, 2) := by
  unfold election_Program.f; rw [if_pos (by decide)]
 have hw := Ev.of (fun k => zao.mono _ _ k) aw_w1; unfold zbd.f; refine Ev.val p1 (Ev.bind aw_prog (Ev.pos rfl ?_))
 have e0 : (((0 : Int) != 0) : Bool) = false := by decide
 show Ev (fun k => zbd.j0 k ((0 : Int) != 0) (insE 2 4) [] (bodyE 4 3)) true
 rw [e0]; refine Ev.step (fun k => by rw [zbd.j0, if_neg (by decide)]) ?_; exact Ev.bind (Ev.of (fun k => zci.mono _ _ _ _ k) aw_run) (Ev.val p2 (Ev.pos rfl (Ev.bind hw (Ev.pos rfl (Ev.bind (Ev.of (fun k => election_Tally.mono _ _ k) aw_tally) (Ev.bind hw (Ev.pos rfl (Ev.now _))))))))
theorem zbd.calls (k : Nat) (r : Bool) (w : World) (h : zbd.f k = some r) :
  Calls Tryz.prog 14 #[] w fun e w' => e = .returned (.bool r) ∧ Below w.heap.size w w' := by
 obtain ⟨K, hK⟩ := awake_ev; have h1 := hK (max K k) (Nat.le_max_left _ _); have h2 := at_rounds (g := fun k => zbd.f k) (fun k => zbd.mono k) (Nat.le_max_right K k) h; exact zbd.callsT k r w (Option.some.inj (h2.symm.trans h1)) h
end Go.Proofs.YtkgdhdjkpnalmaaGreatDoor.P
end
section
namespace Go.Proofs.YtkgdhdjkpnalmaaGreatDoor.P
open Go.RowKit Go.Proofs.YtkgdhdjkpnalmaaGreatDoorW.PrintWords Go.Proofs.YtkgdhdjkpnalmaaGreatDoorW.PrintLast Go.Proofs.YtkgdhdjkpnalmaaGreatDoorW.PrintMore
attribute [local go_sem] zcd zcc zck zcl zb3 zb2 zca zcb
def privitylaw50_ElectionTally.f (k : Nat) (l0 : List Int) (a1 : Int) : Option (Bool) := if (l0.length : Int) > 100 then ((zbd.f k).bind fun t729 => (some t729)) else ((zbd.f k).bind fun t730 => (if t730 = true then ((election_Tally.f k l0 (wrap64 (2 + (Int.tmod (wrap64 (a1)) 7)))).bind fun t731 => ((zb6.f k l0 (wrap64 (2 + (Int.tmod (wrap64 (a1)) 7)))).bind fun t734 => ((zao.f k t731 t734).bind fun t737 => (some t737)))) else (some false)))
set_option maxHeartbeats 8000000 in
set_option maxRecDepth 100000 in
theorem privitylaw50_ElectionTally.calls (k : Nat) (A0 : Option Addr) (c0 : Nat) (l0 : List Int) (a1 : Int) (r : Bool) (w : World) (hr0 : Kd.C (Kd.int .u64) w A0 l0.length l0) (hc0 : l0.length ≤ c0) (h : privitylaw50_ElectionTally.f k l0 a1 = some r) :
  Calls Tryz.prog 4 #[.slice A0 l0.length c0, .int .u8 a1] w fun e w' => e = .returned (.bool r) ∧ Below w.heap.size w w' := by
 have HR0 := zA0 hr0; have HC0 := zA0 hc0; clear hr0 hc0; have HB := zA0 (Below.refl w.heap.size w); have H : (if (l0.length : Int) > 100 then ((zbd.f k).bind fun t729 => (some t729)) else ((zbd.f k).bind fun t730 => (if t730 = true then ((election_Tally.f k l0 (wrap64 (2 + (Int.tmod (wrap64 (a1)) 7)))).bind fun t731 => ((zb6.f k l0 (wrap64 (2 + (Int.tmod (wrap64 (a1)) 7)))).bind fun t734 => ((zao.f k t731 t734).bind fun t737 => (some t737)))) else (some false)))) = some r := h; clear h
 by_cases c3 : (l0.length : Int) > 100
 ·rw [if_pos c3] at H
  have c3b0 : decide (100 < (l0.length : Int)) = true := decide_eq_true c3; have c3b1 : decide (100 < l0.length) = true := decide_eq_true (by omega); clear c3; replace H := Option.bind_eq_some_iff.mp H; obtain ⟨t729, A40, H⟩ := H; replace H : (some t729) = some r := H; have A4 := zA0 A40; clear A40; obtain rfl := Option.some.inj H; go_enter Tryz.func4, Tryz.ntmps4
  go_wp2_with (first | ((with_reducible refine zax (f := 14) rfl ?_); refine zcg (some 9) rfl rfl Tryz.func14 (by kernel_rfl) rfl #[] rfl zt ?_; (with_reducible refine (zbd.calls k  t729 _ A4.out).mono ?_); rintro e w5 ⟨rfl, hb⟩; refine ⟨_, rfl, ?_⟩; have n0_ := zA0 (zak (zs0 HB) hb); clear HB; revert n0_; intro HB; clear hb))
  go_ret; exact ⟨yq6, zs0 HB⟩
 ·rw [if_neg c3] at H
  have c3b0 : decide (100 < (l0.length : Int)) = false := decide_eq_false c3; have c3b1 : decide (100 < l0.length) = false := decide_eq_false (by omega); clear c3; replace H := Option.bind_eq_some_iff.mp H; obtain ⟨t730, A60, H⟩ := H; replace H : (if t730 = true then ((election_Tally.f k l0 (wrap64 (2 + (Int.tmod (wrap64 (a1)) 7)))).bind fun t731 => ((zb6.f k l0 (wrap64 (2 + (Int.tmod (wrap64 (a1)) 7)))).bind fun t734 => ((zao.f k t731 t734).bind fun t737 => (some t737)))) else (some false)) = some r := H; have A6 := zA0 A60; clear A60
  by_cases c7 : t730 = true
  ·subst c7
   have H1 : ((election_Tally.f k l0 (wrap64 (2 + (Int.tmod (wrap64 (a1)) 7)))).bind fun t731 => ((zb6.f k l0 (wrap64 (2 + (Int.tmod (wrap64 (a1)) 7)))).bind fun t734 => ((zao.f k t731 t734).bind fun t737 => (some t737)))) = some r := yq37
   clear H; have H := H1; clear H1; replace H := Option.bind_eq_some_iff.mp H; obtain ⟨t731, A80, H⟩ := H; replace H : ((zb6.f k l0 (wrap64 (2 + (Int.tmod (wrap64 (a1)) 7)))).bind fun t734 => ((zao.f k t731 t734).bind fun t737 => (some t737))) = some r := H; have A8 := zA0 A80; clear A80; replace H := Option.bind_eq_some_iff.mp H; obtain ⟨t734, A90, H⟩ := H; replace H : ((zao.f k t731 t734).bind fun t737 => (some t737)) = some r := H; have A9 := zA0 A90; clear A90; replace H := Option.bind_eq_some_iff.mp H; obtain ⟨t737, A100, H⟩ := H; replace H : (some t737) = some r := H; have A10 := zA0 A100; clear A100; obtain rfl := Option.some.inj H; go_enter Tryz.func4, Tryz.ntmps4
   go_wp2_with (first | ((with_reducible refine zax (f := 14) rfl ?_); refine zcg (some 14) rfl rfl Tryz.func14 (by kernel_rfl) rfl #[] rfl zt ?_; (with_reducible refine (zbd.calls k  true _ A6.out).mono ?_); rintro e w11 ⟨rfl, hb⟩; refine ⟨_, rfl, ?_⟩; have n0_ := zA0 (zak (zs0 HB) hb); clear HB; revert n0_; intro HB; clear hb) | (go_at_call 17; (with_reducible refine (election_Tally.calls k _ _ l0 (wrap64 (2 + (Int.tmod (wrap64 (a1)) 7))) t731 _ ?side1 ?side2 A8.out).mono ?_); (case side1 => exact yq173); (case side2 => exact HC0.out); rintro e w12 ⟨v732, rfl, ho0, hb⟩; have n0_ := zA0 (Kd.R_lower ho0 (zce (zs0 HB))); have n1_ := zA0 (zak (zs0 HB) hb); clear HB; revert n0_ n1_; intro HO733 HB; clear hb ho0) | (go_at_call 16; (with_reducible refine (zb6.calls k _ _ l0 (wrap64 (2 + (Int.tmod (wrap64 (a1)) 7))) t734 _ ?side1 ?side2 A9.out).mono ?_); (case side1 => exact yq173); (case side2 => exact HC0.out); rintro e w13 ⟨v735, rfl, ho0, hb⟩; have n0_ := zA0 (Kd.R_elder' (zrR HO733) (Kd.R_base ho0) hb); have n1_ := zA0 (Kd.R_lower (Kd.R_new' ho0 (Kd.R_lt (zrR HO733))) (zce (zs0 HB))); have n2_ := zA0 (zak (zs0 HB) hb); clear HO733 HB; revert n0_ n1_ n2_; intro HO733 HO736 HB; clear hb ho0; obtain ⟨Ao14, co14, eo14⟩ := Kd.R_slice HO733.out; subst eo14; obtain ⟨Ao15, co15, eo15⟩ := Kd.R_slice HO736.out; subst eo15) | (go_at_call 15; (with_reducible refine (zao.calls k _ _ t731 _ _ t734 t737 _ ?side1 ?side2 ?side3 ?side4 A10.out).mono ?_); (case side1 => exact (by repeat (first | exact (Kd.R_reads' HO733.out).2.2 | (with_reducible refine Kd.C_alloc ?_ _) | (with_reducible refine Kd.C_drewN ?_ _) | (with_reducible refine Kd.C_drew ?_)))); (case side2 => exact (Kd.R_reads' HO733.out).2.1); (case side3 => exact (by repeat (first | exact (Kd.R_reads' HO736.out).2.2 | (with_reducible refine Kd.C_alloc ?_ _) | (with_reducible refine Kd.C_drewN ?_ _) | (with_reducible refine Kd.C_drew ?_)))); (case side4 => exact (Kd.R_reads' HO736.out).2.1); rintro e w' ⟨rfl, ⟨nd, rfl⟩⟩))
   go_ret; exact ⟨yq6, zs0 HB⟩
  ·replace c7 := Bool.eq_false_iff.mpr c7
   subst c7
   have H1 : (some false) = some r := yq12
   clear H; have H := H1; clear H1; obtain rfl := Option.some.inj H; go_enter Tryz.func4, Tryz.ntmps4
   go_wp2_with (first | ((with_reducible refine zax (f := 14) rfl ?_); refine zcg (some 14) rfl rfl Tryz.func14 (by kernel_rfl) rfl #[] rfl zt ?_; (with_reducible refine (zbd.calls k  false _ A6.out).mono ?_); rintro e w16 ⟨rfl, hb⟩; refine ⟨_, rfl, ?_⟩; have n0_ := zA0 (zak (zs0 HB) hb); clear HB; revert n0_; intro HB; clear hb))
   go_ret; exact ⟨yq6, zs0 HB⟩
def privitylaw50_ElectionTally.Pure : Prop := ∀ (l0 : List Int) (a1 : Int), l0.length ≤ maxLen → l0.length * 8 ≤ 140737488351232 → (∀ x ∈ l0, (Lit.int .u64 x).wf = true) → (Lit.int .u8 a1).wf = true → ∃ k, privitylaw50_ElectionTally.f k l0 a1 = some true
theorem privitylaw50_ElectionTally.walk (P : privitylaw50_ElectionTally.Pure) (a0 : Option Addr) (len0 cap0 : Nat) (z0 : List Int) (a1 : Int) (w : World) (w0 : (a0 = none ∧ len0 = 0 ∧ cap0 = 0 ∧ z0 = []) ∨ ∃ x, a0 = some x ∧ len0 ≤ cap0 ∧ cap0 ≤ maxLen ∧ z0.length = cap0 ∧ (∀ i, i < z0.length → w.cell? (x.add i) = some (.int .u64 (z0.getD i 0))) ∧ ∀ n ∈ z0, (Lit.int .u64 n).wf = true) (y0 : len0 * 8 ≤ 140737488351232) (w1 : (Lit.int .u8 a1).wf = true) :
  Calls Tryz.prog 4 #[.slice a0 len0 cap0, .int .u8 a1] w fun e w' => e = .returned (.bool true) ∧ Below w.heap.size w w' := by
 obtain ⟨l0, rfl, hr0, hm0, hw0, hc0⟩ := zdq.ofRowC w0; obtain ⟨k, h⟩ := P l0 a1 hm0 y0 hw0 w1; refine (privitylaw50_ElectionTally.calls k _ _ l0 a1 true w (Kd.C_of_reads (d := (0 : Int)) (h1 := fun _ => rfl) hr0) hc0 h).mono ?_; rintro e w' ⟨rfl, hd⟩; exact ⟨rfl, hd⟩
end Go.Proofs.YtkgdhdjkpnalmaaGreatDoor.P
end
section
namespace Go.Proofs.YtkgdhdjkpnalmaaGreatDoor.P
open Go.RowKit Go.Proofs.YtkgdhdjkpnalmaaGreatDoorW.PrintWords Go.Proofs.YtkgdhdjkpnalmaaGreatDoorW.PrintLast Go.Proofs.YtkgdhdjkpnalmaaGreatDoorW.PrintMore
theorem wf_u64 {x : Int} (h : (Lit.int .u64 x).wf = true) : 0 ≤ x ∧ x ≤ 18446744073709551615 := by
 simp only [Lit.wf, IntKind.min, IntKind.max, IntKind.signed, IntKind.bits, Bool.and_eq_true, decide_eq_true_eq] at h; simp at h; omega
theorem wf_u8 {x : Int} (h : (Lit.int .u8 x).wf = true) : 0 ≤ x ∧ x ≤ 255 := by
 simp only [Lit.wf, IntKind.min, IntKind.max, IntKind.signed, IntKind.bits, Bool.and_eq_true, decide_eq_true_eq] at h; simp at h; omega
def bump (c : Int) (o : List Int) (v : Int) : List Int := if v < c then o.set v.toNat (IntKind.u64.wrap (rd o v + 1)) else o
theorem bump_length (c : Int) (o : List Int) (v : Int) : (bump c o v).length = o.length := by unfold bump; split <;> simp
theorem bumps_length (c : Int) : ∀ (l o : List Int), (l.foldl (bump c) o).length = o.length
 | [], o => rfl
 | v :: l, o => by rw [List.foldl_cons, bumps_length c l, bump_length]
def tal (c : Int) (l : List Int) : List Int := l.foldl (bump c) (List.replicate c.toNat 0)
theorem tal_length (c : Int) (l : List Int) : (tal c l).length = c.toNat := by rw [tal, bumps_length]; simp
theorem drop_cons' {α : Type} {l s : List α} {i : Nat} {b : α} (h : l.drop i = b :: s) : ∃ hi : i < l.length, l[i] = b ∧ l.drop (i + 1) = s := by
 have hi : i < l.length := by
  rcases Nat.lt_or_ge i l.length with h' | h'
  ·exact h'
  ·rw [List.drop_of_length_le h'] at h; cases h
 rw [List.drop_eq_getElem_cons hi] at h
 injection h with h1 h2
 exact ⟨hi, h1, h2⟩
theorem rd_at {l : List Int} {i : Nat} (h : i < l.length) : rd l (i : Int) = l[i] := by simp [rd, h]
theorem tally_go (c : Int) (hc : 0 ≤ c ∧ c ≤ 8) (l : List Int) (hl : l.length < 1000000) (hp : ∀ x ∈ l, 0 ≤ x) : ∀ (s : List Int) (i : Nat) (o : List Int), l.drop i = s → o.length = c.toNat → Ev (fun k => election_Tally.l0 k c o l (l.length : Int) (i : Int)) (s.foldl (bump c) o)
 | [], i, o, hd, ho => by
  have : l.length ≤ i := by simpa using hd
  refine Ev.step (f := fun _ => some o) (fun k => ?_) (Ev.now _); rw [election_Tally.l0, if_neg (by omega)]
 | v :: s, i, o, hd, ho => by
  obtain ⟨hi, hv, hd'⟩ := drop_cons' hd
  have hw : IntKind.u64.wrap c = c := by simp [IntKind.wrap, IntKind.bits, IntKind.signed]; omega
  have hv0 : 0 ≤ v := hp v (by rw [← hv]; exact List.getElem_mem hi); have ih := tally_go c hc l hl hp s (i + 1) (bump c o v) hd' (by rw [bump_length, ho]); refine Ev.step (fun k => ?_) ih; rw [election_Tally.l0, if_pos (by omega), if_pos (by omega), if_pos (by omega), rd_at hi, hv, hw, w64s (by omega)]; unfold bump
  by_cases h : v < c
  ·rw [if_pos h, if_pos h, if_pos hv0, if_pos (by omega)]
  ·rw [if_neg h, if_neg h]
theorem tally_ev (c : Int) (hc : 0 ≤ c ∧ c ≤ 8) (l : List Int) (hl : l.length < 1000000) (hp : ∀ x ∈ l, 0 ≤ x) : Ev (fun k => election_Tally.f k l c) (tal c l) := by
 unfold election_Tally.f; exact Ev.pos hc.1 (Ev.pos (by omega) (tally_go c hc l hl hp l 0 _ rfl (by simp)))
theorem rtally_go (c : Int) (hc : 0 ≤ c ∧ c ≤ 8) (l : List Int) (hl : l.length < 1000000) (hp : ∀ x ∈ l, 0 ≤ x) : ∀ (s : List Int) (i : Nat) (o : List Int), l.drop i = s → o.length = c.toNat → Ev (fun k => zb6.l0 k l c o (i : Int)) (s.foldl (bump c) o)
 | [], i, o, hd, ho => by
  have : l.length ≤ i := by simpa using hd
  refine Ev.step (f := fun _ => some o) (fun k => ?_) (Ev.now _); rw [zb6.l0, if_neg (by omega)]
 | v :: s, i, o, hd, ho => by
  obtain ⟨hi, hv, hd'⟩ := drop_cons' hd
  have hw : IntKind.u64.wrap c = c := by simp [IntKind.wrap, IntKind.bits, IntKind.signed]; omega
  have hv0 : 0 ≤ v := hp v (by rw [← hv]; exact List.getElem_mem hi); have ih := rtally_go c hc l hl hp s (i + 1) (bump c o v) hd' (by rw [bump_length, ho]); refine Ev.step (fun k => ?_) ih; rw [zb6.l0, if_pos (by omega), if_pos (by omega), rd_at hi, hv, hw, w64s (by omega)]; unfold bump
  by_cases h : v < c
  ·rw [if_pos h, if_pos h, if_pos hv0, if_pos (by omega)]
  ·rw [if_neg h, if_neg h]
theorem rtally_ev (c : Int) (hc : 0 ≤ c ∧ c ≤ 8) (l : List Int) (hl : l.length < 1000000) (hp : ∀ x ∈ l, 0 ≤ x) : Ev (fun k => zb6.f k l c) (tal c l) := by
 unfold zb6.f; exact Ev.pos hc.1 (Ev.pos (by omega) (rtally_go c hc l hl hp l 0 _ rfl (by simp)))
theorem words_go (l : List Int) (hl : l.length < 1000000) : ∀ (d i : Nat), l.length - i = d → Ev (fun k => zao.l0 k l l (i : Int)) true
 | 0, i, h => Ev.step (f := fun _ => some true) (fun k => by rw [zao.l0, if_neg (by omega)]) (Ev.now _)
 | d + 1, i, h => Ev.step (fun k => by rw [zao.l0, if_pos (by omega), if_pos (by omega), if_pos (by omega), if_pos rfl, w64s (by omega)]) (words_go l hl d (i + 1) (by omega))
theorem words_ev (l : List Int) (hl : l.length < 1000000) : Ev (fun k => zao.f k l l) true := by
 unfold zao.f; exact Ev.pos rfl (words_go l hl _ 0 rfl)
theorem electionTally_ev (l : List Int) (a : Int) (hp : ∀ x ∈ l, (Lit.int .u64 x).wf = true) (ha : (Lit.int .u8 a).wf = true) : Ev (fun k => privitylaw50_ElectionTally.f k l a) true := by
 have h8 := wf_u8 ha
 have hc : ∃ c : Int, wrap64 (2 + (Int.tmod (wrap64 a) 7)) = c ∧ 0 ≤ c ∧ c ≤ 8 := by
  refine ⟨_, rfl, ?_⟩
  have e : wrap64 a = a := by unfold wrap64; omega
  rw [e]; have h1 : Int.tmod a 7 = a % 7 := Int.tmod_eq_emod_of_nonneg h8.1; rw [h1]; unfold wrap64
  omega
 obtain ⟨c, ec, hc⟩ := hc; unfold privitylaw50_ElectionTally.f; rw [ec]
 by_cases h : (l.length : Int) > 100
 ·exact Ev.pos h (Ev.bind awake_ev (Ev.now _))
 ·have hp' : ∀ x ∈ l, 0 ≤ x := fun x hx => (wf_u64 (hp x hx)).1
  refine Ev.neg h (Ev.bind awake_ev (Ev.pos rfl (Ev.bind (tally_ev c hc l (by omega) hp') (Ev.bind (rtally_ev c hc l (by omega) hp') (Ev.bind (words_ev _ ?_) (Ev.now _))))))
  rw [tal_length]; omega
end Go.Proofs.YtkgdhdjkpnalmaaGreatDoor.P
end
section
namespace Go.Proofs.YtkgdhdjkpnalmaaGreatDoor.Pure
open Go.RowKit Go.Proofs.YtkgdhdjkpnalmaaGreatDoor.P Go.Proofs.YtkgdhdjkpnalmaaGreatDoorW.PrintWords Go.Proofs.YtkgdhdjkpnalmaaGreatDoorW.PrintLast
theorem ElectionTally : privitylaw50_ElectionTally.Pure := fun l a _ _ hp ha => Ev.rounds (electionTally_ev l a hp ha)
end Go.Proofs.YtkgdhdjkpnalmaaGreatDoor.Pure
end
