/- What is proved here: a part of the proof of CircuitAppendMul: Crl. No conditions beside those that each theorem states. -/
import Derived.Test.YtmnleabeipmhmaaDoorKCAMul34
import Derived.Deep.RegionLaw
import Derived.StillTail
import Derived.StillTactics
section
set_option linter.unusedVariables false
set_option linter.unusedSimpArgs false
namespace Go.Proofs.YtmnleabeipmhmaaDoor.P
open Go.RowKit Go.Proofs.YtmnleabeipmhmaaDoorW.PrintWords Go.Proofs.YtmnleabeipmhmaaDoorW.PrintLast Go.Proofs.YtmnleabeipmhmaaDoorW.PrintMore
set_option maxHeartbeats 16000000 in
set_option maxRecDepth 100000 in
theorem rline_calls (s : St) (t : ByteArray) (b : Nat) (w0 w : World) (h : RS w0 w b s) (hLd : Ld w0) (ht : t.size < 4294967281) (hos : s.is = false → s.os.length ≤ 1000) :
    Calls Tryd.prog 41 #[.pointer (some ⟨b, 0, none⟩), .string t] w fun r w' => r = .returned (.bool (lineF s t).isSome) ∧ Below w0.heap.size w0 w' ∧ Keep w w' ∧ ∀ s', lineF s t = some s' → RS w0 w' b s' := by
  obtain ⟨wd, l, ok, hsp⟩ : ∃ wd l ok, splitF t = (wd, l, ok) := ⟨_, _, _, rfl⟩
  have HC : Hid (∀ W, Ld W → Calls Tryd.prog 59 #[.string t] W fun e w' => ∃ v : Value, e = .returned (.tuple #[.string wd, v, .bool ok]) ∧ Kd.R (Kd.int .u64) 22 w' W.heap.size (fun _ => True) v l ∧ Below W.heap.size W w') := Lib.hid (fun W hW => by
    have := split_calls t W hW ht
    rw [hsp] at this
    exact this)
  obtain ⟨P, gs, os, begun, is⟩ := s
  generalize hE : lineF ⟨P, gs, os, begun, is⟩ t = E
  have hE2 := hE
  simp only [lineF, hsp] at hE2
  have HE := Lib.hid hE2
  have HS := Lib.hid h
  have HLD := Lib.hid hLd
  have HOS := Lib.hid hos
  clear hE hE2 hsp h hLd hos ht
  go_enter Tryd.func41, Tryd.ntmps41
  go_upto_region 2 with (
    go_at_call 59
    refine (HC.out w (HLD.out.below HS.out.below)).mono ?_
    rintro e w1 ⟨v, rfl, hR, hB⟩
    have HS1 := Lib.hid (HS.out.kept hB)
    have HK1 := Lib.hid (Keep.of_below hB)
    have HR1 := Lib.hid hR
    clear hR hB HS HC)
  obtain ⟨A9, c9, e9⟩ := Kd.R_slice HR1.out
  subst e9
  obtain ⟨ug, uo, h1, h2, h3, h4, h5⟩ := HS1.out
  have c0 : w1.cell? ⟨b, 0, none⟩ = some (.int .u64 P) := zak h1 0
  have c3 : w1.cell? ⟨b, 3, none⟩ = some (.bool begun) := zak h1 3
  have c4 : w1.cell? ⟨b, 4, none⟩ = some (.bool is) := zak h1 4
  have HX := Lib.hid h1
  have HG := Lib.hid h2
  have HO := Lib.hid h3
  have HB := Lib.hid h4
  have HLO := Lib.hid h5
  clear h1 h2 h3 h4 h5
  cases hok : ok
  · have HN : Hid (E = none) := Lib.hid (by rw [← HE.out, hok]; rfl)
    subst hok
    go_wp2_with fail
    go_ret
    exact ⟨by rw [HN.out]; rfl, HB.out, HK1.out, fun s' hs => by rw [HN.out] at hs; cases hs⟩
  · subst hok
    cases his : is
    · subst his
      cases hbg : begun
      · subst hbg
        by_cases hp : wd.toList = ([112, 114, 105, 109, 101] : List UInt8)
        · have hp0 : (wd.toList == ([112, 114, 105, 109, 101] : List UInt8)) = true := beq_iff_eq.mpr hp
          have hp1 : (wd.toList != ([112, 114, 105, 109, 101] : List UInt8)) = false := bne_eq_false_iff_eq.mpr hp
          by_cases hl : l.length = 1
          · obtain ⟨x, rfl⟩ : ∃ x, l = [x] := List.length_eq_one_iff.1 hl
            have hC9 := (Kd.R_reads' HR1.out).2.2
            obtain ⟨ad, rfl, hcell⟩ := Kd.at_int hC9 0 (by decide) (by simp)
            rw [show rd [x] 0 = x from rfl, show ad.add (Int.toNat 0) = ad from by cases ad; rfl] at hcell
            have HSU := Lib.hid (zcv x w1 (HLD.out.below HB.out))
            cases hsu : (expF x != 0)
            · have HN : Hid (E = none) := Lib.hid (by rw [← HE.out]; simp [hp]; simpa using hsu)
              have HSU2 : Hid _ := Lib.hid (hsu ▸ HSU.out)
              clear HSU hp hl hC9
              go_wp2_with (go_at_call 47; refine HSU2.out.mono ?_; rintro r wx ⟨rfl, hw⟩; rw [hw]; clear hw wx)
              go_ret
              exact ⟨by rw [HN.out]; rfl, HB.out, HK1.out, fun s' hs => by rw [HN.out] at hs; cases hs⟩
            · have HN : Hid (E = some ⟨x, gs, os, true, false⟩) := Lib.hid (by rw [← HE.out]; simp [hp]; simpa using hsu)
              have HSU2 : Hid _ := Lib.hid (hsu ▸ HSU.out)
              have z0 : w1.frozen? ⟨b, 0, none⟩ = false := zaa HX.out 0
              clear HSU hp hl hC9
              go_wp2_with (first
                | (go_at_call 47; refine HSU2.out.mono ?_; rintro r wx ⟨rfl, hw⟩; rw [hw]; clear hw wx)
                | ((with_reducible refine zbj (t := 22) (p := 55) rfl ?_)
                   refine zbn (t := 22) (p := 55) (v := .tmp 52) (w1 := w1.setCell ⟨b, 0, none⟩ (.int .u64 x)) ?hg ?ho ?hn ?hr ?_
                   (case ho => rfl)
                   (case hg => rfl)
                   (case hn => rfl)
                   (case hr => first | (go_simp; done) | (go_simp; rfl))
                   intro w2 hw
                   have HS2 := Lib.hid (HS1.out.setP x hw)
                   have HK2 := Lib.hid (HK1.out.trans (HS1.out.keep _ hw))
                   clear hw c0 c3 c4 z0 hcell
                   have c3 : w2.cell? ⟨b, 3, none⟩ = some (.bool false) := by obtain ⟨_, _, hx, _⟩ := HS2.out; exact zak hx 3
                   have z3 : w2.frozen? ⟨b, 3, none⟩ = false := by obtain ⟨_, _, hx, _⟩ := HS2.out; exact zaa hx 3)
                | ((with_reducible refine zbj (t := 4) (p := 57) rfl ?_)
                   refine zbn (t := 4) (p := 57) (v := .const (.bool true)) (w1 := w2.setCell ⟨b, 3, none⟩ (.bool true)) ?hg ?ho ?hn ?hr ?_
                   (case ho => rfl)
                   (case hg => rfl)
                   (case hn => rfl)
                   (case hr => first | (go_simp; done) | (go_simp; rfl))
                   intro w3 hw
                   have HS3 := Lib.hid (HS2.out.setBegun true hw)
                   have HK3 := Lib.hid (HK2.out.trans (HS2.out.keep _ hw))
                   clear hw c3 z3))
              go_ret
              exact ⟨by rw [HN.out]; rfl, HS3.out.below, HK3.out, fun s' hs => by rw [HN.out] at hs; cases hs; exact HS3.out⟩
          · have hl0 : ((l.length : Int) == 1) = false := beq_eq_false_iff_ne.mpr (by omega)
            have hl1 : ((l.length : Int) != 1) = true := bne_iff_ne.mpr (by omega)
            have HN : Hid (E = none) := Lib.hid (by
              rw [← HE.out]
              simp [hp]
              match l, hl with
              | [], _ => rfl
              | [x], h => exact absurd rfl h
              | x :: y :: r, _ => rfl)
            clear hp hl
            go_wp2_with fail
            go_ret
            exact ⟨by rw [HN.out]; rfl, HB.out, HK1.out, fun s' hs => by rw [HN.out] at hs; cases hs⟩
        · have hp0 : (wd.toList == ([112, 114, 105, 109, 101] : List UInt8)) = false := beq_eq_false_iff_ne.mpr hp
          have hp1 : (wd.toList != ([112, 114, 105, 109, 101] : List UInt8)) = true := bne_iff_ne.mpr hp
          have HN : Hid (E = none) := Lib.hid (by rw [← HE.out]; simp [hp])
          clear hp
          go_wp2_with fail
          go_ret
          exact ⟨by rw [HN.out]; rfl, HB.out, HK1.out, fun s' hs => by rw [HN.out] at hs; cases hs⟩
      · subst hbg
        by_cases hp : wd.toList = ([111, 117, 116] : List UInt8)
        · have hp0 : (wd.toList == ([111, 117, 116] : List UInt8)) = true := beq_iff_eq.mpr hp
          have hp1 : (wd.toList != ([111, 117, 116] : List UInt8)) = false := bne_eq_false_iff_eq.mpr hp
          by_cases hl : l.length ≤ 1000
          · have hl0 : decide (1000 < l.length) = false := decide_eq_false (by omega)
            have HEo : Hid ((outsF gs.length l os).map (fun os => (⟨P, gs, os, true, true⟩ : St)) = E) := Lib.hid (by rw [← HE.out]; simp [hp, hl])
            have hml : l.length ≤ 9223372036854775807 := by omega
            clear hp HE
            go_wp2_with fail
            clear c0 c3 c4 HX HG HO
            go_loopw [9, 10, 66] (fun _ _ v66 wr => ∃ (i : Nat) (oz : List Int), v66 = .int .i64 i ∧ i ≤ l.length ∧ RS w0 wr b ⟨P, gs, oz, true, false⟩ ∧ outsF gs.length l os = outsF gs.length (l.drop i) oz ∧ Keep w1 wr ∧ oz.length ≤ 1000 + i) (fun _ _ v66 _ => ((l.length : Int) - intOf v66).toNat)
            case atStart => exact ⟨0, os, rfl, Nat.zero_le _, HS1.out, by rw [List.drop_zero], Keep.refl _, (by first | exact HOS.out rfl | exact HOS.out trivial)⟩
            case round =>
              obtain ⟨i, oz, rfl, hi, hS, hof, hK, hol⟩ := hrel
              by_cases hlt : i < l.length
              · have hRn := Kd.R_reads' (hK.nums HR1.out)
                obtain ⟨ad, rfl, hcell⟩ := Kd.at_int hRn.2.2 (i : Int) (by omega) (by omega)
                rw [show rd l (i : Int) = l[i] by simp [rd, hlt], Int.toNat_natCast] at hcell
                rw [List.drop_eq_getElem_cons hlt] at hof
                generalize l[i] = x at *
                simp only [outsF] at hof
                have HCS := Lib.hid (zcb x)
                generalize zbh x = y at *
                have HSr := Lib.hid hS
                have HKr := Lib.hid hK
                have HOF := Lib.hid hof
                have HOL := Lib.hid hol
                clear hS hK hof hol hRn
                go_upto_region 16 with (
                  go_at_call 60
                  refine (HCS.out wr).mono ?_
                  rintro e w2 ⟨rfl, hb⟩
                  have HS2 := Lib.hid (HSr.out.kept hb)
                  have HK2 := Lib.hid (HKr.out.trans (Keep.of_below hb))
                  clear hb HSr HKr hcell HCS)
                obtain ⟨vg, vo, h1, h2, h3, h4, h5⟩ := HS2.out
                obtain ⟨Ag, cg, eg⟩ := Kd.R_slice h2
                obtain ⟨Ao, co, eo⟩ := Kd.R_slice h3
                subst eg
                subst eo
                have d1 : w2.cell? ⟨b, 1, none⟩ = some (.slice Ag gs.length cg) := zak h1 1
                have d2 : w2.cell? ⟨b, 2, none⟩ = some (.slice Ao oz.length co) := zak h1 2
                have H1 := Lib.hid h1
                have H2 := Lib.hid h2
                have H3 := Lib.hid h3
                have H4 := Lib.hid h4
                have H5 := Lib.hid h5
                clear h1 h2 h3 h4 h5
                by_cases hs1 : y < 0
                · have hs1b : decide (y < 0) = true := decide_eq_true hs1
                  have HN : Hid (E = none) := Lib.hid (by rw [← HEo.out, HOF.out, if_pos (Or.inl hs1)]; rfl)
                  clear hs1
                  go_wp2_with fail
                  go_ret
                  exact ⟨by rw [HN.out]; rfl, H4.out, HK1.out.trans HK2.out, fun s' hs => by rw [HN.out] at hs; cases hs⟩
                · have hs1b : decide (y < 0) = false := decide_eq_false hs1
                  by_cases hs2 : (gs.length : Int) ≤ y
                  · have hs2b : decide ((gs.length : Int) ≤ y) = true := decide_eq_true hs2
                    have HN : Hid (E = none) := Lib.hid (by rw [← HEo.out, HOF.out, if_pos (Or.inr hs2)]; rfl)
                    clear hs1 hs2
                    go_wp2_with fail
                    go_ret
                    exact ⟨by rw [HN.out]; rfl, H4.out, HK1.out.trans HK2.out, fun s' hs => by rw [HN.out] at hs; cases hs⟩
                  · have hs2b : decide ((gs.length : Int) ≤ y) = false := decide_eq_false hs2
                    have HNX : Hid (outsF gs.length l os = outsF gs.length (l.drop (i + 1)) (oz ++ [y])) := Lib.hid (by rw [HOF.out, if_neg (by rintro (h | h) <;> omega)])
                    clear hs1 hs2
                    go_wp2_with (first
                      | ((with_reducible refine zbi (b := .append) (xs := #[.tmp 89, .tmp 91]) rfl ?_)
                         at_builtin
                         refine Kd.R_append (Kd.int .i64) (w0 := w0) w0.heap.size rfl (.tmp 89) (.tmp 91) 24 3 (.int .i64 0) 8 rfl Tryd.underlying24 info3 rfl (by decide) (by omega) (.slice Ao oz.length co) oz y [.int .i64 y] (fun _ => True) (fun _ => False) rfl rfl ?aP (fun _ hk => hk.elim) ?aF ?aO ?aB ?aS ?aL ?_
                         (case aP => exact rfl)
                         (case aF => exact (fun _ _ => trivial))
                         (case aO => exact H3.out)
                         (case aB => exact H4.out)
                         (case aS => exact H4.out.size)
                         (case aL => have := HOL.out; omega)
                         intro v1 w3 ho hbn hg hat
                         obtain ⟨Av, cv, ev⟩ := Kd.R_slice ho
                         subst ev
                         rw [show (oz ++ [y]).length = oz.length + 1 by simp] at ho ⊢
                         have HO3 := Lib.hid ho
                         have HB3 := Lib.hid hbn
                         have HG3 := Lib.hid hg
                         have hx3 := zba H1.out hg (Kd.R_ne H3.out H1.out (by decide))
                         have d2 : w3.cell? ⟨b, 2, none⟩ = some (.slice Ao oz.length co) := zak hx3 2
                         have z2 : w3.frozen? ⟨b, 2, none⟩ = false := zaa hx3 2
                         clear ho hbn hg hat hx3)
                      | ((with_reducible refine zbj (t := 24) (p := 95) rfl ?_)
                         refine zbn (t := 24) (p := 95) (v := .tmp 92) (w1 := w3.setCell ⟨b, 2, none⟩ (.slice Av (oz.length + 1) cv)) ?hg ?ho ?hn ?hr ?_
                         (case ho => rfl)
                         (case hg => rfl)
                         (case hn => rfl)
                         (case hr => first | (go_simp; done) | (go_simp; rfl))
                         intro w4 hw
                         have HS4 := Lib.hid (RS.out (s := ⟨P, gs, oz, true, false⟩) H1.out H2.out H3.out H5.out HO3.out HB3.out HG3.out hw)
                         have HK4 := Lib.hid (HK2.out.trans (Keep.grown H1.out HG3.out (fun k cs u _ d e => Kd.R_ne H3.out e (Ne.symm d)) hw))
                         clear hw d2 z2))
                    exact ⟨⟨i + 1, oz ++ [y], rfl, by omega, HS4.out, HNX.out, HK4.out, by have := HOL.out; simp only [List.length_append, List.length_cons, List.length_nil]; omega⟩, by simp only [intOf]; omega⟩
              · have hil : i = l.length := by omega
                rw [hil, List.drop_length] at hof
                have HN : Hid (E = some ⟨P, gs, oz, true, true⟩) := Lib.hid (by rw [← HEo.out, hof]; rfl)
                have c4 : wr.cell? ⟨b, 4, none⟩ = some (.bool false) := by obtain ⟨_, _, hx, _⟩ := hS; exact zak hx 4
                have z4 : wr.frozen? ⟨b, 4, none⟩ = false := by obtain ⟨_, _, hx, _⟩ := hS; exact zaa hx 4
                have HSr := Lib.hid hS
                have HKr := Lib.hid hK
                clear hil hof hS hK hol
                go_wp2_with (
                  (with_reducible refine zbj (t := 4) (p := 99) rfl ?_)
                  refine zbn (t := 4) (p := 99) (v := .const (.bool true)) (w1 := wr.setCell ⟨b, 4, none⟩ (.bool true)) ?hg ?ho ?hn ?hr ?_
                  (case ho => rfl)
                  (case hg => rfl)
                  (case hn => rfl)
                  (case hr => first | (go_simp; done) | (go_simp; rfl))
                  intro w3 hw
                  have HS3 := Lib.hid (HSr.out.setIs true hw)
                  have HK3 := Lib.hid ((HK1.out.trans HKr.out).trans (HSr.out.keep _ hw))
                  clear hw c4 z4)
                go_ret
                exact ⟨by rw [HN.out]; rfl, HS3.out.below, HK3.out, fun s' hs => by rw [HN.out] at hs; cases hs; exact HS3.out⟩
          · have hl0 : decide (1000 < l.length) = true := decide_eq_true (by omega)
            have HN : Hid (E = none) := Lib.hid (by rw [← HE.out]; simp [hp, hl])
            clear hp
            go_wp2_with fail
            go_ret
            exact ⟨by rw [HN.out]; rfl, HB.out, HK1.out, fun s' hs => by rw [HN.out] at hs; cases hs⟩
        · have hp0 : (wd.toList == ([111, 117, 116] : List UInt8)) = false := beq_eq_false_iff_ne.mpr hp
          have hp1 : (wd.toList != ([111, 117, 116] : List UInt8)) = true := bne_iff_ne.mpr hp
          have HEg : Hid ((if (madeF P wd l gs.length).2 = true ∧ gs.length < 20000 then some (⟨P, gs ++ [(madeF P wd l gs.length).1], os, true, false⟩ : St) else none) = E) := Lib.hid (by rw [← HE.out]; simp [hp])
          clear hp HE
          go_upto_region 22 with (fail)
          obtain ⟨Ag, cg, eg⟩ := Kd.R_slice HG.out
          subst eg
          have D0 : w1.drew.cell? ⟨b, 0, none⟩ = some (.int .u64 P) := c0
          have D1 : w1.drew.cell? ⟨b, 1, none⟩ = some (.slice Ag gs.length cg) := zak HX.out 1
          have hal : Below w1.drew.heap.size w1.drew (w1.drew.alloc (.cells #[.int .i64 0, .int .i64 0, .int .i64 0, .int .i64 0, .int .u64 0] 43)) := zao (Below.refl _ _) _
          have F0 : (w1.drew.alloc (.cells #[.int .i64 0, .int .i64 0, .int .i64 0, .int .i64 0, .int .u64 0] 43)).cell? ⟨b, 0, none⟩ = some (.int .u64 P) := zak (zbl (w := w1.drew) HX.out hal) 0
          have F1 : (w1.drew.alloc (.cells #[.int .i64 0, .int .i64 0, .int .i64 0, .int .i64 0, .int .u64 0] 43)).cell? ⟨b, 1, none⟩ = some (.slice Ag gs.length cg) := zak (zbl (w := w1.drew) HX.out hal) 1
          have HSD := Lib.hid HS1.out.drew
          have HKD := Lib.hid (HK1.out.trans (Keep.of_below ((Below.refl _ w1).drew)))
          have HRD := Lib.hid (Kd.R_reads' (Kd.R_below HR1.out ((Below.refl _ w1).drew)))
          obtain ⟨mg, good, hmg⟩ : ∃ mg good, madeF P wd l gs.length = (mg, good) := ⟨_, _, rfl⟩
          have HMA : Hid (∀ W, Below w1.drew.heap.size w1.drew W → Calls Tryd.prog 61 #[.int .u64 P, .string wd, .slice A9 l.length c9, .int .i64 gs.length] W
              fun r w' => r = .returned (.tuple #[.agg #[.int .i64 mg.f0, .int .i64 mg.f1, .int .i64 mg.f2, .int .i64 mg.f3, .int .u64 mg.f4], .bool good]) ∧ Below W.heap.size W w') := Lib.hid (fun W hW => by
            have h := made_calls P wd l gs.length A9 c9 W (HLD.out.below (HSD.out.below.trans (hW.mono HSD.out.below.size))) (Kd.C_below HRD.out.2.2 hW) HRD.out.2.1
            rw [hmg] at h
            exact h)
          rw [hmg] at HEg
          simp only at HEg
          have HS1x := Lib.hid HS1.out
          have HK1x := Lib.hid HK1.out
          have HAL := Lib.hid hal
          have c1 : w1.cell? ⟨b, 1, none⟩ = some (.slice Ag gs.length cg) := zak HX.out 1
          clear hmg c3 c4 HX HG HO HB HS1 HK1 HR1 HRD hal
          have hu := Tryd.underlying43
          have hbn1 : b ≠ w1.heap.size := by have := World.block_lt_of_cell? w1.drew _ D0; have h2 : w1.drew.heap.size = w1.heap.size := rfl; simp only at this; omega
          have hbn2 : w1.heap.size ≠ b := Ne.symm hbn1
          have hbn3 : b < w1.heap.size := by have := World.block_lt_of_cell? w1.drew _ D0; have h2 : w1.drew.heap.size = w1.heap.size := rfl; simp only at this; omega
          go_cut [11, 12] (fun v11 v12 wc => ∃ gB : Nat, v11 = .pointer (some ⟨gB, 0, none⟩) ∧ v12 = .bool good ∧ Below w1.heap.size w1 wc ∧ wc.heap[gB]? = some (.cells #[.int .i64 mg.f0, .int .i64 mg.f1, .int .i64 mg.f2, .int .i64 mg.f3, .int .u64 mg.f4] 43 (0, 0)))
          case first =>
            go_region_with (first
              | (go_at_call 61
                 refine (HMA.out _ (Below.refl _ _)).mono ?_
                 rintro e w3 ⟨rfl, hb⟩
                 have HB3 : Hid (Below w1.drew.heap.size w1.drew w3) := Lib.hid hb
                 clear hb)
              | (go_at_call 61
                 refine (HMA.out _ HAL.out).mono ?_
                 rintro e w3 ⟨rfl, hb⟩
                 have HB3 : Hid (Below w1.drew.heap.size w1.drew w3) := Lib.hid (HAL.out.trans (hb.mono HAL.out.size))
                 have hz3 : w3.heap[w1.drew.heap.size]? = some (.cells #[.int .i64 0, .int .i64 0, .int .i64 0, .int .i64 0, .int .u64 0] 43 (0, 0)) := zbl (heap_alloc_new w1.drew _) hb
                 have HZ3 := Lib.hid hz3
                 have y0 : w3.cell? ⟨w1.heap.size, 0, none⟩ = some (.int .i64 0) := zak hz3 0
                 have y1 : w3.cell? ⟨w1.heap.size, 1, none⟩ = some (.int .i64 0) := zak hz3 1
                 have y2 : w3.cell? ⟨w1.heap.size, 2, none⟩ = some (.int .i64 0) := zak hz3 2
                 have y3 : w3.cell? ⟨w1.heap.size, 3, none⟩ = some (.int .i64 0) := zak hz3 3
                 have y4 : w3.cell? ⟨w1.heap.size, 4, none⟩ = some (.int .u64 0) := zak hz3 4
                 have f0 : w3.frozen? ⟨w1.heap.size, 0, none⟩ = false := zaa hz3 0
                 have f1 : w3.frozen? ⟨w1.heap.size, 1, none⟩ = false := zaa hz3 1
                 have f2 : w3.frozen? ⟨w1.heap.size, 2, none⟩ = false := zaa hz3 2
                 have f3 : w3.frozen? ⟨w1.heap.size, 3, none⟩ = false := zaa hz3 3
                 have f4 : w3.frozen? ⟨w1.heap.size, 4, none⟩ = false := zaa hz3 4
                 clear hb hz3))
            all_goals
              go_wp2_with fail
              go_meet
              have HB4 : Below w1.heap.size w1 w3 := ((Below.refl _ w1).drew).trans HB3.out
              refine ⟨_, rfl, rfl, ?_, ?_⟩
              · first
                | exact ((((HB4.setCell (p := ⟨w1.heap.size, 0, none⟩) (Nat.le_refl _) _).setCell (p := ⟨w1.heap.size, 1, none⟩) (Nat.le_refl _) _).setCell (p := ⟨w1.heap.size, 2, none⟩) (Nat.le_refl _) _).setCell (p := ⟨w1.heap.size, 3, none⟩) (Nat.le_refl _) _).setCell (p := ⟨w1.heap.size, 4, none⟩) (Nat.le_refl _) _
                | exact HB4.trans ((zao (Below.refl w3.heap.size w3) _).mono HB4.size)
              · first
                | exact zap (zap (zap (zap (zap HZ3.out 0 _ (by rfl)) 1 _ (by rfl)) 2 _ (by rfl)) 3 _ (by rfl)) 4 _ (by rfl)
                | exact heap_alloc_new _ _
          case rest =>
            obtain ⟨gB, rfl, rfl, hb4, hn4⟩ := hcut
            have HS4 := Lib.hid (HS1x.out.kept hb4)
            have HK4 := Lib.hid (HK1x.out.trans (Keep.of_below hb4))
            have HN4 := Lib.hid hn4
            clear hb4 hn4
            clear c0 D0 D1 F0 F1 HSD HKD HMA HAL hu hbn1 hbn2 hbn3 HS1x HK1x c1
            obtain ⟨vg, vo, h1, h2, h3, h4, h5⟩ := HS4.out
            obtain ⟨Ag, cg, eg⟩ := Kd.R_slice h2
            subst eg
            have d1 : wc.cell? ⟨b, 1, none⟩ = some (.slice Ag gs.length cg) := zak h1 1
            have H1 := Lib.hid h1
            have H2 := Lib.hid h2
            have H3 := Lib.hid h3
            have H4 := Lib.hid h4
            have H5 := Lib.hid h5
            clear h1 h2 h3 h4 h5
            cases hgd : good
            · subst hgd
              have HN : Hid (E = none) := Lib.hid (by rw [← HEg.out, if_neg (by rintro ⟨h, _⟩; cases h)])
              go_wp2_with fail
              go_ret
              exact ⟨by rw [HN.out]; rfl, H4.out, HK4.out, fun s' hs => by rw [HN.out] at hs; cases hs⟩
            · subst hgd
              by_cases hmx : 20000 ≤ gs.length
              · have hm0 : decide (20000 ≤ gs.length) = true := decide_eq_true hmx
                have hm1 : decide (20000 ≤ (gs.length : Int)) = true := decide_eq_true (by omega)
                have HN : Hid (E = none) := Lib.hid (by rw [← HEg.out, if_neg (by rintro ⟨_, h⟩; omega)])
                clear hmx
                go_wp2_with fail
                go_ret
                exact ⟨by rw [HN.out]; rfl, H4.out, HK4.out, fun s' hs => by rw [HN.out] at hs; cases hs⟩
              · have hm0 : decide (20000 ≤ gs.length) = false := decide_eq_false hmx
                have hm1 : decide (20000 ≤ (gs.length : Int)) = false := decide_eq_false (by omega)
                have HN : Hid (E = some ⟨P, gs ++ [mg], os, true, false⟩) := Lib.hid (by rw [← HEg.out, if_pos ⟨rfl, by omega⟩])
                have HML : Hid (gs.length < 20000) := Lib.hid (by omega)
                clear hmx
                go_upto_region 25 with (fail)
                have hu := Tryd.underlying43
                have D1 : wc.drew.cell? ⟨b, 1, none⟩ = some (.slice Ag gs.length cg) := d1
                have n0 : wc.cell? ⟨gB, 0, none⟩ = some (.int .i64 mg.f0) := zak HN4.out 0
                have n1 : wc.cell? ⟨gB, 1, none⟩ = some (.int .i64 mg.f1) := zak HN4.out 1
                have n2 : wc.cell? ⟨gB, 2, none⟩ = some (.int .i64 mg.f2) := zak HN4.out 2
                have n3 : wc.cell? ⟨gB, 3, none⟩ = some (.int .i64 mg.f3) := zak HN4.out 3
                have n4 : wc.cell? ⟨gB, 4, none⟩ = some (.int .u64 mg.f4) := zak HN4.out 4
                have e0 : wc.drew.cell? ⟨gB, 0, none⟩ = some (.int .i64 mg.f0) := zak HN4.out 0
                have e1 : wc.drew.cell? ⟨gB, 1, none⟩ = some (.int .i64 mg.f1) := zak HN4.out 1
                have e2 : wc.drew.cell? ⟨gB, 2, none⟩ = some (.int .i64 mg.f2) := zak HN4.out 2
                have e3 : wc.drew.cell? ⟨gB, 3, none⟩ = some (.int .i64 mg.f3) := zak HN4.out 3
                have e4 : wc.drew.cell? ⟨gB, 4, none⟩ = some (.int .u64 mg.f4) := zak HN4.out 4
                have hq3 : b < wc.heap.size := World.block_lt_of_cell? wc _ d1
                have hq1 : b ≠ wc.heap.size := Nat.ne_of_lt hq3
                have hq2 : wc.heap.size ≠ b := Ne.symm hq1
                go_region_law (
                  refine Kd.R_append_step k43 (w0 := w0) (W := wc.drew) w0.heap.size (by simp [Region.wanted]) (.tmp 133) (.tmp 135) 23 43 (.agg #[.int .i64 0, .int .i64 0, .int .i64 0, .int .i64 0, .int .u64 0]) 40 rfl Tryd.underlying23 info43 rfl (by decide) (by omega) (.slice Ag gs.length cg) gs mg [.int .i64 mg.f0, .int .i64 mg.f1, .int .i64 mg.f2, .int .i64 mg.f3, .int .u64 mg.f4] (fun _ => True) (fun _ => False) rfl rfl ?aP (fun _ hk => hk.elim) ?aF ?aO ?aB ?aS ?aL ?_
                  (case aP => exact k43_mkM _ _ _ mg)
                  (case aF => exact (fun _ _ => trivial))
                  (case aO => exact Kd.R_drew H2.out)
                  (case aB => exact H4.out.trans (((Below.refl _ wc).drew).mono H4.out.size))
                  (case aS => exact H4.out.size)
                  (case aL => have := HML.out; omega)
                  intro v1 w5 ho hbn hg hat
                  obtain ⟨Av, cv, ev⟩ := Kd.R_slice ho
                  subst ev
                  rw [show (gs ++ [mg]).length = gs.length + 1 by simp] at ho ⊢
                  have HO5 := Lib.hid ho
                  have HB5 := Lib.hid hbn
                  have HG5 := Lib.hid hg
                  have hx5 := zba (w := wc.drew) H1.out hg (Kd.R_ne H2.out H1.out (by decide))
                  have d1 : w5.cell? ⟨b, 1, none⟩ = some (.slice Ag gs.length cg) := zak hx5 1
                  have z1 : w5.frozen? ⟨b, 1, none⟩ = false := zaa hx5 1
                  clear ho hbn hg hat hx5)
                all_goals
                  have hS6 : RS w0 (w5.setCell ⟨b, 1, none⟩ (.slice Av (gs.length + 1) cv)) b ⟨P, gs ++ [mg], os, true, false⟩ := RS.gate (s := ⟨P, gs, os, true, false⟩) (w := wc.drew) H1.out (Kd.R_drew H2.out) (Kd.R_drew H3.out) H5.out HO5.out HB5.out HG5.out rfl
                  have hK6 : Keep w (w5.setCell ⟨b, 1, none⟩ (.slice Av (gs.length + 1) cv)) := HK4.out.trans ((Keep.of_below ((Below.refl _ wc).drew)).trans (Keep.grown (w := wc.drew) H1.out HG5.out (fun k cs u a _ e => Kd.R_ne (Kd.R_drew H2.out) e (Ne.symm a)) rfl))
                  generalize w5.setCell ⟨b, 1, none⟩ (.slice Av (gs.length + 1) cv) = w6 at *
                  have HS6 := Lib.hid hS6
                  have HK6 := Lib.hid hK6
                  clear hS6 hK6
                  go_wp2_with fail
                  go_ret
                  exact ⟨by rw [HN.out]; rfl, HS6.out.below, HK6.out, fun s' hs => by rw [HN.out] at hs; cases hs; exact HS6.out⟩
    · have HN : Hid (E = none) := Lib.hid (by rw [← HE.out, his]; simp)
      subst his
      go_wp2_with fail
      go_ret
      exact ⟨by rw [HN.out]; rfl, HB.out, HK1.out, fun s' hs => by rw [HN.out] at hs; cases hs⟩
end Go.Proofs.YtmnleabeipmhmaaDoor.P
end
