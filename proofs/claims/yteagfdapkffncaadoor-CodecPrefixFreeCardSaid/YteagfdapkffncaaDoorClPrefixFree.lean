/- What is proved: in plain Lean: the law CodecPrefixFree of the chapter on codecs holds of what its functions answer. -/
import Derived.Test.YteagfdapkffncaaDoorCla
import Derived.Test.YteagfdapkffncaaDoorPx25
set_option linter.unusedVariables false
set_option linter.unusedSimpArgs false
namespace Go.Proofs.YteagfdapkffncaaDoor.P
open Go.RowKit Go.Proofs.YteagfdapkffncaaDoorW.PrintWords Go.Proofs.YteagfdapkffncaaDoorW.PrintLast Go.Proofs.YteagfdapkffncaaDoorW.PrintMore
open Lib (decDigits)

theorem prefixLaw (l : List (List Int)) (more : List Int) (cut : Int) (hA : Arg l) (hm : ∀ a ∈ more, (Lit.int .u64 a).wf = true) (hc0 : 0 ≤ cut) (hc1 : cut < 65536) : Ev (fun k => privitylaw03_CodecPrefixFree.f k l more cut) true := by
  have dull : Ev (fun k => privitylaw03_CodecPrefixFree.j0 k l more cut true) true := Ev.step (fun k => by simp only [privitylaw03_CodecPrefixFree.j0]; rfl) awake_only
  unfold privitylaw03_CodecPrefixFree.f
  refine Ev.bind (hA.few 200 (by decide)) ?_
  by_cases h1 : (flat l).length ≤ 200
  · rw [decide_eq_true h1]
    simp only [if_true]
    by_cases h2 : more.length ≤ 50
    · rw [decide_eq_false (show ¬ ((more.length : Int) > 50) by omega)]
      have hL : (Enc.enc (wordsL l)).length = 8 * ((flat l).length + 1) := enc_words_length l
      have hM : (Enc.enc more).length = 8 * more.length := Enc.enc_length more
      have hum : ∀ a ∈ more, U64 a := fun a ha => u64_of_wf (hm a ha)
      obtain ⟨c, rfl⟩ : ∃ c : Nat, cut = (c : Int) := ⟨cut.toNat, by omega⟩
      obtain ⟨S, hS⟩ : ∃ S, Enc.enc (wordsL l) = S := ⟨_, rfl⟩
      have hSl : S.length = 8 * ((flat l).length + 1) := by rw [← hS]; exact hL
      obtain ⟨at_, hat⟩ : ∃ q : Nat, c % (S.length + 1) = q := ⟨_, rfl⟩
      have hlt : at_ < S.length + 1 := by rw [← hat]; exact Nat.mod_lt _ (by omega)
      have e1 : wrap64 (((⟨S.toArray⟩ : ByteArray).size : Int) + 1) = ((S.length + 1 : Nat) : Int) := by rw [sz]; unfold wrap64; omega
      have e2 : wrap64 (c : Int) = (c : Int) := by unfold wrap64; omega
      have e3 : Int.tmod (c : Int) ((S.length + 1 : Nat) : Int) = (at_ : Int) := by rw [Int.tmod_eq_emod_of_nonneg (by omega), ← hat]; exact (Int.natCast_emod _ _).symm
      have hd1 : (codec_DecodeLists.f (⟨S.toArray⟩ ++ ⟨(Enc.enc more).toArray⟩) : Option (List (List Int) × Int)) = some (if more.isEmpty then (l, 0) else ([], 7)) := by
        rw [app_eq, decLists_f _ (by rw [List.length_append]; omega), ← hS, decodeS_more l (by omega) hA.u more hum]
      have hd2 : codec_DecodeLists.f ((⟨S.toArray⟩ : ByteArray).extract 0 at_) = some (decodeS (S.take at_)) := by
        rw [ext_eq, List.drop_zero, Nat.sub_zero, decLists_f _ (by rw [List.length_take]; omega)]
      have t1 : (((if more.isEmpty then ((l, 0) : List (List Int) × Int) else ([], 7)).2 == 0) == ((more.length : Int) == 0)) = true := by
        cases more with
        | nil => rfl
        | cons a r =>
          have : (((a :: r).length : Int) == 0) = false := beq_eq_false_iff_ne.2 (by simp only [List.length_cons]; omega)
          rw [this]; rfl
      have t2 : (((decodeS (S.take at_)).2 == 0) == ((at_ : Int) == ((⟨S.toArray⟩ : ByteArray).size : Int))) = true := by
        rw [sz]
        by_cases he : at_ = S.length
        · rw [he, List.take_length, ← hS, decodeS_enc l (by omega) hA.u]; simp
        · have h3 : (decodeS (S.take at_)).2 ≠ 0 := by rw [← hS]; exact decodeS_cut l (by omega) hA.u at_ (by rw [hS]; omega)
          have h4 : (at_ : Int) ≠ (S.length : Int) := by omega
          rw [beq_eq_false_iff_ne.2 h3, beq_eq_false_iff_ne.2 h4]; rfl
      have henc := encLists_ev l (by omega)
      rw [hS] at henc
      refine Ev.step (f := fun k => (codec_EncodeLists.f k l).bind fun t256 => ((codec_EncodeWords.f more).bind fun t257 => (if t256.size + t257.size ≤ 9223372036854775807 then ((codec_DecodeLists.f (t256 ++ t257)).bind fun bt258 => (if (wrap64 ((t256.size : Int) + 1)) = 0 then (none) else (if 0 ≤ (Int.tmod (wrap64 ((c : Int))) (wrap64 ((t256.size : Int) + 1))) then (if (Int.tmod (wrap64 ((c : Int))) (wrap64 ((t256.size : Int) + 1))) ≤ (t256.size : Int) then ((codec_DecodeLists.f (t256.extract 0 ((Int.tmod (wrap64 ((c : Int))) (wrap64 ((t256.size : Int) + 1))) : Int).toNat)).bind fun bt262 => ((privitylaw03_awake.f k).bind fun t266 => (if t266 = true then (if ((bt258.2 == 0) == ((more.length : Int) == 0)) = true then (some ((bt262.2 == 0) == ((Int.tmod (wrap64 ((c : Int))) (wrap64 ((t256.size : Int) + 1))) == (t256.size : Int)))) else (some false)) else (some false)))) else (none)) else (none)))) else (none)))) (fun k => by simp only [privitylaw03_CodecPrefixFree.j0, Bool.false_eq_true, if_false]) ?_
      refine Ev.bind henc ?_
      simp only [e1, e2, e3]
      rw [encW_f more (by omega)]
      simp only [Option.bind_some]
      refine Ev.congr (f := fun k => (privitylaw03_awake.f k).bind fun t266 => (if t266 = true then (some true) else (some false))) (fun k => by
        rw [if_pos (by rw [sz, sz]; omega), hd1]
        simp only [Option.bind_some]
        rw [if_neg (by omega), if_pos (by omega), if_pos (by rw [sz]; omega), Int.toNat_natCast, hd2]
        simp only [Option.bind_some]
        rw [t2]
        simp only [t1, if_true]) ?_
      refine Ev.bind awake_ev ?_
      rw [if_pos rfl]
      exact Ev.now _
    · rw [decide_eq_true (show ((more.length : Int) > 50) by omega)]
      exact dull
  · rw [decide_eq_false h1]
    simp only [Bool.false_eq_true, if_false]
    exact dull

end Go.Proofs.YteagfdapkffncaaDoor.P
