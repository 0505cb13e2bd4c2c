/- What is proved: the fixed results that every law on journals checks first hold; so the law's first call answers true. -/
import Derived.Test.YtaalmmnjehfimaaJc
import Derived.Test.YtaalmmnjehfimaaPx10
set_option linter.unusedVariables false
set_option linter.unusedSimpArgs false
namespace Go.Proofs.Ytaalmmnjehfimaa.P
open Go.RowKit Go.Proofs.YtaalmmnjehfimaaW.PrintWords Go.Proofs.YtaalmmnjehfimaaW.PrintLast Go.Proofs.YtaalmmnjehfimaaW.PrintMore

theorem awake_ev : Ev (fun k => privitylaw48_awake.f k) true := by
  have ok : Ok [[5], []] := by
    intro r hr
    simp only [List.mem_cons, List.not_mem_nil, or_false] at hr
    rcases hr with rfl | rfl
    · exact ⟨by decide, fun x hx => by simp only [List.mem_cons, List.not_mem_nil, or_false] at hx; subst hx; exact ⟨by decide, by decide⟩⟩
    · exact ⟨by decide, fun x hx => by cases hx⟩
  have e0 : EJ [[5], []] = Enc.enc [1, 5, 6364136223846793011, 0, 0] := by
    rw [EJ_cons, EJ_cons, EJ_nil, List.append_nil, ← Enc.enc_append]; rfl
  have l0 : (EJ [[5], []]).length = 40 := by rw [e0, Enc.enc_length]; rfl
  have w1 := encWords_f [1, 5, 6364136223846793011, 0, 0] (by decide)
  have w2 := encWords_f [0, 0] (by decide)
  have hd : Dec (EJ [[5], []] ++ [120]) [[5], []] [120] := by
    have := Dec.app ok (Dec.short (b := [120]) (by decide))
    rwa [List.append_nil] at this
  unfold privitylaw48_awake.f
  refine Ev.bind (encode_ev [[5], []] (by rw [l0]; decide)) ?_
  refine Ev.congr (f := fun k => (journal_Decode.f k ⟨(EJ [[5], []] ++ [120]).toArray⟩).bind fun bt161 => ((some ⟨(Enc.enc [1, 5, 6364136223846793011, 0, 0]).toArray⟩ : Option ByteArray).bind fun t168 => (if EJ [[5], []] = t168.toList then ((privityref48_Same.f k bt161.1 (([(([5] : List Int)), []] : List (List Int)))).bind fun t175 => (if t175 = true then (if bt161.2 = 1 then ((journal_Append.f k (⟨#[]⟩ : ByteArray) ([] : List Int)).bind fun t176 => ((some ⟨(Enc.enc [0, 0]).toArray⟩ : Option ByteArray).bind fun t180 => (some (t176.toList == t180.toList)))) else (some false)) else (some false))) else (some false)))) (fun k => by
    rw [if_pos (by rw [sz, l0]; decide), w1, w2, show (ByteArray.mk (EJ [[5], []]).toArray) ++ (⟨#[120]⟩ : ByteArray) = ⟨(EJ [[5], []] ++ [120]).toArray⟩ from app_eq _ [120], ba_toList]) ?_
  refine Ev.bind (jdecode_ev hd (by rw [List.length_append, l0]; decide)) ?_
  simp only [Option.bind_some, ba_toList, e0, if_true]
  refine Ev.bind (same_ev [[5], []] [[5], []] (by decide) (fun r hr => Nat.le_trans (ok r hr).1 (by decide))) ?_
  simp only [decide_true, if_true, List.length_cons, List.length_nil]
  refine Ev.bind (append_ev [] [] (by decide) (by decide)) ?_
  simp only [ba_toList, List.nil_append]
  rw [show Enc.enc (rc []) = Enc.enc [0, 0] from rfl, beq_self_eq_true]
  exact Ev.now _

theorem privitylaw48_awake.calls (k : Nat) (r : Bool) (w : World) (h : privitylaw48_awake.f k = some r) :
    Calls Try.prog 9 #[] w fun e w' => e = .returned (.bool r) ∧ Below w.heap.size w w' := by
  obtain ⟨K, hK⟩ := awake_ev
  have h1 := hK (max K k) (Nat.le_max_left _ _)
  have h2 := at_rounds (g := fun k => privitylaw48_awake.f k) (fun k => privitylaw48_awake.mono k) (Nat.le_max_right K k) h
  exact privitylaw48_awake.callsT k r w (Option.some.inj (h2.symm.trans h1)) h

end Go.Proofs.Ytaalmmnjehfimaa.P
