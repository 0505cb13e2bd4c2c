/- What is proved here: a part of the proof of CircuitParse: Cawk. No conditions beside those that each theorem states. -/
import Derived.Test.YtmnleabeipmhmaaDoorKCPse42
import Derived.Test.YtmnleabeipmhmaaDoorKCPse24
section
set_option linter.unusedVariables false
set_option linter.unusedSimpArgs false
namespace Go.Proofs.YtmnleabeipmhmaaDoor.P
open Go.RowKit Go.Proofs.YtmnleabeipmhmaaDoorW.PrintWords Go.Proofs.YtmnleabeipmhmaaDoorW.PrintLast Go.Proofs.YtmnleabeipmhmaaDoorW.PrintMore
def aw1 : List UInt8 := [112, 114, 105, 109, 101, 32, 51, 49, 10, 105, 110, 32, 50, 10, 99, 111, 110, 115, 116, 32, 51, 10, 109, 117, 108, 32, 48, 32, 49, 10, 111, 117, 116, 32, 50, 10]
def aw2 : List UInt8 := [112, 114, 105, 109, 101, 32, 51, 49, 10, 109, 117, 108, 32, 48, 32, 48, 10]
def awG : List GT := [⟨1, 2, 0, 0, 0⟩, ⟨2, 0, 0, 0, 3⟩, ⟨6, 0, 0, 1, 0⟩]
set_option maxRecDepth 100000 in
theorem aw_parse : zdl aw1 = (31, awG, [2], 0, 0) := by kernel_rfl
set_option maxRecDepth 100000 in
theorem aw_bad : zdl aw2 = (0, [], [], 2, 3) := by kernel_rfl
theorem format_c {P : Int} {gs : List GT} {os : List Int} (h : GoodC P gs os) : zb4.f P gs os = some (⟨(formatT P gs os).toArray⟩, 0) := by
  have hP := exp_range P h.p
  have hK : ∀ g ∈ gs, 0 ≤ g.f4 ∧ g.f4 < 18446744073709551616 := by
    intro g hg
    obtain ⟨i, hi, rfl⟩ := List.getElem_of_mem hg
    rcases h.g i hi with ⟨x, h1, h2, e⟩ | ⟨x, h1, h2, e⟩ | ⟨K, h1, h2, e⟩ | ⟨a, b, h1, h2, e⟩ | ⟨a, b, h1, h2, e⟩ | ⟨K, a, h1, h2, e⟩ | ⟨a, b, h1, h2, e⟩ <;> rw [e] <;> simp only <;> omega
  unfold zb4.f
  rw [if_pos ((valid_good P gs os (fun g hg => (hK g hg).1)).2 h), if_pos]
  simp only [inU, Bool.and_eq_true, decide_eq_true_eq, List.all_eq_true]
  exact ⟨by omega, hK⟩
theorem awake_f : zbh.f = some true := by
  obtain ⟨_, hg, hl⟩ := parse_ok aw_parse
  have e1 : zbo.f (⟨aw1.toArray⟩ : ByteArray) = some (31, awG, [2], 0, 0) := by rw [parse_c _ (by decide), aw_parse]
  have e3 : zbo.f (⟨aw2.toArray⟩ : ByteArray) = some (0, [], [], 2, 3) := by rw [parse_c _ (by decide), aw_bad]
  have e2 := format_c hg
  rw [← hl] at e2
  have e4 : zbl.f 31 awG [2] = some true := by rw [valid_c, (valid_good 31 awG [2] (by decide)).2 hg]
  have e5 : zbx.f 31 awG [2] = some 1 := by rw [mul_c]; rfl
  have e6 : zb7.f 31 awG [2] = some 1 := by rw [depth_c hg]; rfl
  have e7 : zba.f 31 awG [2] 2 = some 1 := by rw [in_c]; rfl
  have e8 : zba.f 31 awG [2] 1 = some 0 := by rw [in_c]; rfl
  have e9 : zbl.f 0 [] [] = some false := by rw [valid_c]; rfl
  have t1 : (⟨aw1.toArray⟩ : ByteArray).toList = aw1 := ba_toList aw1
  unfold zbh.f
  change ((zbo.f (⟨aw1.toArray⟩ : ByteArray)).bind _) = _
  rw [e1]
  simp only [Option.bind_some]
  rw [e2]
  simp only [Option.bind_some]
  change ((zbo.f (⟨aw2.toArray⟩ : ByteArray)).bind _) = _
  rw [e3]
  simp only [Option.bind_some, t1, e4, e5, e6, e7, e8, e9]
  rfl
theorem zbh.calls (r : Bool) (w : World) (hLd : Ld w) (h : zbh.f = some r) :
    Calls Tryd.prog 12 #[] w fun e w' => e = .returned (.bool r) ∧ Below w.heap.size w w' :=
  zbh.callsT r w hLd (Option.some.inj (h.symm.trans awake_f)) h
end Go.Proofs.YtmnleabeipmhmaaDoor.P
end
