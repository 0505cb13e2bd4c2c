/- What is proved here: a part of the proof of CircuitAppendMul: Ccs. No conditions beside those that each theorem states. -/
import Derived.Test.YtmnleabeipmhmaaDoorKCAMul7
import Derived.Test.YtmnleabeipmhmaaDoorKCAMul6
import Derived.Lib.Strings
import Derived.Laws.Strings3
section
set_option linter.unusedVariables false
set_option linter.unusedSimpArgs false
namespace Go.Proofs.YtmnleabeipmhmaaDoor.P
open Go.RowKit Go.Proofs.YtmnleabeipmhmaaDoorW.PrintWords Go.Proofs.YtmnleabeipmhmaaDoorW.PrintLast Go.Proofs.YtmnleabeipmhmaaDoorW.PrintMore
def endsN (x : ByteArray) : Bool := ([10] : List UInt8).isSuffixOf x.data.toList
def cutN (x : ByteArray) : ByteArray × Bool := if endsN x then (x.extract 0 (x.size - 1), true) else (x, false)
theorem endsN_size {x : ByteArray} (h : endsN x = true) : 1 ≤ x.size := by
  have h1 : ([10] : List UInt8) <:+ x.data.toList := List.isSuffixOf_iff_suffix.1 h
  have := h1.length_le
  rw [Array.length_toList] at this
  exact this
set_option maxHeartbeats 1000000 in
set_option maxRecDepth 100000 in
theorem cutIn_calls (x : ByteArray) (w : World) (hx : x.size ≤ 9223372036854775807) :
    Calls Tryd.prog 58 #[.string x, .string ⟨#[10]⟩] w fun r w' => r = .returned (.tuple #[.string (cutN x).1, .bool (cutN x).2]) ∧ w' = w := by
  have HC : Hid (Calls Tryd.prog 72 #[.string x, .string ⟨#[10]⟩] w fun e w' => e = .returned (.bool (endsN x)) ∧ w' = w) := Lib.hid (Tryd.stringslite_HasSuffix x ⟨#[10]⟩ w hx)
  unfold cutN
  cases he : endsN x
  · rw [he] at HC
    go_enter Tryd.func58, Tryd.ntmps58
    go_wp2_with (go_at_call 72; refine HC.out.mono ?_; rintro r wx ⟨rfl, hw⟩; rw [hw]; clear hw wx)
    go_ret2
    exact ⟨rfl, rfl⟩
  · have h1 := endsN_size he
    rw [he] at HC
    have c1 : (0 : Int) ≤ (x.size : Int) - 1 := by omega
    have c2 : (x.size : Int) - 1 ≤ (x.size : Int) := by omega
    have c3 : ((x.size : Int) - 1).toNat = x.size - 1 := by omega
    have c4 : IntKind.i64.wrap ((x.size : Int) - 1) = (x.size : Int) - 1 := by simp [IntKind.wrap, IntKind.bits, IntKind.signed]; omega
    go_enter Tryd.func58, Tryd.ntmps58
    go_wp2_with (go_at_call 72; refine HC.out.mono ?_; rintro r wx ⟨rfl, hw⟩; rw [hw]; clear hw wx)
    go_ret2
    exact ⟨by first | rfl | (simp [c3]), rfl⟩
set_option maxHeartbeats 1000000 in
set_option maxRecDepth 100000 in
theorem cut_calls (x : ByteArray) (w : World) (hx : x.size ≤ 9223372036854775807) :
    Calls Tryd.prog 40 #[.string x, .string ⟨#[10]⟩] w fun r w' => r = .returned (.tuple #[.string (cutN x).1, .bool (cutN x).2]) ∧ w' = w := by
  have HC := Lib.hid (cutIn_calls x w hx)
  generalize cutN x = p at *
  obtain ⟨a, b⟩ := p
  go_enter Tryd.func40, Tryd.ntmps40
  go_wp2_with (go_at_call 58; refine HC.out.mono ?_; rintro r wx ⟨rfl, hw⟩; rw [hw]; clear hw wx)
  go_ret2
  exact ⟨rfl, rfl⟩
end Go.Proofs.YtmnleabeipmhmaaDoor.P
end
