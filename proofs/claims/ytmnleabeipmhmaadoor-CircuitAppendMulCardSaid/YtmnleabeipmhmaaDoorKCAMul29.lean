/- What is proved here: a part of the proof of CircuitAppendMul: Cnu. No conditions beside those that each theorem states. -/
import Derived.Test.YtmnleabeipmhmaaDoorKCAMul16
import Derived.Test.YtmnleabeipmhmaaDoorKCAMul28
import Derived.Laws.OwnMore
section
set_option linter.unusedVariables false
set_option linter.unusedSimpArgs false
namespace Go.Proofs.YtmnleabeipmhmaaDoor.P
open Go.RowKit Go.Proofs.YtmnleabeipmhmaaDoorW.PrintWords Go.Proofs.YtmnleabeipmhmaaDoorW.PrintLast Go.Proofs.YtmnleabeipmhmaaDoorW.PrintMore
def zcy (f : Form) (b c d e : Int) : List Int := (if f.from_ then [IntKind.u64.wrap b] else []) ++ ((if f.k then [e] else []) ++ ((if f.a then [IntKind.u64.wrap c] else []) ++ (if f.b then [IntKind.u64.wrap d] else [])))
theorem numbers_f (f : Form) (a b c d e : Int) : zbf.f 2 ⟨f.word.toArray⟩ f.kind f.from_ f.k f.a f.b f.bit a b c d e = some (zcy f b c d e) := by
  obtain ⟨w, kind, fr, k, a', b', bit⟩ := f
  cases fr <;> cases k <;> cases a' <;> cases b' <;> simp [zbf.f, zbf.j0, zbf.j1, zcy]
theorem numbers_calls (f : Form) (a b c d e : Int) (w : World) :
    Calls Tryd.prog 35 #[.agg #[.string ⟨f.word.toArray⟩, .int .i64 f.kind, .bool f.from_, .bool f.k, .bool f.a, .bool f.b, .bool f.bit], .agg #[.int .i64 a, .int .i64 b, .int .i64 c, .int .i64 d, .int .u64 e]] w
      fun r w' => ∃ v : Value, r = .returned v ∧ Kd.R (Kd.int .u64) 22 w' w.heap.size (fun _ => True) v (zcy f b c d e) ∧ Below w.heap.size w w' :=
  zbf.calls 2 _ _ _ _ _ _ _ _ _ _ _ _ _ w (numbers_f f a b c d e)
theorem nums_length (f : Form) (b c d e : Int) : (zcy f b c d e).length ≤ 4 := by
  unfold zcy
  simp only [List.length_append]
  repeat' split
  all_goals simp
theorem wrap_u64 (x : Int) : 0 ≤ IntKind.u64.wrap x ∧ IntKind.u64.wrap x < 18446744073709551616 := by
  simp [IntKind.wrap, IntKind.bits, IntKind.signed]; omega
theorem one_C (w : World) (x : Int) : Kd.C (Kd.int .u64) (w.alloc (.cells #[.int .u64 x] 22)) (some ⟨w.heap.size, 0, none⟩) ([x] : List Int).length [x] := by
  have h := World.ownsRow_lit (base := w.heap.size) (e := 22) (size := 1) w #[.int .u64 x] 1 (Nat.le_refl _) (by decide) (by simp)
  have hR : Kd.R (Kd.int .u64) 22 (w.alloc (.cells #[.int .u64 x] 22)) w.heap.size (fun _ => True) (.slice (some ⟨w.heap.size, 0, none⟩) 1 1) [x] :=
    Kd.R_of_own (enc := Value.int .u64) (xs := [x]) (by simpa [encs] using h) (fun _ _ => trivial)
  exact (Kd.R_reads' hR).2.2
end Go.Proofs.YtmnleabeipmhmaaDoor.P
end
