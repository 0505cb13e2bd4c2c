/- What is proved here: a part of the proof of CircuitAppendMul: Dec. No conditions beside those that each theorem states. -/
import Derived.Test.YtmnleabeipmhmaaDoorKCAMul9
import Derived.Test.YtmnleabeipmhmaaDoorKCAMul19
import Derived.Laws.Closers25b
import Derived.Lib.AtoiErrMem
import Derived.Test.YtmnleabeipmhmaaDoorKCAMul25
section
set_option linter.unusedVariables false
set_option linter.unusedSimpArgs false
namespace Go.Proofs.YtmnleabeipmhmaaDoor.P
open Go.RowKit Go.Proofs.YtmnleabeipmhmaaDoorW.PrintWords Go.Proofs.YtmnleabeipmhmaaDoorW.PrintLast Go.Proofs.YtmnleabeipmhmaaDoorW.PrintMore
theorem wrap_natD {i n : Nat} (h : i < n) (hn : n ≤ 9223372036854775807) : wrap64 ((i : Int) + 1) = ((i + 1 : Nat) : Int) := by unfold wrap64; omega
def zb9.f (n : Int) : Option ByteArray := if gate (decide (0 ≤ n) && decide (n < 18446744073709551616)) 1 = true then some ⟨(Lib.decDigits n.toNat).toArray⟩ else none
theorem zb9.calls (n : Int) (r : ByteArray) (w : World) (hLd : Ld w) (h : zb9.f n = some r) :
    Calls Tryd.prog 55 #[.int .u64 n] w fun e w' => e = .returned (.string r) ∧ Below w.heap.size w w' := by
  unfold zb9.f at h
  rw [gate_eq] at h
  split at h
  · next hl =>
    simp only [Bool.and_eq_true, decide_eq_true_eq] at hl
    obtain rfl := Option.some.inj h
    obtain ⟨n, rfl⟩ := Int.eq_ofNat_of_zero_le (a := n) hl.1
    exact Fmt.format n (by omega) w hLd.tab
  · cases h
theorem bt_natD (s : ByteArray) (i : Nat) (h : i < s.data.toList.length) : bt s (i : Int) = ((s.data.toList[i].toNat : Nat) : Int) := by
  have h2 : i < s.size := by simpa using h
  unfold bt
  rw [Int.toNat_natCast, dif_pos h2]
  rfl
theorem digits_go (s : ByteArray) (hs : s.size ≤ 9223372036854775807) (d : Nat) : ∀ i : Nat, s.size - i = d → i ≤ s.size →
    Ev (fun k => zbv.l0 k s (s.size : Int) (i : Int)) (Fmt.digitsB (s.data.toList.drop i)) := by
  have hsz : s.data.toList.length = s.size := by simp
  induction d with
  | zero =>
    intro i hd hi
    obtain rfl : i = s.size := by omega
    rw [List.drop_of_length_le (by omega)]
    exact Ev.step (f := fun _ => some true) (fun k => by simp only [zbv.l0]; rw [if_neg (by omega)]) (Ev.now _)
  | succ d ih =>
    intro i hd hi
    have hlt : i < s.data.toList.length := by omega
    have h1 := ih (i + 1) (by omega) (by omega)
    rw [List.drop_eq_getElem_cons hlt]
    have e : Fmt.digitsB (s.data.toList[i] :: s.data.toList.drop (i + 1)) = (Fmt.isDigit s.data.toList[i] && Fmt.digitsB (s.data.toList.drop (i + 1))) := rfl
    rw [e]
    unfold Fmt.isDigit
    by_cases c1 : 48 ≤ s.data.toList[i].toNat
    · by_cases c2 : s.data.toList[i].toNat ≤ 57
      · rw [decide_eq_true c1, decide_eq_true c2]
        exact Ev.step (fun k => by simp only [zbv.l0]; rw [if_pos (by omega), if_pos (by omega), if_pos (by omega), bt_natD _ _ hlt, if_neg (by omega), if_neg (by omega), wrap_natD (n := s.size) (by omega) hs]) h1
      · rw [decide_eq_false c2, Bool.and_false, Bool.false_and]
        exact Ev.step (f := fun _ => some false) (fun k => by simp only [zbv.l0]; rw [if_pos (by omega), if_pos (by omega), if_pos (by omega), bt_natD _ _ hlt, if_neg (by omega), if_pos (by omega)]) (Ev.now _)
    · rw [decide_eq_false c1, Bool.false_and, Bool.false_and]
      exact Ev.step (f := fun _ => some false) (fun k => by simp only [zbv.l0]; rw [if_pos (by omega), if_pos (by omega), if_pos (by omega), bt_natD _ _ hlt, if_pos (by omega)]) (Ev.now _)
theorem digits_ev (s : ByteArray) (hs : s.size ≤ 9223372036854775807) : Ev (fun k => zbv.f k s) (Fmt.digitsB s.data.toList) := digits_go s hs s.size 0 (by omega) (by omega)
theorem digits_calls (s : ByteArray) (hs : s.size ≤ 9223372036854775807) (w : World) : Calls Tryd.prog 81 #[.string s] w fun e w' => e = .returned (.bool (Fmt.digitsB s.data.toList)) ∧ zck w w' := by
  obtain ⟨k, hk⟩ := (digits_ev s hs).rounds
  exact zbv.calls k s _ w hk
theorem below_drawn (w : World) (n : Nat) : Below w.heap.size w (w.drewN n) := ⟨rfl, rfl, rfl, Nat.le_refl _, fun _ _ => rfl⟩
theorem below_either {w w2 : World} {n : Nat} {e : TypeId} {s : ByteArray} (h : w2 = w.drewN n ∨ w2 = Lib.bytesWorld (w.drewN n) e s) : Below w.heap.size w w2 := by
  rcases h with h | h
  · rw [h]; exact below_drawn _ _
  · rw [h]; exact (below_drawn _ _).trans (Lib.bytesWorld_below (w.drewN n) e s)
theorem below_after {w w2 : World} {n : Nat} (h : Below (w.drewN n).heap.size (w.drewN n) w2) : Below w.heap.size w w2 := (below_drawn w n).trans h
def parseD (l : List UInt8) : Nat × Int :=
  if l = [] then (0, 3) else if Fmt.digitsB l = true then (if 1 < l.length ∧ l.head? = some 48 then (0, 3) else if Fmt.value l < 18446744073709551616 then (Fmt.value l, 0) else (0, 2)) else (0, 3)
set_option maxHeartbeats 1000000 in
set_option maxRecDepth 100000 in
theorem parse_empty (w : World) : Calls Tryd.prog 74 #[.string ⟨#[]⟩] w fun e w' => e = .returned (.tuple #[.int .u64 0, .int .i64 3]) ∧ w = w' := by
  go_enter Tryd.func74, Tryd.ntmps74
  go_wp2_with fail
  go_ret2
  exact ⟨rfl, rfl⟩
set_option maxHeartbeats 1000000 in
set_option maxRecDepth 100000 in
theorem parse_bad (s : ByteArray) (hs : s.size ≤ 140737488355328) (hne : s.data.toList ≠ []) (hd : Fmt.digitsB s.data.toList = false) (w : World) :
    Calls Tryd.prog 74 #[.string s] w fun e w' => e = .returned (.tuple #[.int .u64 0, .int .i64 3]) ∧ Below w.heap.size w w' := by
  have hdc := digits_calls s (by omega)
  rw [hd] at hdc
  have HDC := Lib.hid hdc
  clear hdc hd
  go_enter Tryd.func74, Tryd.ntmps74
  go_wp2_with (go_at_call 81; refine (HDC.out _).mono ?_; rintro e w' ⟨rfl, ⟨n, rfl⟩⟩)
  all_goals (go_ret2; first | exact ⟨rfl, Below.refl _ _⟩ | exact ⟨rfl, below_drawn _ _⟩)
theorem ne_empty {s : ByteArray} (h : s.data.toList ≠ []) : s.toList ≠ [] := fun e => h (by rw [toList_nil_iff_emptyBytes] at e; subst e; rfl)
theorem bt_zero (s : ByteArray) (h : 0 < s.size) : bt s 0 = ((s[0].toNat : Nat) : Int) := by
  unfold bt
  rw [dif_pos (show (0 : Int).toNat < s.size from h)]
  rfl
set_option maxHeartbeats 2000000 in
set_option maxRecDepth 100000 in
theorem parse_good (s : ByteArray) (hs : s.size ≤ 140737488355328) (hne : s.data.toList ≠ []) (hd : Fmt.digitsB s.data.toList = true) (hz : ¬ (1 < s.size ∧ bt s 0 = 48)) (w : World) (hLd : Ld w) (hv : Fmt.value s.data.toList < 18446744073709551616) :
    Calls Tryd.prog 74 #[.string s] w fun e w' => e = .returned (.tuple #[.int .u64 (Fmt.value s.data.toList : Nat), .int .i64 0]) ∧ Below w.heap.size w w' := by
  have hdc := digits_calls s (by omega)
  have hpo := Tryd.strconv_ParseUint_10_at64_ok s (by omega) _ (Fmt.value_ok _ hd hne hv)
  rw [hd] at hdc
  have HDC := Lib.hid hdc
  have HPO := Lib.hid hpo
  generalize Fmt.value s.data.toList = v at *
  have hE := ne_empty hne
  have h0 : s.toList.isEmpty = false := by simpa using hE
  clear hdc hd hpo hLd
  go_enter Tryd.func74, Tryd.ntmps74
  go_wp2_with (first
    | (go_at_call 81; refine (HDC.out _).mono ?_; rintro e w' ⟨rfl, ⟨n, rfl⟩⟩)
    | (go_at_call 82; refine (HPO.out _).mono ?_; rintro e w2 ⟨rfl, hw2⟩))
  all_goals first
    | (have hbw := below_either hw2; clear hw2; go_ret2; exact ⟨rfl, hbw⟩)
    | (exfalso; rename_i q1 q2 q3; exact hz ⟨by omega, by rw [bt_zero s q2]; simpa using q3⟩)
set_option maxHeartbeats 2000000 in
set_option maxRecDepth 100000 in
theorem parse_zero (s : ByteArray) (hs : s.size ≤ 140737488355328) (hne : s.data.toList ≠ []) (hd : Fmt.digitsB s.data.toList = true) (hz : 1 < s.size ∧ bt s 0 = 48) (w : World) :
    Calls Tryd.prog 74 #[.string s] w fun e w' => e = .returned (.tuple #[.int .u64 0, .int .i64 3]) ∧ Below w.heap.size w w' := by
  have hdc := digits_calls s (by omega)
  rw [hd] at hdc
  have HDC := Lib.hid hdc
  have hE := ne_empty hne
  have h0 : s.toList.isEmpty = false := by simpa using hE
  obtain ⟨z1, z2⟩ := hz
  have z3 : 0 < s.size := by omega
  rw [bt_zero s z3] at z2
  have z4 : ((s[0].toNat : Nat) : Int) == 48 := by simpa using z2
  clear hdc hd z2
  go_enter Tryd.func74, Tryd.ntmps74
  go_wp2_with (go_at_call 81; refine (HDC.out _).mono ?_; rintro e w' ⟨rfl, ⟨n, rfl⟩⟩)
  all_goals (go_ret2; exact ⟨rfl, below_drawn _ _⟩)
set_option maxHeartbeats 2000000 in
set_option maxRecDepth 100000 in
theorem parse_great (s : ByteArray) (hs : s.size ≤ 140737488355328) (hne : s.data.toList ≠ []) (hd : Fmt.digitsB s.data.toList = true) (hz : ¬ (1 < s.size ∧ bt s 0 = 48)) (w : World) (hLd : Ld w) (hv : 18446744073709551616 ≤ Fmt.value s.data.toList) :
    Calls Tryd.prog 74 #[.string s] w fun e w' => e = .returned (.tuple #[.int .u64 0, .int .i64 2]) ∧ Below w.heap.size w w' := by
  have hdc := digits_calls s (by omega)
  obtain ⟨⟨te, pe, he⟩, _⟩ := hLd.errs
  have hpo := fun W hW => Tryd.strconv_ParseUint_10_at64_range s (by omega) (Fmt.value_range _ hd hne hv) (.iface te pe) W hW (.inr ⟨te, pe, rfl⟩)
  rw [hd] at hdc
  have HDC := Lib.hid hdc
  have HPO := Lib.hid hpo
  have HE := Lib.hid he
  clear hdc hd hpo hv he
  have hE := ne_empty hne
  have h0 : s.toList.isEmpty = false := by simpa using hE
  go_enter Tryd.func74, Tryd.ntmps74
  go_wp2_with (first
    | (go_at_call 81; refine (HDC.out _).mono ?_; rintro e w' ⟨rfl, ⟨n, rfl⟩⟩)
    | (go_at_call 82; refine (HPO.out _ ?_).mono ?_; exact HE.out; rintro e w2 ⟨N, rfl, hN1, hN2, hw2⟩))
  all_goals first
    | (have hbw := below_after hw2; clear hw2 hN2; go_ret2; exact ⟨rfl, hbw⟩)
    | (exfalso; rename_i q1 q2 q3; exact hz ⟨by omega, by rw [bt_zero s q2]; simpa using q3⟩)
def zcc.f (s : ByteArray) : Option (Int × Int) := if gate (decide (s.size ≤ 140737488355328)) 1 = true then some (((parseD s.data.toList).1 : Int), (parseD s.data.toList).2) else none
theorem zcc.calls (s : ByteArray) (r1 r2 : Int) (w : World) (hLd : Ld w) (h : zcc.f s = some (r1, r2)) :
    Calls Tryd.prog 74 #[.string s] w fun e w' => e = .returned (.tuple #[.int .u64 r1, .int .i64 r2]) ∧ Below w.heap.size w w' := by
  unfold zcc.f at h
  rw [gate_eq] at h
  split at h
  · next hl =>
    rw [decide_eq_true_eq] at hl
    simp only [Option.some.injEq, Prod.mk.injEq] at h
    obtain ⟨rfl, rfl⟩ := h
    unfold parseD
    by_cases h1 : s.data.toList = []
    · rw [if_pos h1]
      have e : s = ⟨#[]⟩ := by
        obtain ⟨⟨l⟩⟩ := s
        have : l = [] := h1
        rw [this]
      subst e
      refine (parse_empty w).mono ?_
      rintro e w' ⟨rfl, rfl⟩
      exact ⟨rfl, Below.refl _ _⟩
    · rw [if_neg h1]
      have hsz : s.data.toList.length = s.size := by simp
      by_cases h2 : Fmt.digitsB s.data.toList = true
      · rw [if_pos h2]
        have hh : (1 < s.data.toList.length ∧ s.data.toList.head? = some 48) ↔ (1 < s.size ∧ bt s 0 = 48) := by
          rw [hsz]
          constructor
          · rintro ⟨a, b⟩
            refine ⟨a, ?_⟩
            have z := bt_natD s 0 (by omega)
            rw [show ((0 : Nat) : Int) = 0 from rfl] at z
            rw [z]
            rw [List.head?_eq_getElem?, List.getElem?_eq_getElem (by omega)] at b
            rw [Option.some.inj b]; rfl
          · rintro ⟨a, b⟩
            refine ⟨a, ?_⟩
            have z := bt_natD s 0 (by omega)
            rw [show ((0 : Nat) : Int) = 0 from rfl] at z
            rw [z] at b
            rw [List.head?_eq_getElem?, List.getElem?_eq_getElem (by omega)]
            congr 1
            apply UInt8.toNat_inj.1
            have : (48 : UInt8).toNat = 48 := rfl
            omega
        by_cases h3 : 1 < s.data.toList.length ∧ s.data.toList.head? = some 48
        · rw [if_pos h3]
          exact parse_zero s hl h1 h2 (hh.1 h3) w
        · rw [if_neg h3]
          by_cases h4 : Fmt.value s.data.toList < 18446744073709551616
          · rw [if_pos h4]
            exact parse_good s hl h1 h2 (fun q => h3 (hh.2 q)) w hLd h4
          · rw [if_neg h4]
            exact parse_great s hl h1 h2 (fun q => h3 (hh.2 q)) w hLd (by omega)
      · rw [if_neg h2]
        exact parse_bad s hl h1 (by simpa using h2) w
  · cases h
end Go.Proofs.YtmnleabeipmhmaaDoor.P
end
