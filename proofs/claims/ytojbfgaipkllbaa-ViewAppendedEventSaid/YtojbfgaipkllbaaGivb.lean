/- What is proved: the contract of view.Encode in the form that the printed functions take it in: the words of all events, each list behind its length, as bytes. -/
import Derived.Test.YtojbfgaipkllbaaPx2
import Derived.Test.YtojbfgaipkllbaaGiv
import Derived.Test.YtojbfgaipkllbaaVwa
set_option linter.unusedVariables false
namespace Go.Proofs.Ytojbfgaipkllbaa.P
open Go.RowKit Go.Proofs.YtojbfgaipkllbaaW.PrintWords

/-- The words of a list of lists. -/
def lg (x : List Int) : List Int := IntKind.u64.wrap (x.length : Int) :: x
def lw (l : List (List Int)) : List Int := IntKind.u64.wrap (l.length : Int) :: l.flatMap lg
theorem lg_length (x : List Int) : (lg x).length = x.length + 1 := by simp [lg]
theorem flat_le (l : List (List Int)) : l.length ≤ (l.flatMap lg).length := by
  induction l with
  | nil => simp
  | cons x l ih => simp only [List.flatMap_cons, List.length_append, lg_length, List.length_cons]; omega

theorem lists_go (l : List (List Int)) (hl : l.length ≤ 9223372036854775807) (d : Nat) : ∀ (k i : Nat) (acc : List Int), l.length - i = d → i ≤ l.length → d < k → acc.length + ((l.drop i).flatMap lg).length < 17592186044416 →
    codec_EncodeLists.l0 k acc l (l.length : Int) (i : Int) = codec_EncodeWords.f (acc ++ (l.drop i).flatMap lg) := by
  induction d with
  | zero =>
    intro k i acc hd hi hk hb
    obtain ⟨k, rfl⟩ : ∃ m, k = m + 1 := ⟨k - 1, by omega⟩
    simp only [codec_EncodeLists.l0]
    rw [if_neg (by omega), List.drop_of_length_le (by omega)]
    simp only [List.flatMap_nil, List.append_nil]
    cases codec_EncodeWords.f acc <;> rfl
  | succ d ih =>
    intro k i acc hd hi hk hb
    obtain ⟨k, rfl⟩ : ∃ m, k = m + 1 := ⟨k - 1, by omega⟩
    have hlt : i < l.length := by omega
    have hrd : rd_L1 l (i : Int) = l[i] := by simp [rd_L1, hlt]
    rw [List.drop_eq_getElem_cons hlt, List.flatMap_cons, List.length_append, lg_length] at hb
    simp only [codec_EncodeLists.l0]
    rw [if_pos (by omega), if_pos (by omega), if_pos (by omega), if_pos (by omega), hrd]
    simp only [Option.bind_some]
    rw [if_pos (by simp; omega), show wrap64 ((i : Int) + 1) = ((i + 1 : Nat) : Int) from by unfold wrap64; omega]
    rw [ih k (i + 1) _ (by omega) (by omega) (by omega) (by rw [List.length_append, List.length_append, List.length_singleton]; omega)]
    rw [List.drop_eq_getElem_cons hlt, List.flatMap_cons]
    simp [lg]

theorem lists_f (k : Nat) (l : List (List Int)) (hk : l.length < k) (hb : (lw l).length < 17592186044416) : codec_EncodeLists.f k l = codec_EncodeWords.f (lw l) := by
  have hf := flat_le l
  have hb' : 1 + (l.flatMap lg).length < 17592186044416 := by
    have : (lw l).length = 1 + (l.flatMap lg).length := by simp [lw]; omega
    omega
  unfold codec_EncodeLists.f
  have := lists_go l (by omega) l.length k 0 [IntKind.u64.wrap (l.length : Int)] (by omega) (by omega) hk (by simpa using hb')
  rw [show ((0 : Nat) : Int) = 0 from rfl] at this
  rw [this]
  rfl

theorem words_f (l : List Int) (h : l.length < 17592186044416) : codec_EncodeWords.f l = some ⟨(Enc.enc l).toArray⟩ := by
  unfold codec_EncodeWords.f; rw [gate_eq, if_pos (by rw [decide_eq_true_eq]; omega)]

def view_Encode.f (l0 : List S36) : Option ByteArray := if gate (decide ((lw (l0.map evw)).length < 17592186044416)) 1 = true then some ⟨(Enc.enc (lw (l0.map evw))).toArray⟩ else none

theorem ev_bound (l0 : List S36) (h : (lw (l0.map evw)).length < 17592186044416) : l0.length ≤ 5864062014805 ∧ ∀ e ∈ l0, e.f2.length + 2 ≤ 17592186044416 := by
  have key : ∀ l : List S36, 3 * l.length ≤ ((l.map evw).flatMap lg).length ∧ ∀ e ∈ l, e.f2.length + 2 ≤ ((l.map evw).flatMap lg).length := by
    intro l
    induction l with
    | nil => simp
    | cons x l ih =>
      obtain ⟨h1, h2⟩ := ih
      have hx : (lg (evw x)).length = x.f2.length + 3 := by simp [lg_length, evw]
      simp only [List.map_cons, List.flatMap_cons, List.length_append, List.length_cons, hx]
      refine ⟨by omega, fun e he => ?_⟩
      rcases List.mem_cons.1 he with rfl | he
      · omega
      · have := h2 e he; omega
  have hb : (lw (l0.map evw)).length = 1 + ((l0.map evw).flatMap lg).length := by simp [lw]; omega
  obtain ⟨h1, h2⟩ := key l0
  exact ⟨by omega, fun e he => by have := h2 e he; omega⟩

set_option maxHeartbeats 1000000 in
theorem view_Encode.calls (A0 : Option Addr) (c0 : Nat) (l0 : List S36) (r : ByteArray) (w : World) (hr0 : Kd.C k36 w A0 l0.length l0) (hc0 : l0.length ≤ c0) (h : view_Encode.f l0 = some r) :
    Calls Try.prog 12 #[.slice A0 l0.length c0] w fun e w' => e = .returned (.string r) ∧ Below w.heap.size w w' := by
  unfold view_Encode.f at h
  split at h
  case isFalse => cases h
  case isTrue hb =>
    rw [gate_eq, decide_eq_true_eq] at hb
    cases h
    obtain ⟨h1, h2⟩ := ev_bound l0 hb
    have hlists : codec_EncodeLists.f (l0.length + 1) (l0.map evw) = some ⟨(Enc.enc (lw (l0.map evw))).toArray⟩ := by
      rw [lists_f _ _ (by simp) hb, words_f _ hb]
    have hb1 : Below w.heap.size w (w.alloc (.cells #[.slice A0 l0.length c0] 27)) := (Below.refl _ _).alloc (Nat.le_refl _) _
    have hcol := Collect_calls w.heap.size A0 c0 l0 h2 h1 (w.alloc (.cells #[.slice A0 l0.length c0] 27)) w (by simp) (by simp) hb1 hr0
    have HC := Lib.hid hcol
    have HL := Lib.hid hlists
    have HB1 := Lib.hid hb1
    clear hcol hlists hb1 hr0 hb h1 h2
    go_enter Try.func12, Try.ntmps12
    go_wp2_with (go_at_call 23; refine (callsIn_wide.1 (lists_in Fence.wide 4 trivial rfl (.slice A0 l0.length c0) A0 l0.length c0 rfl w)).mono ?_; rintro e w' ⟨rfl, rfl⟩)
    refine HC.out.mono ?_
    rintro e w2 ⟨A', c', rfl, h1, hC, hb2⟩
    have hcall := codec_EncodeLists.calls (l0.length + 1) A' c' (l0.map evw) _ w2 (by rw [List.length_map]; exact hC) (by rw [List.length_map]; exact h1) HL.out
    rw [List.length_map] at hcall
    have HE := Lib.hid hcall
    have HB2 := Lib.hid hb2
    clear hcall hC hb2
    go_wp2_with fail
    refine HE.out.mono ?_
    rintro e w3 ⟨rfl, hb3⟩
    have HB3 := Lib.hid hb3
    clear hb3
    go_wp2
    go_ret
    exact ⟨rfl, below_step (below_step HB1.out HB2.out) HB3.out⟩
end Go.Proofs.Ytojbfgaipkllbaa.P
