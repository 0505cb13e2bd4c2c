/- What is proved: what codec.DecodeLists does, by cases of its text; the cuts; the loop. -/
/- What is proved: the contract of the reference's DecodeLists. -/
/- What is proved: the contracts of both DecodeLists at this seat's translation, in the form that the printed functions take them in. -/
import Derived.Test.YteagfdapkffncaaDoorJa
import Derived.Test.YteagfdapkffncaaDoorGat
import Derived.Deep.QuietTactic
import Derived.BigQuiet
import Derived.Lib.Hide
set_option linter.unusedVariables false
set_option linter.unusedSimpArgs false
namespace Go.Proofs.YteagfdapkffncaaDoor.P
open Go.RowKit Go.Proofs.YteagfdapkffncaaDoorW.PrintWords Go.Proofs.YteagfdapkffncaaDoorW.PrintLast Go.Proofs.YteagfdapkffncaaDoorW.PrintMore

/-- The lists that words tell, m lists still to come, acc behind us. -/
def listsD : Nat → List Int → List (List Int) → List (List Int) × Int
  | 0, rs, acc => if rs.isEmpty then (acc, 0) else ([], 7)
  | m + 1, rs, acc => match rs with
    | [] => ([], 7)
    | c :: r => if decide (c.toNat ≤ r.length) then listsD m (r.drop c.toNat) (acc ++ [r.take c.toNat]) else ([], 7)
def decodeL (ws : List Int) : List (List Int) × Int :=
  match ws with
  | [] => ([], 7)
  | n :: rest => listsD n.toNat rest []
def decodeS (l : List UInt8) : List (List Int) × Int := if decide (l.length % 8 = 0) then decodeL (dec (l.length / 8) l) else ([], 7)

abbrev FF (W : World) (ok : Nat → Prop) (A : Option Addr) (n : Nat) (xs : List Int) : Prop := Kd.F (Kd.int .u64) W ok A n xs

/-- xs[m:] -/
theorem cut_from {W : World} {ok : Nat → Prop} {A : Option Addr} {rs : List Int} {c m : Nat} (h : FF W ok A rs.length rs) (hc : rs.length ≤ c) (hm : m ≤ rs.length) :
    ∃ A2, (∀ W', (Instr.slice 22 (.slice A rs.length c) (some (.int .i64 (m : Int))) none none).run Tryd.prog W' = .ok (.slice A2 (rs.length - m) (c - m)) W') ∧ FF W ok A2 (rs.length - m) (rs.drop m) := by
  have hF := Kd.F_cut h hm hc
  rw [List.length_drop, show (Kd.int .u64).sz = 1 from rfl, Nat.mul_one] at hF
  have hu : Tryd.prog.underlying 22 = some (.slice (Tryd.prog.elem 22)) := by kernel_rfl
  have hs : ∀ W', (sizeOf (Tryd.prog.elem 22)).run Tryd.prog W' = .ok 1 W' := fun W' => by kernel_rfl
  refine ⟨_, fun W' => ?_, hF⟩
  rw [run_slice_l W' _ A rs.length c hu .i64 (m : Int) (by omega) (by omega), hs]
  simp [Result.andThen, sliced]
/-- xs[1:1+k:mx] -/
theorem cut_part {W : World} {ok : Nat → Prop} {A : Option Addr} {rs : List Int} {c k mx : Nat} (h : FF W ok A rs.length rs) (hc : rs.length ≤ c) (hk : 1 + k ≤ rs.length) (hmx : 1 + k ≤ mx) :
    FF W ok (if mx = 1 then A else A.map (·.add 1)) k ((rs.drop 1).take k) := by
  have h1 := Kd.F_take h hk
  have hl : (rs.take (1 + k)).length = 1 + k := by rw [List.length_take]; omega
  have h2 := Kd.F_cut (c := mx) h1 (m := 1) (by omega) (by omega)
  rw [List.length_drop, hl] at h2
  have e : (rs.take (1 + k)).drop 1 = (rs.drop 1).take k := by rw [List.drop_take, Nat.add_sub_cancel_left]
  rw [e, Nat.add_sub_cancel_left] at h2
  exact h2
theorem cut_three {W : World} {ok : Nat → Prop} {A : Option Addr} {rs : List Int} {c k : Nat} (h : FF W ok A rs.length rs) (hc : rs.length ≤ c) (hk : 1 + k ≤ rs.length) :
    ∃ A1, (∀ W', (Instr.slice 22 (.slice A rs.length c) (some (.int .i64 1)) (some (.int .i64 (1 + (k : Int)))) (some (.int .i64 (1 + (k : Int))))).run Tryd.prog W' = .ok (.slice A1 k k) W') ∧ FF W ok A1 k ((rs.drop 1).take k) := by
  have hu : Tryd.prog.underlying 22 = some (.slice (Tryd.prog.elem 22)) := by kernel_rfl
  have hs : ∀ W', (sizeOf (Tryd.prog.elem 22)).run Tryd.prog W' = .ok 1 W' := fun W' => by kernel_rfl
  refine ⟨_, fun W' => ?_, cut_part h hc hk (mx := 1 + k) (Nat.le_refl _)⟩
  rw [run_slice_lhm W' _ A rs.length c hu .i64 .i64 .i64 1 (1 + (k : Int)) (1 + (k : Int)) (by omega) (by omega) (Int.le_refl _) (by omega), hs]
  have e : (1 + (k : Int)).toNat = 1 + k := by omega
  simp [Result.andThen, sliced, e]
theorem cut_two {W : World} {ok : Nat → Prop} {A : Option Addr} {rs : List Int} {c k : Nat} (h : FF W ok A rs.length rs) (hc : rs.length ≤ c) (hk : 1 + k ≤ rs.length) :
    ∃ A1, (∀ W', (Instr.slice 22 (.slice A rs.length c) (some (.int .i64 1)) (some (.int .i64 (1 + (k : Int)))) none).run Tryd.prog W' = .ok (.slice A1 k (c - 1)) W') ∧ FF W ok A1 k ((rs.drop 1).take k) := by
  have hu : Tryd.prog.underlying 22 = some (.slice (Tryd.prog.elem 22)) := by kernel_rfl
  have hs : ∀ W', (sizeOf (Tryd.prog.elem 22)).run Tryd.prog W' = .ok 1 W' := fun W' => by kernel_rfl
  refine ⟨_, fun W' => ?_, cut_part h hc hk (mx := c) (by omega)⟩
  rw [run_slice_lh W' _ A rs.length c hu .i64 .i64 1 (1 + (k : Int)) (by omega) (by omega) (by omega), hs]
  have e : (1 + (k : Int)).toNat = 1 + k := by omega
  simp [Result.andThen, sliced, e]

/-- What DecodeWords hands over: a row of words, or nothing. -/
theorem words_calls (s : ByteArray) (hs : s.size ≤ 8000000) (w : World) :
    Calls Tryd.prog 14 #[.string s] w fun e w' => ∃ v0 : Value, e = .returned (.tuple #[v0, .int .i64 (if s.data.toList.length % 8 = 0 then 0 else 7)]) ∧ Kd.R (Kd.int .u64) 31 w' w.heap.size (fun _ => True) v0 (if s.data.toList.length % 8 = 0 then dec (s.data.toList.length / 8) s.data.toList else []) ∧ Below w.heap.size w w' := by
  have hsz : s.data.toList.length = s.size := by simp
  obtain ⟨l, rfl⟩ : ∃ l : List UInt8, s = ⟨l.toArray⟩ := ⟨s.data.toList, by obtain ⟨⟨l⟩⟩ := s; rfl⟩
  have hl : (⟨l.toArray⟩ : ByteArray).data.toList = l := rfl
  rw [hl] at hsz ⊢
  by_cases h8 : l.length % 8 = 0
  · rw [if_pos h8, if_pos h8]
    obtain ⟨k, hk⟩ := (decWords (l.length / 8) l (by omega) (by omega)).rounds
    exact codec_DecodeWords.calls k _ _ _ w hk
  · rw [if_neg h8, if_neg h8]
    have hk : codec_DecodeWords.f 1 ⟨l.toArray⟩ = some (([] : List Int), 7) := by
      unfold codec_DecodeWords.f
      rw [if_neg (by rw [← hsz]; omega)]
    exact codec_DecodeWords.calls 1 _ _ _ w hk

/-- The contract's post. -/
def Told (r : List (List Int) × Int) (w : World) (e : Ending) (w' : World) : Prop := ∃ v0_ : Value, e = .returned (.tuple #[v0_, .int .i64 r.2]) ∧ Kd.N (Kd.slice 31 (Kd.int .u64)) 22 w' w.heap.size (fun k_ => (w.heap.size ≤ k_)) v0_ r.1 ∧ Below w.heap.size w w'
theorem Told.nil {w w' : World} (hb : Below w.heap.size w w') : Told ([], 7) w (.returned (.tuple #[.slice none 0 0, .int .i64 7])) w' := ⟨_, rfl, Kd.N_nil _ _ _ _ _, hb⟩

set_option maxHeartbeats 4000000 in
set_option maxRecDepth 100000 in
theorem lists_bad (s : ByteArray) (hs : s.size ≤ 8000000) (h8 : ¬ s.data.toList.length % 8 = 0) (w : World) : Calls Tryd.prog 24 #[.string s] w (Told ([], 7) w) := by
  have hW := words_calls s hs w
  rw [if_neg h8, if_neg h8] at hW
  have HW := Lib.hid hW
  clear hW h8
  go_enter Tryd.func24, Tryd.ntmps24
  go_wp2_with (go_at_call 14; refine HW.out.mono ?_; rintro e w1 ⟨v0, rfl, hR, hB⟩)
  go_ret2
  exact Told.nil hB

set_option maxHeartbeats 4000000 in
set_option maxRecDepth 100000 in
theorem lists_none (s : ByteArray) (hs : s.size ≤ 8000000) (h8 : s.data.toList.length % 8 = 0) (hw0 : dec (s.data.toList.length / 8) s.data.toList = []) (w : World) : Calls Tryd.prog 24 #[.string s] w (Told ([], 7) w) := by
  have hW := words_calls s hs w
  rw [if_pos h8, if_pos h8, hw0] at hW
  have HW := Lib.hid hW
  clear hW h8 hw0
  go_enter Tryd.func24, Tryd.ntmps24
  go_wp2_with (go_at_call 14; refine HW.out.mono ?_; rintro e w1 ⟨v0, rfl, hR, hB⟩; obtain ⟨A, c, rfl⟩ := Kd.R_slice hR)
  go_ret2
  exact Told.nil hB

/-- What the loop carries: m lists to come, the words rs still unread, acc gathered. -/
def St (w : World) (n1 : Nat) (okw : Nat → Prop) (T : List (List Int) × Int) (m : Nat) (v7 v8 : Value) (wr : World) : Prop :=
  ∃ (rs : List Int) (A : Option Addr) (c : Nat) (acc : List (List Int)), v7 = .slice A rs.length c ∧ rs.length ≤ c ∧ FF wr okw A rs.length rs ∧
    Kd.N (Kd.slice 31 (Kd.int .u64)) 22 wr w.heap.size (fun k_ => (w.heap.size ≤ k_)) v8 acc ∧ (∀ k, okw k → some k ≠ v8.ownBlock ∧ w.heap.size ≤ k ∧ k < n1) ∧ Below w.heap.size w wr ∧ n1 ≤ wr.heap.size ∧
    listsD m rs acc = T ∧ (∀ x ∈ rs, U64 x) ∧ rs.length + acc.length ≤ 1000000

set_option maxHeartbeats 4000000 in
set_option maxRecDepth 100000 in
theorem lists_main (s : ByteArray) (hs : s.size ≤ 8000000) (h8 : s.data.toList.length % 8 = 0) (ws : List Int) (z : Nat) (rest : List Int) (hws : ws = (z : Int) :: rest) (hw0 : dec (s.data.toList.length / 8) s.data.toList = ws) (w : World) (T : List (List Int) × Int) (hT : listsD z rest [] = T) :
    Calls Tryd.prog 24 #[.string s] w (Told T w) := by
  have HT := Lib.hid hT
  clear hT
  have mixed : Tryd.prog.follows .mixedOrders = true := by kernel_rfl
  have hsz : s.data.toList.length = s.size := by simp
  have hU : ∀ x ∈ ws, U64 x := by rw [← hw0]; exact dec_u64 _ _
  have hL : ws.length ≤ 1000000 := by have := congrArg List.length hw0; rw [dec_length] at this; omega
  have hne : ws.length ≠ 0 := by rw [hws]; simp
  have hz : rd ws 0 = (z : Int) := by rw [hws]; rfl
  have hd1 : ws.drop 1 = rest := by rw [hws]; rfl
  have hzU : (z : Int) < 18446744073709551616 := (hU _ (by rw [hws]; exact List.mem_cons_self)).2
  have hW := words_calls s hs w
  rw [if_pos h8, if_pos h8, hw0] at hW
  have HW := Lib.hid hW
  have HU := Lib.hid hU
  have HZ := Lib.hid hz
  have HD1 := Lib.hid hd1
  have hb0 : ((ws.length : Int) == 0) = false := beq_eq_false_iff_ne.2 (by omega)
  clear hW h8 hw0 hU hsz hs hws hz hd1
  go_enter Tryd.func24, Tryd.ntmps24
  go_wp2_with (go_at_call 14; refine HW.out.mono ?_; rintro e w1 ⟨v0, rfl, hR, hB⟩; obtain ⟨A, c, rfl⟩ := Kd.R_slice hR)
  have hFF : FF w1 (fun k => (some k = (Value.slice A ws.length c).ownBlock ∧ w.heap.size ≤ k) ∧ k < w1.heap.size) A ws.length ws := Kd.F_bound (Kd.R_F (Kd.R_mono (Kd.R_bound (Kd.R_tight rfl hR)) (fun k hk => ⟨hk.1, hk.2.1⟩)))
  have hlc := (Kd.R_reads' hR).2.1
  obtain ⟨ad, rfl, hx0⟩ := Kd.at_int (Kd.F_now hFF) 0 (by omega) (by omega)
  rw [HZ.out] at hx0
  obtain ⟨A2, hcut0, hF2⟩ := cut_from hFF hlc (m := 1) (by omega)
  rw [HD1.out] at hF2
  have hcut : ∀ W', (Instr.slice 22 (.slice (some ad) ws.length c) (some (.int .i64 1)) none none).run Tryd.prog W' = .ok (.slice A2 (ws.length - 1) (c - 1)) W' := hcut0
  clear hcut0
  have hpos : 0 < ws.length := by omega
  have hx1 : w1.cell? ad = some (.int .u64 z) := hx0
  have hrl : rest.length = ws.length - 1 := by rw [← HD1.out, List.length_drop]
  rw [← hrl] at hcut hF2
  have HF2 := Lib.hid hF2
  have HRL := Lib.hid hrl
  have hrc : rest.length ≤ c - 1 := by omega
  clear hFF hrl hF2 hR
  go_quiet (fail)
  go_wp2_with fail
  have hF3 : FF (w1.drewN nq) (fun k => (some k = (Value.slice (some ad) ws.length c).ownBlock ∧ w.heap.size ≤ k) ∧ k < w1.heap.size) A2 rest.length rest := HF2.out
  have hB3 : Below w.heap.size w (w1.drewN nq) := hB.trans ⟨rfl, rfl, rfl, Nat.le_refl _, fun _ _ => rfl⟩
  have hU3 : ∀ x ∈ rest, U64 x := fun x hx => HU.out x (by rw [← HD1.out] at hx; exact List.mem_of_mem_drop hx)
  have hL3 : rest.length ≤ 1000000 := by have := HRL.out; omega
  have h3 : w1.heap.size ≤ (w1.drewN nq).heap.size := Nat.le_refl _
  generalize w1.drewN nq = w2 at *
  clear hx0 hx1 hcut hpos hne hb0 HZ HD1 HF2 HRL HW HU hL hB hlc
  generalize hok : (fun k => (some k = (Value.slice (some ad) ws.length c).ownBlock ∧ w.heap.size ≤ k) ∧ k < w1.heap.size) = okw at *
  have hokw : ∀ k, okw k → w.heap.size ≤ k ∧ k < w1.heap.size := fun k hk => by rw [← hok] at hk; exact ⟨hk.1.2, hk.2⟩
  clear hok
  generalize w1.heap.size = n1 at *
  clear w1
  go_loopw [6, 7, 8] (fun v6 v7 v8 wr => ∃ m : Nat, v6 = .int .u64 m ∧ (m : Int) < 18446744073709551616 ∧ St w n1 okw T m v7 v8 wr) (fun v6 _ _ _ => (intOf v6).toNat)
  case atStart => exact ⟨z, rfl, hzU, rest, A2, c - 1, [], rfl, hrc, hF3, Kd.N_nil _ _ _ _ _, fun k hk => ⟨by simp [Value.ownBlock], hokw k hk⟩, hB3, h3, HT.out, hU3, by simpa using hL3⟩
  case round =>
    clear hF3 hB3 h3 hU3 hL3 hrc hzU HT
    obtain ⟨m, rfl, hm, rs, A, c, acc, rfl, hc, hF, hN, hok, hB, hn1, hT, hU, hL⟩ := hrel
    have HT := Lib.hid hT
    have HU := Lib.hid hU
    have HM := Lib.hid hm
    clear hm
    have HF := Lib.hid hF
    have HN := Lib.hid hN
    have HOK := Lib.hid hok
    clear hT hU hF hN hok hokw
    by_cases hm0 : m = 0
    · subst hm0
      by_cases hr : rs = []
      · subst hr
        have hn := HN.out
        have ht := HT.out
        simp only [listsD, List.isEmpty_nil, if_true] at ht
        clear HN HT HF HU HOK
        go_wp2_with fail
        go_ret2
        rw [← ht]
        exact ⟨_, rfl, hn, hB⟩
      · have hpos : 0 < rs.length := List.length_pos_iff.2 hr
        have ht := HT.out
        simp only [listsD] at ht
        rw [if_neg (by simpa using hr)] at ht
        clear HN HT HF HU HOK
        go_wp2_with fail
        go_ret2
        rw [← ht]
        exact Told.nil hB
    · obtain ⟨p, hp⟩ : ∃ p, m = p + 1 := ⟨m - 1, by omega⟩
      have hmp : 0 < m := by omega
      by_cases hr : rs = []
      · subst hr
        have ht := HT.out
        rw [hp] at ht
        simp only [listsD] at ht
        have HTT := Lib.hid ht
        clear HN HT HF HU HOK hp ht
        go_wp2_with fail
        go_ret2
        rw [← HTT.out]
        exact Told.nil hB
      · have hpos : 0 < rs.length := List.length_pos_iff.2 hr
        obtain ⟨x, r, hxr⟩ : ∃ x r, rs = x :: r := by cases rs with | nil => exact absurd rfl hr | cons x r => exact ⟨x, r, rfl⟩
        obtain ⟨hx0, hx1⟩ := HU.out x (by rw [hxr]; exact List.mem_cons_self)
        obtain ⟨q, rfl⟩ : ∃ q : Nat, x = (q : Int) := ⟨x.toNat, by omega⟩
        obtain ⟨ad2, rfl, hcell⟩ := Kd.at_int (Kd.F_now HF.out) 0 (by omega) (by omega)
        rw [show rd rs 0 = (q : Int) by rw [hxr]; rfl] at hcell
        have hcl : wr.cell? ad2 = some (.int .u64 q) := hcell
        have hrl : rs.length = r.length + 1 := by rw [hxr]; rfl
        have ht := HT.out
        rw [hxr, hp] at ht
        simp only [listsD, Int.toNat_natCast] at ht
        have HP := Lib.hid hp
        clear hp
        have hdr : rs.drop 1 = r := by rw [hxr]; rfl
        have hq0 : (0 : Int) ≤ (q : Int) := hx0
        clear hx0 hx1
        have hUr : ∀ y ∈ r, U64 y := fun y hy => HU.out y (by rw [hxr]; exact List.mem_cons_of_mem _ hy)
        have HUR := Lib.hid hUr
        have HDR := Lib.hid hdr
        have HRL := Lib.hid hrl
        have hcv : IntKind.u64.wrap (r.length : Int) = (r.length : Int) := by simp [IntKind.wrap, IntKind.bits, IntKind.signed]; omega
        have hcw : wrap64 ((rs.length : Int) - 1) = (r.length : Int) := by unfold wrap64; omega
        have hbz : ((rs.length : Int) == 0) = false := beq_eq_false_iff_ne.2 (by omega)
        have HL := Lib.hid hL
        have HC := Lib.hid hc
        clear hcell hxr HU hr HT hUr hdr hL hc
        by_cases hq : q ≤ r.length
        · rw [if_pos (by simpa using hq)] at ht
          have hle : decide (r.length < q) = false := decide_eq_false (by omega)
          have HTT := Lib.hid ht
          have hlL := HL.out
          have hcC := HC.out
          obtain ⟨A1, hs1, hF1⟩ := cut_three HF.out hcC (k := q) (by omega)
          obtain ⟨A3, hs2, hF3⟩ := cut_from HF.out hcC (m := 1 + q) (by omega)
          rw [HDR.out] at hF1
          have hs3 : ∀ W', (Instr.slice 22 (.slice (some ad2) rs.length c) (some (.int .i64 (1 + (q : Int)))) none none).run Tryd.prog W' = .ok (.slice A3 (rs.length - (1 + q)) (c - (1 + q))) W' := hs2
          have hqb : q ≤ 1000000 := by omega
          have hqi : IntKind.i64.wrap (q : Int) = (q : Int) := by simp [IntKind.wrap, IntKind.bits, IntKind.signed]; omega
          have h1q : IntKind.i64.wrap (1 + (q : Int)) = 1 + (q : Int) := by simp [IntKind.wrap, IntKind.bits, IntKind.signed]; omega
          have hlen3 : rs.length - (1 + q) = r.length - q := by omega
          have hcap3 : r.length - q ≤ c - (1 + q) := by omega
          rw [hlen3] at hs3 hF3
          have HF1 := Lib.hid hF1
          have HF3 := Lib.hid hF3
          have HQ := Lib.hid hq
          have HAC : Hid (acc.length + 1 ≤ 1000000) := Lib.hid (by omega)
          clear hrl ht hq hF1 hF3 hs2 hlL hcC hlen3 HF
          go_wp2_with (at_builtin; refine Kd.N_append (Kd.slice 31 (Kd.int .u64)) (w0 := w) w.heap.size rfl (.tmp 48) (.tmp 55) 36 22 (.slice none 0 0) 24 rfl Tryd.underlying36 info22 rfl (by decide) (by omega) _ acc (r.take q) [.slice A1 q q] (fun k_ => w.heap.size ≤ k_) okw rfl rfl ?aP ?hokp ?hfresh HN.out hB ?hbase ?hl ?_)
          case aP =>
            have h1 := HF1.out
            have hqq := HQ.out
            have e : (r.take q).length = q := by rw [List.length_take]; omega
            have h2 : FF wr okw A1 (r.take q).length (r.take q) := by rw [e]; exact h1
            have h3 := Kd.FK_slice_mk (e := 31) (c := q) (by omega) h2
            rw [e] at h3
            exact h3
          case hokp => exact fun k hk => ⟨(HOK.out k hk).2.1, (HOK.out k hk).1⟩
          case hfresh => exact fun k hk => Nat.le_trans hB.size hk
          case hbase => exact hB.size
          case hl => have := HAC.out; omega
          intro v1 w5 hN5 hB5 hg5 hat5
          go_wp2_with fail
          have hp := HP.out
          have hmU := HM.out
          have hw : IntKind.u64.wrap ((m : Int) - 1) = (p : Int) := by simp [IntKind.wrap, IntKind.bits, IntKind.signed]; omega
          rw [hw]
          refine ⟨⟨p, rfl, by omega, r.drop q, A3, c - (1 + q), acc ++ [r.take q], by rw [List.length_drop], by rw [List.length_drop]; exact hcap3, ?_, hN5, ?_, hB5, Nat.le_trans hn1 hg5.size, HTT.out, fun y hy => HUR.out y (List.mem_of_mem_drop hy), ?_⟩, by simp only [intOf]; omega⟩
          · have h1 := HF3.out
            have e : rs.drop (1 + q) = r.drop q := by rw [← HDR.out, List.drop_drop]
            rw [e] at h1
            rw [List.length_drop]
            exact Kd.F_grown h1 hg5 (fun k hk => (HOK.out k hk).1)
          · intro k hk
            obtain ⟨h1, h2, h3⟩ := HOK.out k hk
            refine ⟨?_, h2, h3⟩
            rcases hat5 with hat | ⟨b, hb, hle2⟩
            · rw [hat]; exact h1
            · rw [hb]; intro he; injection he with he; omega
          · have h1 := HL.out
            have h2 := HRL.out
            have h3 := HQ.out
            simp only [List.length_drop, List.length_append, List.length_cons, List.length_nil]
            omega
        · rw [if_neg (by simpa using hq)] at ht
          have hgt : decide (r.length < q) = true := decide_eq_true (by omega)
          have HTT := Lib.hid ht
          clear HN HF HOK hrl ht hq
          go_wp2_with fail
          go_ret2
          rw [← HTT.out]
          exact Told.nil hB

end Go.Proofs.YteagfdapkffncaaDoor.P

set_option linter.unusedVariables false
set_option linter.unusedSimpArgs false
namespace Go.Proofs.YteagfdapkffncaaDoor.P
open Go.RowKit Go.Proofs.YteagfdapkffncaaDoorW.PrintWords Go.Proofs.YteagfdapkffncaaDoorW.PrintLast Go.Proofs.YteagfdapkffncaaDoorW.PrintMore

/-- What DecodeWords hands over: a row of words, or nothing. -/
theorem rwords_calls (s : ByteArray) (hs : s.size ≤ 8000000) (w : World) :
    Calls Tryd.prog 17 #[.string s] w fun e w' => ∃ v0 : Value, e = .returned (.tuple #[v0, .int .i64 (if s.data.toList.length % 8 = 0 then 0 else 7)]) ∧ Kd.R (Kd.int .u64) 31 w' w.heap.size (fun _ => True) v0 (if s.data.toList.length % 8 = 0 then dec (s.data.toList.length / 8) s.data.toList else []) ∧ Below w.heap.size w w' := by
  have hsz : s.data.toList.length = s.size := by simp
  obtain ⟨l, rfl⟩ : ∃ l : List UInt8, s = ⟨l.toArray⟩ := ⟨s.data.toList, by obtain ⟨⟨l⟩⟩ := s; rfl⟩
  have hl : (⟨l.toArray⟩ : ByteArray).data.toList = l := rfl
  rw [hl] at hsz ⊢
  by_cases h8 : l.length % 8 = 0
  · rw [if_pos h8, if_pos h8]
    obtain ⟨k, hk⟩ := (refDecWords (l.length / 8) l (by omega) (by omega)).rounds
    exact privityref03_DecodeWords.calls k _ _ _ w hk
  · rw [if_neg h8, if_neg h8]
    have hk : privityref03_DecodeWords.f 1 ⟨l.toArray⟩ = some (([] : List Int), 7) := by
      unfold privityref03_DecodeWords.f
      rw [if_neg (by rw [← hsz]; omega)]
    exact privityref03_DecodeWords.calls 1 _ _ _ w hk

set_option maxHeartbeats 4000000 in
set_option maxRecDepth 100000 in
theorem rlists_bad (s : ByteArray) (hs : s.size ≤ 8000000) (h8 : ¬ s.data.toList.length % 8 = 0) (w : World) : Calls Tryd.prog 27 #[.string s] w (Told ([], 7) w) := by
  have hW := rwords_calls s hs w
  rw [if_neg h8, if_neg h8] at hW
  have HW := Lib.hid hW
  clear hW h8
  go_enter Tryd.func27, Tryd.ntmps27
  go_wp2_with (go_at_call 17; refine HW.out.mono ?_; rintro e w1 ⟨v0, rfl, hR, hB⟩)
  go_ret2
  exact Told.nil hB

set_option maxHeartbeats 4000000 in
set_option maxRecDepth 100000 in
theorem rlists_none (s : ByteArray) (hs : s.size ≤ 8000000) (h8 : s.data.toList.length % 8 = 0) (hw0 : dec (s.data.toList.length / 8) s.data.toList = []) (w : World) : Calls Tryd.prog 27 #[.string s] w (Told ([], 7) w) := by
  have hW := rwords_calls s hs w
  rw [if_pos h8, if_pos h8, hw0] at hW
  have HW := Lib.hid hW
  clear hW h8 hw0
  go_enter Tryd.func27, Tryd.ntmps27
  go_wp2_with (go_at_call 17; refine HW.out.mono ?_; rintro e w1 ⟨v0, rfl, hR, hB⟩; obtain ⟨A, c, rfl⟩ := Kd.R_slice hR)
  go_ret2
  exact Told.nil hB

/-- As St, with the gathered lists named. -/
def StR (w : World) (n1 : Nat) (okw : Nat → Prop) (T : List (List Int) × Int) (m : Nat) (acc : List (List Int)) (v7 v8 : Value) (wr : World) : Prop :=
  ∃ (rs : List Int) (A : Option Addr) (c : Nat), v7 = .slice A rs.length c ∧ rs.length ≤ c ∧ FF wr okw A rs.length rs ∧
    Kd.N (Kd.slice 31 (Kd.int .u64)) 22 wr w.heap.size (fun k_ => (w.heap.size ≤ k_)) v8 acc ∧ (∀ k, okw k → some k ≠ v8.ownBlock ∧ w.heap.size ≤ k ∧ k < n1) ∧ Below w.heap.size w wr ∧ n1 ≤ wr.heap.size ∧
    listsD m rs acc = T ∧ (∀ x ∈ rs, U64 x) ∧ rs.length + acc.length ≤ 1000000
def slen : Value → Nat
  | .slice _ n _ => n
  | _ => 0

set_option maxHeartbeats 4000000 in
set_option maxRecDepth 100000 in
theorem rlists_main (s : ByteArray) (hs : s.size ≤ 8000000) (h8 : s.data.toList.length % 8 = 0) (ws : List Int) (z : Nat) (rest : List Int) (hws : ws = (z : Int) :: rest) (hw0 : dec (s.data.toList.length / 8) s.data.toList = ws) (w : World) (T : List (List Int) × Int) (hT : listsD z rest [] = T) :
    Calls Tryd.prog 27 #[.string s] w (Told T w) := by
  have HT := Lib.hid hT
  clear hT
  have mixed : Tryd.prog.follows .mixedOrders = true := by kernel_rfl
  have hsz : s.data.toList.length = s.size := by simp
  have hU : ∀ x ∈ ws, U64 x := by rw [← hw0]; exact dec_u64 _ _
  have hL : ws.length ≤ 1000000 := by have := congrArg List.length hw0; rw [dec_length] at this; omega
  have hne : ws.length ≠ 0 := by rw [hws]; simp
  have hz : rd ws 0 = (z : Int) := by rw [hws]; rfl
  have hd1 : ws.drop 1 = rest := by rw [hws]; rfl
  have hzU : (z : Int) < 18446744073709551616 := (hU _ (by rw [hws]; exact List.mem_cons_self)).2
  have hW := rwords_calls s hs w
  rw [if_pos h8, if_pos h8, hw0] at hW
  have HW := Lib.hid hW
  have HU := Lib.hid hU
  have HZ := Lib.hid hz
  have HD1 := Lib.hid hd1
  have hb0 : ((ws.length : Int) == 0) = false := beq_eq_false_iff_ne.2 (by omega)
  clear hW h8 hw0 hU hsz hs hws hz hd1
  go_enter Tryd.func27, Tryd.ntmps27
  go_wp2_with (
    go_at_call 17
    refine HW.out.mono ?_
    rintro e w1 ⟨v0, rfl, hR, hB⟩
    obtain ⟨A, c, rfl⟩ := Kd.R_slice hR
    have hFF : FF w1 (fun k => (some k = (Value.slice A ws.length c).ownBlock ∧ w.heap.size ≤ k) ∧ k < w1.heap.size) A ws.length ws := Kd.F_bound (Kd.R_F (Kd.R_mono (Kd.R_bound (Kd.R_tight rfl hR)) (fun k hk => ⟨hk.1, hk.2.1⟩)))
    have hlc := (Kd.R_reads' hR).2.1
    obtain ⟨ad, rfl, hx0⟩ := Kd.at_int (Kd.F_now hFF) 0 (by omega) (by omega)
    rw [HZ.out] at hx0
    obtain ⟨A2, hcut0, hF2⟩ := cut_from hFF hlc (m := 1) (by omega)
    rw [HD1.out] at hF2
    have hcut : ∀ W', (Instr.slice 22 (.slice (some ad) ws.length c) (some (.int .i64 1)) none none).run Tryd.prog W' = .ok (.slice A2 (ws.length - 1) (c - 1)) W' := hcut0
    clear hcut0
    have hpos : 0 < ws.length := by omega
    have hx1 : w1.cell? ad = some (.int .u64 z) := hx0
    have hrl : rest.length = ws.length - 1 := by rw [← HD1.out, List.length_drop]
    rw [← hrl] at hcut hF2
    have HF2 := Lib.hid hF2
    have HRL := Lib.hid hrl
    have hrc : rest.length ≤ c - 1 := by omega
    have HF0 := Lib.hid hFF
    have HLC := Lib.hid hlc
    clear hFF hrl hF2 hR hne hx0 hlc)
  have hF3 : FF w1 (fun k => (some k = (Value.slice (some ad) ws.length c).ownBlock ∧ w.heap.size ≤ k) ∧ k < w1.heap.size) A2 rest.length rest := HF2.out
  have hB3 : Below w.heap.size w w1 := hB
  have hU3 : ∀ x ∈ rest, U64 x := fun x hx => HU.out x (by rw [← HD1.out] at hx; exact List.mem_of_mem_drop hx)
  have hL3 : rest.length ≤ 1000000 := by have := HRL.out; omega
  have h3 : w1.heap.size ≤ w1.heap.size := Nat.le_refl _
  clear hx1 hcut hpos hb0 HZ HD1 HF2 HRL HW HU hB HLC HF0
  generalize hok : (fun k => (some k = (Value.slice (some ad) ws.length c).ownBlock ∧ w.heap.size ≤ k) ∧ k < w1.heap.size) = okw at *
  have hokw : ∀ k, okw k → w.heap.size ≤ k ∧ k < w1.heap.size := fun k hk => by rw [← hok] at hk; exact ⟨hk.1.2, hk.2⟩
  clear hok
  have hn0 : w1.heap.size = w1.heap.size := rfl
  generalize hn1e : w1.heap.size = n1 at hF3 h3 hokw hn0
  have h3' : n1 ≤ w1.heap.size := Nat.le_of_eq hn1e.symm
  clear h3 hn0 hn1e
  go_loopw [4, 7] (fun v4 v7 wr => ∃ (m : Nat) (acc : List (List Int)), acc.length + m = z ∧ StR w n1 okw T m acc v4 v7 wr) (fun v4 _ _ => slen v4)
  case atStart => exact ⟨z, [], Nat.zero_add _, rest, A2, c - 1, rfl, hrc, hF3, Kd.N_nil _ _ _ _ _, fun k hk => ⟨by simp [Value.ownBlock], hokw k hk⟩, hB3, h3', HT.out, hU3, by simpa using hL3⟩
  case round =>
    clear hF3 hB3 h3' hU3 hL3 hrc HT
    obtain ⟨m, acc, hmz, rs, A, c, rfl, hc, hF, hN, hok, hB, hn1, hT, hU, hL⟩ := hrel
    obtain ⟨AN, cN, rfl⟩ := Kd.N_slice hN
    have hcz : IntKind.u64.wrap (acc.length : Int) = (acc.length : Int) := by simp [IntKind.wrap, IntKind.bits, IntKind.signed]; omega
    have HMZ := Lib.hid hmz
    have hlt : decide (acc.length < z) = decide (0 < m) := decide_eq_decide.2 (by omega)
    have HT := Lib.hid hT
    have HU := Lib.hid hU
    clear hmz
    have HF := Lib.hid hF
    have HN := Lib.hid hN
    have HOK := Lib.hid hok
    clear hT hU hF hN hok hokw
    by_cases hm0 : m = 0
    · subst hm0
      have hlt2 : decide (acc.length < z) = false := hlt
      clear hlt
      by_cases hr : rs = []
      · subst hr
        have hn := HN.out
        have ht := HT.out
        simp only [listsD, List.isEmpty_nil, if_true] at ht
        clear HN HT HF HU HOK
        go_wp2_with fail
        go_ret2
        rw [← ht]
        exact ⟨_, rfl, hn, hB⟩
      · have hpos : 0 < rs.length := List.length_pos_iff.2 hr
        have ht := HT.out
        simp only [listsD] at ht
        rw [if_neg (by simpa using hr)] at ht
        clear HN HT HF HU HOK
        go_wp2_with fail
        go_ret2
        rw [← ht]
        exact Told.nil hB
    · obtain ⟨p, hp⟩ : ∃ p, m = p + 1 := ⟨m - 1, by omega⟩
      have hmp : 0 < m := by omega
      have hlt2 : decide (acc.length < z) = true := by rw [hlt]; exact decide_eq_true hmp
      clear hlt
      by_cases hr : rs = []
      · subst hr
        have ht := HT.out
        rw [hp] at ht
        simp only [listsD] at ht
        have HTT := Lib.hid ht
        clear HN HT HF HU HOK hp ht
        go_wp2_with fail
        go_ret2
        rw [← HTT.out]
        exact Told.nil hB
      · have hpos : 0 < rs.length := List.length_pos_iff.2 hr
        obtain ⟨x, r, hxr⟩ : ∃ x r, rs = x :: r := by cases rs with | nil => exact absurd rfl hr | cons x r => exact ⟨x, r, rfl⟩
        obtain ⟨hx0, hx1⟩ := HU.out x (by rw [hxr]; exact List.mem_cons_self)
        obtain ⟨q, rfl⟩ : ∃ q : Nat, x = (q : Int) := ⟨x.toNat, by omega⟩
        obtain ⟨ad2, rfl, hcell⟩ := Kd.at_int (Kd.F_now HF.out) 0 (by omega) (by omega)
        rw [show rd rs 0 = (q : Int) by rw [hxr]; rfl] at hcell
        have hcl : wr.cell? ad2 = some (.int .u64 q) := hcell
        have hrl : rs.length = r.length + 1 := by rw [hxr]; rfl
        have ht := HT.out
        rw [hxr, hp] at ht
        simp only [listsD, Int.toNat_natCast] at ht
        have HP := Lib.hid hp
        clear hp
        have hdr : rs.drop 1 = r := by rw [hxr]; rfl
        have hq0 : (0 : Int) ≤ (q : Int) := hx0
        clear hx0 hx1
        have hUr : ∀ y ∈ r, U64 y := fun y hy => HU.out y (by rw [hxr]; exact List.mem_cons_of_mem _ hy)
        have HUR := Lib.hid hUr
        have HDR := Lib.hid hdr
        have HRL := Lib.hid hrl
        have hcv : IntKind.u64.wrap (r.length : Int) = (r.length : Int) := by simp [IntKind.wrap, IntKind.bits, IntKind.signed]; omega
        have hcw : wrap64 ((rs.length : Int) - 1) = (r.length : Int) := by unfold wrap64; omega
        have hbz : ((rs.length : Int) == 0) = false := beq_eq_false_iff_ne.2 (by omega)
        have HL := Lib.hid hL
        have HC := Lib.hid hc
        clear hcell hxr HU hr HT hUr hdr hL hc
        by_cases hq : q ≤ r.length
        · rw [if_pos (by simpa using hq)] at ht
          have hle : decide (r.length < q) = false := decide_eq_false (by omega)
          have HTT := Lib.hid ht
          have hlL := HL.out
          have hcC := HC.out
          obtain ⟨A1, hs1, hF1⟩ := cut_two HF.out hcC (k := q) (by omega)
          obtain ⟨A3, hs2, hF3⟩ := cut_from HF.out hcC (m := 1 + q) (by omega)
          rw [HDR.out] at hF1
          have hs3 : ∀ W', (Instr.slice 22 (.slice (some ad2) rs.length c) (some (.int .i64 (1 + (q : Int)))) none none).run Tryd.prog W' = .ok (.slice A3 (rs.length - (1 + q)) (c - (1 + q))) W' := hs2
          have hqb : q ≤ 1000000 := by omega
          have hqi : IntKind.i64.wrap (q : Int) = (q : Int) := by simp [IntKind.wrap, IntKind.bits, IntKind.signed]; omega
          have h1q : IntKind.i64.wrap (1 + (q : Int)) = 1 + (q : Int) := by simp [IntKind.wrap, IntKind.bits, IntKind.signed]; omega
          have hlen3 : rs.length - (1 + q) = r.length - q := by omega
          have hcap3 : r.length - q ≤ c - (1 + q) := by omega
          rw [hlen3] at hs3 hF3
          have HF1 := Lib.hid hF1
          have HF3 := Lib.hid hF3
          have HQ := Lib.hid hq
          have HAC : Hid (acc.length + 1 ≤ 1000000) := Lib.hid (by omega)
          clear hrl ht hq hF1 hF3 hs2 hlL hcC hlen3 HF
          go_wp2_with (at_builtin; refine Kd.N_append (Kd.slice 31 (Kd.int .u64)) (w0 := w) w.heap.size rfl (.tmp 48) (.tmp 53) 36 22 (.slice none 0 0) 24 rfl Tryd.underlying36 info22 rfl (by decide) (by omega) _ acc (r.take q) [.slice A1 q (c - 1)] (fun k_ => w.heap.size ≤ k_) okw rfl rfl ?aP ?hokp ?hfresh HN.out hB ?hbase ?hl ?_)
          case aP =>
            have h1 := HF1.out
            have hqq := HQ.out
            have e : (r.take q).length = q := by rw [List.length_take]; omega
            have h2 : FF wr okw A1 (r.take q).length (r.take q) := by rw [e]; exact h1
            have h3 := Kd.FK_slice_mk (e := 31) (c := c - 1) (by have := HC.out; have := HRL.out; omega) h2
            rw [e] at h3
            exact h3
          case hokp => exact fun k hk => ⟨(HOK.out k hk).2.1, (HOK.out k hk).1⟩
          case hfresh => exact fun k hk => Nat.le_trans hB.size hk
          case hbase => exact hB.size
          case hl => have := HAC.out; omega
          intro v1 w5 hN5 hB5 hg5 hat5
          go_wp2_with fail
          have hp := HP.out
          have hmz := HMZ.out
          refine ⟨⟨p, acc ++ [r.take q], by simp only [List.length_append, List.length_cons, List.length_nil]; omega, r.drop q, A3, c - (1 + q), by rw [List.length_drop], by rw [List.length_drop]; exact hcap3, ?_, hN5, ?_, hB5, Nat.le_trans hn1 hg5.size, HTT.out, fun y hy => HUR.out y (List.mem_of_mem_drop hy), ?_⟩, by have := HRL.out; simp only [slen]; omega⟩
          · have h1 := HF3.out
            have e : rs.drop (1 + q) = r.drop q := by rw [← HDR.out, List.drop_drop]
            rw [e] at h1
            rw [List.length_drop]
            exact Kd.F_grown h1 hg5 (fun k hk => (HOK.out k hk).1)
          · intro k hk
            obtain ⟨h1, h2, h3⟩ := HOK.out k hk
            refine ⟨?_, h2, h3⟩
            rcases hat5 with hat | ⟨b, hb, hle2⟩
            · rw [hat]; exact h1
            · rw [hb]; intro he; injection he with he; omega
          · have h1 := HL.out
            have h2 := HRL.out
            have h3 := HQ.out
            simp only [List.length_drop, List.length_append, List.length_cons, List.length_nil]
            omega
        · rw [if_neg (by simpa using hq)] at ht
          have hgt : decide (r.length < q) = true := decide_eq_true (by omega)
          have HTT := Lib.hid ht
          clear HN HF HOK hrl ht hq
          go_wp2_with fail
          go_ret2
          rw [← HTT.out]
          exact Told.nil hB

end Go.Proofs.YteagfdapkffncaaDoor.P

set_option linter.unusedVariables false
set_option linter.unusedSimpArgs false
namespace Go.Proofs.YteagfdapkffncaaDoor.P
open Go.RowKit Go.Proofs.YteagfdapkffncaaDoorW.PrintWords Go.Proofs.YteagfdapkffncaaDoorW.PrintLast Go.Proofs.YteagfdapkffncaaDoorW.PrintMore

def codec_DecodeLists.f (s : ByteArray) : Option (List (List Int) × Int) := if gate (decide (s.size ≤ 8000000)) 1 = true then some (decodeS s.data.toList) else none
def privityref03_DecodeLists.f (s : ByteArray) : Option (List (List Int) × Int) := if gate (decide (s.size ≤ 8000000)) 1 = true then some (decodeS s.data.toList) else none

theorem lists_opened {s : ByteArray} {r : List (List Int) × Int} (h : (if gate (decide (s.size ≤ 8000000)) 1 = true then some (decodeS s.data.toList) else none) = some r) : s.size ≤ 8000000 ∧ r = decodeS s.data.toList := by
  by_cases hg : gate (decide (s.size ≤ 8000000)) 1 = true
  · rw [if_pos hg] at h
    have hg2 : decide (s.size ≤ 8000000) = true := by rw [gate_eq] at hg; exact hg
    exact ⟨of_decide_eq_true hg2, (Option.some.inj h).symm⟩
  · rw [if_neg hg] at h
    cases h

theorem codec_DecodeLists.calls (a0 : ByteArray) (r1 : List (List Int)) (r2 : Int) (w : World) (h : codec_DecodeLists.f a0 = some (r1, r2)) :
    Calls Tryd.prog 24 #[.string a0] w fun e w' => ∃ v0_ : Value, e = .returned (.tuple #[v0_, .int .i64 r2]) ∧ Kd.N (Kd.slice 31 (Kd.int .u64)) 22 w' w.heap.size (fun k_ => (w.heap.size ≤ k_)) v0_ r1 ∧ Below w.heap.size w w' := by
  obtain ⟨hs, he⟩ := lists_opened h
  have hr : Calls Tryd.prog 24 #[.string a0] w (Told (decodeS a0.data.toList) w) := by
    by_cases h8 : a0.data.toList.length % 8 = 0
    · rw [decodeS, if_pos (by simpa using h8)]
      cases hd : dec (a0.data.toList.length / 8) a0.data.toList with
      | nil => exact lists_none a0 hs h8 hd w
      | cons x rest =>
        obtain ⟨h0, h1⟩ := dec_u64 (a0.data.toList.length / 8) a0.data.toList x (by rw [hd]; exact List.mem_cons_self)
        obtain ⟨z, rfl⟩ : ∃ z : Nat, x = (z : Int) := ⟨x.toNat, by omega⟩
        exact lists_main a0 hs h8 _ z rest rfl hd w _ (by simp [decodeL])
    · rw [decodeS, if_neg (by simpa using h8)]
      exact lists_bad a0 hs h8 w
  rw [← he] at hr
  exact hr

theorem privityref03_DecodeLists.calls (a0 : ByteArray) (r1 : List (List Int)) (r2 : Int) (w : World) (h : privityref03_DecodeLists.f a0 = some (r1, r2)) :
    Calls Tryd.prog 27 #[.string a0] w fun e w' => ∃ v0_ : Value, e = .returned (.tuple #[v0_, .int .i64 r2]) ∧ Kd.N (Kd.slice 31 (Kd.int .u64)) 22 w' w.heap.size (fun k_ => (w.heap.size ≤ k_)) v0_ r1 ∧ Below w.heap.size w w' := by
  obtain ⟨hs, he⟩ := lists_opened h
  have hr : Calls Tryd.prog 27 #[.string a0] w (Told (decodeS a0.data.toList) w) := by
    by_cases h8 : a0.data.toList.length % 8 = 0
    · rw [decodeS, if_pos (by simpa using h8)]
      cases hd : dec (a0.data.toList.length / 8) a0.data.toList with
      | nil => exact rlists_none a0 hs h8 hd w
      | cons x rest =>
        obtain ⟨h0, h1⟩ := dec_u64 (a0.data.toList.length / 8) a0.data.toList x (by rw [hd]; exact List.mem_cons_self)
        obtain ⟨z, rfl⟩ : ∃ z : Nat, x = (z : Int) := ⟨x.toNat, by omega⟩
        exact rlists_main a0 hs h8 _ z rest rfl hd w _ (by simp [decodeL])
    · rw [decodeS, if_neg (by simpa using h8)]
      exact rlists_bad a0 hs h8 w
  rw [← he] at hr
  exact hr

end Go.Proofs.YteagfdapkffncaaDoor.P
