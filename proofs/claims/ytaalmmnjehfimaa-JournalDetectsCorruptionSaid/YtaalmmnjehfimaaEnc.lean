/- What is proved: the contract of codec.EncodeWords at this seat's translation: for every list of words of at most 2^47 bytes it returns the eight bytes of each word, lowest first. -/
import Derived.Test.YtaalmmnjehfimaaBld
import Derived.Test.YtaalmmnjehfimaaRng
import Derived.Lib.Hide
import Derived.Shelf.Abstract
import Derived.Test.YtaalmmnjehfimaaProg
set_option linter.unusedVariables false
set_option linter.unusedSimpArgs false
namespace Go.Proofs.Ytaalmmnjehfimaa.Enc
open Go.RowKit Go.Shelf Go.Proofs.Ytaalmmnjehfimaa.Rng
attribute [local go_sem] Oper.semAt_some

/-- Byte number k of a word. -/
def byteAt (x : Int) (k : Nat) : UInt8 := UInt8.ofNat ((x / 2 ^ (8 * k)) % 256).toNat
theorem byteAt_toNat (x : Int) (k : Nat) : (((byteAt x k).toNat : Nat) : Int) = (x / 2 ^ (8 * k)) % 256 := by
  have h0 : 0 ≤ (x / 2 ^ (8 * k)) % 256 := Int.emod_nonneg _ (by decide)
  have h1 : (x / 2 ^ (8 * k)) % 256 < 256 := Int.emod_lt_of_pos _ (by decide)
  unfold byteAt
  rw [UInt8.toNat_ofNat']
  omega
def upto (x : Int) (k : Nat) : List UInt8 := (List.range k).map (byteAt x)
theorem upto_succ (x : Int) (k : Nat) : upto x (k + 1) = upto x k ++ [byteAt x k] := by simp [upto, List.range_succ]
theorem upto_length (x : Int) (k : Nat) : (upto x k).length = k := by simp [upto]

set_option maxRecDepth 100000 in
set_option maxHeartbeats 2000000 in
theorem bytes_in (F : Fence) (n : Nat) (hf : F.fn 24) (hro : F.round = none) (x : Int) (w : World) :
    CallsIn F n Try.prog 24 #[.int .u64 x] w fun e w' => e = .returned (.func (.func 31) #[] #[.pointer (some ⟨w.heap.size, 0, none⟩)]) ∧ w' = w.alloc (.cells #[.int .u64 x] 39) := by
  refine callsIn_of_wp Try.func24 rfl hf ?_ hro
  simp only [Try.ntmps24, List.size_toArray, List.length_cons, List.length_nil, Nat.reduceAdd, Nat.reduceSub, Array.replicate_succ, Array.replicate_zero, List.push_toArray, List.append_toArray, List.nil_append, List.cons_append]
  gi_wp2
  go_ret
  exact ⟨rfl, rfl⟩

set_option maxRecDepth 100000 in
set_option maxHeartbeats 2000000 in
theorem bytes1_in (F : Fence) (n : Nat) (hf : F.fn 31) (hro : F.round = none) (hn : 1 ≤ n) (l Bw : Nat) (x : Int) (J : List UInt8 → World → Prop)
    (hY : ∀ pre (c : UInt8) W, J pre W → pre.length < 8 → YieldAt F (n - 1) Try.prog l #[.int .u8 (c.toNat : Int)] W fun e W' => e = .returned (.bool true) ∧ J (pre ++ [c]) W' ∧ W'.heap[Bw]? = W.heap[Bw]?)
    (W : World) (hB : W.heap[Bw]? = some (.cells #[.int .u64 x] 39 (0, 0))) (h0 : J [] W) :
    CallsIn F n Try.prog 31 #[.func (.yield l) #[] #[], .pointer (some ⟨Bw, 0, none⟩)] W fun e W' => (∃ v, e = .returned v) ∧ J (upto x 8) W' := by
  refine callsIn_of_wp Try.func31 rfl hf ?_ hro
  simp only [Try.ntmps31, List.size_toArray, List.length_cons, List.length_nil, Nat.reduceAdd, Nat.reduceSub, Array.replicate_succ, Array.replicate_zero, List.push_toArray, List.append_toArray, List.nil_append, List.cons_append]
  gi_wp2
  gi_loopw [4] (fun i wr => ∃ k : Nat, k ≤ 8 ∧ i = .int .i64 k ∧ J (upto x k) wr ∧ wr.heap[Bw]? = some (.cells #[.int .u64 x] 39 (0, 0)))
    (fun i _ => 8 - (intOf i).toNat)
  case atStart => exact ⟨0, Nat.zero_le _, rfl, h0, hB⟩
  case round =>
    obtain ⟨k, hk, rfl, hJs, hBr⟩ := hrel
    have hcx : wr.cell? ⟨Bw, 0, none⟩ = some (.int .u64 x) := by simp [World.cell?, hBr]
    have HBr := Lib.hid hBr
    clear hBr hB
    by_cases hlt : k < 8
    · obtain ⟨fn, tmps, assign, body, hy, hR⟩ := hY _ (byteAt x k) wr hJs (by rw [upto_length]; exact hlt)
      rw [byteAt_toNat] at hy
      gi_wp2
      refine hR.mono ?_
      rintro e W3 ⟨rfl, hJ3, hk3⟩
      have hB3 := hk3.trans HBr.out
      have HB3 := Lib.hid hB3
      clear hB3 hk3 HBr
      gi_wp2
      go_roundw
      case rel => exact ⟨k + 1, by omega, by simp, by rw [upto_succ]; exact hJ3, HB3.out⟩
      case measure => simp [intOf]; omega
    · obtain rfl : k = 8 := by omega
      gi_wp2
      go_end0
      exact ⟨⟨_, rfl⟩, hJs⟩

theorem bytes1_ok (F : Fence) (n : Nat) (hf : F.fn 31) (hro : F.round = none) (hn : 1 ≤ n) (Bw : Nat) (x : Int) (w : World) (hB : w.heap[Bw]? = some (.cells #[.int .u64 x] 39 (0, 0))) :
    SeqOk F n Try.prog 31 #[.pointer (some ⟨Bw, 0, none⟩)] (fun c : UInt8 => #[.int .u8 (c.toNat : Int)]) (fun _ _ => True) (fun W W' => W'.heap[Bw]? = W.heap[Bw]?) (fun xs _ => xs = upto x 8) 8 w := fun l J W hW hJ hY h0 => by
  refine (bytes1_in F n hf hro hn l Bw x J (fun pre c W1 hj hl => hY pre c W1 hj trivial hl) W ((hW.block _ (Array.getElem?_eq_some_iff.1 hB).1).trans hB) h0).mono ?_
  rintro e W' ⟨he, hj⟩
  exact ⟨he, _, rfl, hj⟩

def enc (l : List Int) : List UInt8 := l.flatMap fun x => upto x 8
theorem enc_nil : enc [] = [] := rfl
theorem enc_append (a b : List Int) : enc (a ++ b) = enc a ++ enc b := by simp [enc]
theorem enc_one (x : Int) : enc [x] = upto x 8 := by simp [enc]
theorem enc_length (l : List Int) : (enc l).length = 8 * l.length := by
  induction l with
  | nil => rfl
  | cons x l ih => rw [show x :: l = [x] ++ l from rfl, enc_append, List.length_append, ih, enc_one, upto_length, List.length_append]; simp; omega

set_option maxRecDepth 100000 in
set_option maxHeartbeats 2000000 in
theorem EncodeWords_calls (A0 : Option Addr) (c0 : Nat) (l0 : List Int) (w : World) (hr : ∀ k, k < l0.length → ∃ ad, A0 = some ad ∧ w.cell? (ad.add k) = some (.int .u64 (l0.getD k 0))) (hlen : l0.length * 8 ≤ 140737488355328) :
    Calls Try.prog 17 #[.slice A0 l0.length c0] w fun e w' => e = .returned (.string ⟨(enc l0).toArray⟩) ∧ Below w.heap.size w w' := by
  refine (callsIn_wide (n := 4)).1 ?_
  refine callsIn_of_wp_marks Try.func17 rfl trivial ?_ rfl
  simp only [Try.ntmps17, List.size_toArray, List.length_cons, List.length_nil, Nat.reduceAdd, Nat.reduceSub, Array.replicate_succ, Array.replicate_zero, List.push_toArray, List.append_toArray, List.nil_append, List.cons_append]
  gi_wp2
  refine wpIn_loop (fun a W => ∃ (k : Nat) (ds : List Deferred) (u5 u6 u10 u11 u12 u13 u14 u15 u16 u17 u18 u19 : Value), k ≤ l0.length ∧
      a = { tmps := #[.slice A0 l0.length c0, undef, .string { data := #[] }, .pointer (some ⟨w.heap.size, 0, none⟩), undef, u5, u6, .slice A0 l0.length c0, .int .i64 (l0.length : Int), .int .i64 (k : Int), u10, u11, u12, u13, u14, u15, u16, u17, u18, u19], defers := ds } ∧
      Marks ds w.heap.size W ∧ Bld.Is w.heap.size w.heap.size (Lib.byteCells (enc (l0.take k))) W ∧ Below w.heap.size w W)
    (fun a _ => l0.length - (intOf (a.tmps.getD 9 undef)).toNat)
    ⟨0, [], _, _, _, _, _, _, _, _, _, _, _, _, Nat.zero_le _, rfl, Marks.nil _ _, by simpa [enc, Lib.byteCells] using Bld.fresh w, (Below.refl _ _).alloc (Nat.le_refl _) _⟩ ?_
  rintro a W ⟨k, ds, u5, u6, u10, u11, u12, u13, u14, u15, u16, u17, u18, u19, hk, rfl, hm, hb, hB⟩
  have hsz := hB.size
  by_cases hlt : k < l0.length
  · obtain ⟨ad, rfl, hc⟩ := hr k hlt
    have hcW : W.cell? (ad.add k) = some (.int .u64 (l0.getD k 0)) := (hB.cell (World.block_lt_of_cell? w _ hc)).trans hc
    clear hr
    obtain ⟨x, hx⟩ : ∃ x, x = l0.getD k 0 := ⟨_, rfl⟩
    rw [← hx] at hcW
    have HX := Lib.hid hx
    clear hx hc
    gi_wp2_with (refine ⟨trivial, ?_⟩; gi_at_call 24; refine (bytes_in Fence.wide _ trivial rfl _ _).mono ?_; rintro e w' ⟨rfl, rfl⟩)
    have hBw : (W.alloc (.cells #[.int .u64 x] 39)).heap[W.heap.size]? = some (.cells #[.int .u64 x] 39 (0, 0)) := World.alloc_heap_new W _
    have hal : Below W.heap.size W (W.alloc (.cells #[.int .u64 x] 39)) := (Below.refl _ _).alloc (Nat.le_refl _) _
    have hm1 := hm.below hal
    have hb1 := hb.below hal
    have hB1 := hB.trans (hal.mono hsz)
    have hlen' : (Lib.byteCells (enc (l0.take k))).length + 8 ≤ 140737488355328 := by
      rw [Lib.byteCells_length, enc_length, List.length_take]; omega
    have hbl := hb.le
    obtain ⟨W1, hW1⟩ : ∃ W1, W.alloc (.cells #[.int .u64 x] 39) = W1 := ⟨_, rfl⟩
    rw [hW1] at hBw hm1 hb1 hB1 ⊢
    have hz1 : W1.heap.size = W.heap.size + 1 := by rw [← hW1]; simp
    have hold := hm1.old
    clear hal hm hb hB hcW hW1
    refine wpIn_rangeFunc_all rfl (by omega) (gf := 31) (lb := #[.pointer (some ⟨W.heap.size, 0, none⟩)]) rfl trivial (enters_of Try.func31 (by kernel_rfl) rfl)
      (bytes1_ok Fence.wide _ trivial rfl (by omega) W.heap.size x W1 hBw) (fun h1 h2 => h2.trans h1)
      (fun W2 l o o' hl _ _ _ => World.putObj_heap_other (by omega)) (Below.refl _ _) (fun _ => rfl) (fun _ _ _ _ _ _ _ _ h => h) (fun _ _ _ _ _ _ _ _ h => h)
      (fun pre W2 => Bld.Is w.heap.size w.heap.size (Lib.byteCells (enc (l0.take k) ++ pre)) W2 ∧ Below w.heap.size w W2 ∧ Marks ds w.heap.size W2 ∧ W2.heap[W.heap.size]? = some (.cells #[.int .u64 x] 39 (0, 0)) ∧ W1.heap.size ≤ W2.heap.size)
      ?own ?abides ⟨by simpa using hb1, hB1, hm1, hBw, Nat.le_refl _⟩
      (fun c => { tmps := #[.slice (some ad) l0.length c0, undef, .string { data := #[] }, .pointer (some ⟨w.heap.size, 0, none⟩), undef, .int .u64 x, .int .u8 (c.toNat : Int), .slice (some ad) l0.length c0, .int .i64 (l0.length : Int), .int .i64 (k : Int), .bool true, .pointer (some (ad.add k)), .int .u64 x, .int .u64 x, .func (.func 31) #[] #[.pointer (some ⟨W.heap.size, 0, none⟩)], .int .u8 (c.toNat : Int), u16, u17, u18, u19], defers := [] }) ?assign ?body ?done
    case own =>
      rintro s A C row ⟨h1, h2, h3, h4, h5⟩ hg hrow
      have hrow' : ∀ r, row = some r → ∃ o : Obj, A.heap[r]? = some o ∧ o.isCells = false := fun r e => (hrow r e).2
      refine ⟨h1.grown hg hrow', h2.grown hg (by omega) (fun r e => by have := (hrow r e).1; omega), ?_, ?_, by have := hg.size; omega⟩
      · exact h3.grown hg (fun r e x hx he => by have := hold x hx r he; have := (hrow r e).1; omega)
      · refine (hg.block _ (by omega) (fun e => ?_)).trans h4
        have := (hrow _ e.symm).1
        omega
    case abides =>
      rintro s A C ⟨h1, h2, h3, h4, h5⟩ hb
      exact ⟨h1.below hb, h2.trans (hb.mono (by omega)), h3.below hb, (hb.block _ (by omega)).trans h4, by have := hb.size; omega⟩
    case assign =>
      intro l x W K hK
      gi_wp2
      exact hK
    case body =>
      rintro l pre c W2 ⟨h1, h2, h3, h4, h5⟩ _ hpre
      have hln : (Lib.byteCells (enc (l0.take k) ++ pre)).length + 1 ≤ 140737488355328 := by
        rw [Lib.byteCells_length] at hlen' ⊢
        rw [List.length_append]; omega
      gi_wp2_with (refine ⟨trivial, ?_⟩; gi_at_call 25; refine (CallsIn.inRound l (callsIn_wide.2 (Bld.writeByte w.heap.size w.heap.size _ _ W2 h1 hln (by omega)))).mono ?_; rintro e W3 ⟨rfl, g1, g2, g3⟩)
      have hko := Bld.Oth.others h1 g2.size g3
      refine ⟨hko, ?_, ?_, h2.trans g2, h3.kept hko, ?_, by have := g2.size; omega⟩
      · exact (g3 _ _ h4 (fun e => by have := Option.some.inj e; omega) (fun _ _ e => by cases e)).trans h4.symm
      · rw [← List.append_assoc, Lib.byteCells_append]
        exact g1
      · exact g3 _ _ h4 (fun e => by have := Option.some.inj e; omega) (fun _ _ e => by cases e)
    case done =>
      rintro D xs W2 hD hDl rfl ⟨h1, h2, h3, h4, h5⟩ hK
      have hnx : enc (l0.take (k + 1)) = enc (l0.take k) ++ upto x 8 := by
        rw [List.take_succ_eq_append_getElem hlt, enc_append, enc_one, HX.out, List.getD_eq_getElem?_getD, List.getElem?_eq_getElem hlt, Option.getD_some]
      have HN := Lib.hid hnx
      clear hnx
      gi_wp2
      refine ⟨⟨k + 1, _, _, _, _, _, _, _, _, _, _, _, _, _, by omega, by rw [show ((k + 1 : Nat) : Int) = (k : Int) + 1 from rfl], h3.cons (by omega) hK (fun y hy he => by have := hold y hy D he; omega), ?_, h2⟩, ?_⟩
      · rw [HN.out]; exact h1
      · simp [intOf]; omega
  · obtain rfl : k = l0.length := by omega
    have hfin : Bld.Is w.heap.size w.heap.size (Lib.byteCells (enc l0)) W := by simpa using hb
    have HF := Lib.hid hfin
    clear hfin hb
    gi_wp2_with (refine ⟨trivial, ?_⟩; gi_at_call 26; refine (callsIn_wide.2 (Bld.string w.heap.size w.heap.size _ W HF.out hsz)).mono ?_; rintro e W3 ⟨rfl, g1, g2, g3⟩)
    exact leaves_marks ds W3 (hm.kept (Bld.Oth.others HF.out g2.size g3)) (fun W' hb' => ⟨_, results_tmp rfl _ _ _, rfl, (hB.trans g2).trans hb'⟩) (by have := g2.size; omega)

end Go.Proofs.Ytaalmmnjehfimaa.Enc
