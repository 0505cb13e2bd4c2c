/- What is proved here: a part of the proof of ElectionChangedVote: Bld, Dec, Px1, Epr, Ord. No conditions beside those that each theorem states. -/
import Derived.Shelf.Strings.BuilderK
import Derived.WalkKit
import Derived.RangeFuncOwn
import Derived.KernelRfl
import Derived.Test.YtkgdhdjkpnalmaaGreatDoorKECVte28
import Derived.Test.YtkgdhdjkpnalmaaGreatDoorProg
import Derived.Test.YtkgdhdjkpnalmaaGreatDoorKECVte4
import Derived.Lib.Hide
import Derived.OrdersHeld
import Derived.Deep.RegionHeld
set_option linter.unusedVariables false
set_option linter.unusedSimpArgs false
section
namespace Go.Proofs.YtkgdhdjkpnalmaaGreatDoor.Bld
open Go.RowKit
theorem infoByte : (Tryz.prog.info? 5).map (fun i => (i.zero,i.size,i.bytes)) = some (some (.int .u8 0),1,1):=by kernel_rfl
theorem sizeBuilder : (Tryz.prog.info? 57).map (fun i => i.size) = some 2:=by kernel_rfl
theorem liesBuilder : liesAt Tryz.prog Tryz.prog.depth 57 (2 / Tryz.prog.cellsOf 57) 0 57 1 = true:=by kernel_rfl
set_option maxHeartbeats 1000000 in
set_option maxRecDepth 100000 in
theorem check_used (b : Nat) (w : World) (h0 : w.cell? ⟨b,0,none⟩ = some (.pointer (some ⟨b,0,none⟩))) :
    Calls Tryz.prog 37 #[.pointer (some ⟨b,0,none⟩)] w fun e w' => e = .returned (.tuple #[])∧w' = w:=by
  obtain ⟨j,hj,_⟩:=Option.map_eq_some_iff.1 sizeBuilder
  go_enter Tryz.func37,Tryz.ntmps37
  go_wp2
  rw [Lib.run_neq_ptr_same w _ Tryz.underlying54 hj]
  go_wp2
  go_end0
  exact ⟨rfl,rfl⟩
set_option maxHeartbeats 1000000 in
set_option maxRecDepth 100000 in
theorem check_fresh (b : Nat) (w : World) (h0 : w.cell? ⟨b,0,none⟩ = some (.pointer none)) (hsh : w.shape? b = some (57,2)) (hfz : w.frozen? ⟨b,0,none⟩ = false) :
    Calls Tryz.prog 37 #[.pointer (some ⟨b,0,none⟩)] w fun e w' => e = .returned (.tuple #[])∧w' = w.setCell ⟨b,0,none⟩ (.pointer (some ⟨b,0,none⟩)):=by
  obtain ⟨j,hj,hjs⟩:=Option.map_eq_some_iff.1 sizeBuilder
  go_enter Tryz.func37,Tryz.ntmps37
  go_wp2
  rw [Lib.run_to_unsafe w ⟨b,0,none⟩ Tryz.underlying54 Tryz.underlying118 hj (by rw [hjs];decide) hsh (Nat.zero_lt_succ 1)]
  simp only [Result.andThen]
  rw [Oper.upon_value]
  go_wp2
  rw [run_callFunc_extern Tryz.func55 (by kernel_rfl) (by kernel_rfl) (by kernel_rfl) (e:=Extern.AbiNoEscape.same) (by kernel_rfl)]
  rw [Lib.run_noEscape]
  simp only [Result.andThen]
  rw [Oper.upon_value]
  go_wp2
  rw [Lib.run_from_unsafe w ⟨b,0,none⟩ Tryz.underlying118 Tryz.underlying54 hj hsh liesBuilder]
  simp only [Result.andThen]
  rw [Oper.upon_value]
  go_wp2
  go_end0
  exact ⟨rfl,rfl⟩
abbrev Is (B b : Nat) (bs : List Value) (w : World) : Prop:=Lib.IsBuilderF 57 5 B b bs w
abbrev Oth (b : Nat) (w w' : World) : Prop:=Lib.OthersKept 5 (some b) w w'
theorem check (B b : Nat) (bs : List Value) (w : World) (h : Is B b bs w) :
    Calls Tryz.prog 37 #[.pointer (some ⟨b,0,none⟩)] w fun e w' => e = .returned (.tuple #[])∧(Lib.BuilderAtF 57 5 B b (.pointer (some ⟨b,0,none⟩)) bs w'∧Below B w w'∧Oth b w w'):=by
  rcases h with h | h
  · refine (check_fresh b w h.cell0 h.shape h.frozen0).mono ?_
    rintro e w' ⟨rfl,rfl⟩
    exact ⟨rfl,h.used _,(Below.refl B w).setCell (p:=⟨b,0,none⟩) h.1 _,(Lib.OthersKept.refl _ _ w).setCell ⟨b,0,none⟩ rfl _⟩
  · refine (check_used b w h.cell0).mono ?_
    rintro e w' ⟨rfl,rfl⟩
    exact ⟨rfl,h,Below.refl B _,Lib.OthersKept.refl _ _ _⟩
set_option maxHeartbeats 2000000 in
set_option maxRecDepth 100000 in
theorem writeString (B b : Nat) (bs : List Value) (s : ByteArray) (w : World) (h : Is B b bs w) (hlen : bs.length + s.size≤140737488355328) (hBw : B≤w.heap.size) :
    Calls Tryz.prog 21 #[.pointer (some ⟨b,0,none⟩),.string s] w fun e w' => e = .returned (.tuple #[.int .i64 s.size,.nilIface])∧(Is B b (bs ++ Lib.strCells s) w'∧Below B w w'∧Oth b w w'):=by
  obtain ⟨i0,hi,hz0,hz1,hz2⟩:=info_parts infoByte
  go_enter Tryz.func21,Tryz.ntmps21
  go_wp2_with (go_at_call 37;refine (check B b bs _ h).mono ?_)
  rintro e w1 ⟨rfl,h1,hb1,hk1⟩
  obtain ⟨hB,v,hbk,hown,hne⟩:=h1
  have c0 : w1.cell? ⟨b,0,none⟩ = some (.pointer (some ⟨b,0,none⟩)):=by rw [Lib.cell_of_heap hbk];rfl
  have c1 : w1.cell? ⟨b,1,none⟩ = some v:=by rw [Lib.cell_of_heap hbk];rfl
  go_wp2_with (at_builtin;refine Lib.wpList_append_own_stringF _ rfl _ _ 55 9 rfl B 5 i0 Tryz.underlying55 Tryz.underlying9 hi hz0 hz1 hz2 _ _ _ rfl hown s rfl ?c3 ?c4 ?c5 ?_)
  case c3 => unfold maxLen;omega
  case c4 => omega
  case c5 => have:=hb1.size;omega
  intro v' w2 hown' hgrow _
  have hlt : b < w1.heap.size:=by
    rcases Nat.lt_or_ge b w1.heap.size with h' | h'
    · exact h'
    · simp [Array.getElem?_eq_none h'] at hbk
  have hb2 : w2.heap[b]? = some (.cells #[.pointer (some ⟨b,0,none⟩),v] 57 (0,0)):=by
    rw [hgrow.block b hlt (fun e => hne e.symm)]
    exact hbk
  have d0 : w2.cell? ⟨b,0,none⟩ = some (.pointer (some ⟨b,0,none⟩)):=by rw [Lib.cell_of_heap hb2];rfl
  have d1 : w2.cell? ⟨b,1,none⟩ = some v:=by rw [Lib.cell_of_heap hb2];rfl
  have f1 : w2.frozen? ⟨b,1,none⟩ = false:=Lib.frozen_of_heap hb2 1
  obtain ⟨ao,n',cap,rfl⟩ : ∃ ao n' cap,v' = .slice ao n' cap:=by
    rcases hown'.2 with ⟨hv,_⟩ | ⟨g,cap,cur,fz,hv,_⟩
    · exact ⟨_,_,_,hv⟩
    · exact ⟨_,_,_,hv⟩
  go_wp2
  go_ret2
  refine ⟨rfl,?_,?_,(hk1.grown hgrow (Lib.ownsRowF_kind hown)).setCell ⟨b,1,none⟩ rfl _⟩
  · exact Or.inr (Lib.BuilderAtF.put (T:=57) (e:=5) hB hb2 (bs':=bs ++ Lib.strCells s) (by simpa [Lib.strCells_length] using hown') (by decide))
  · exact (hb1.grown hgrow (by have:=hb1.size;omega) (fun k hk => (hown.lt k hk).1)).setCell (p:=⟨b,1,none⟩) hB _
theorem string (B b : Nat) (l : List UInt8) (w : World) (h : Is B b (Lib.byteCells l) w) (hBw : B≤w.heap.size) :
    Calls Tryz.prog 24 #[.pointer (some ⟨b,0,none⟩)] w fun e w' => e = .returned (.string ⟨l.toArray⟩)∧(Is B b (Lib.byteCells l) w'∧Below B w w'∧Oth b w w'):=Tryz.Builder_String_any_k B b l w h hBw
theorem fresh (w : World) : Is w.heap.size w.heap.size [] (w.alloc (.cells #[.pointer none,.slice none 0 0] 57)):=Lib.IsBuilderF.of (Lib.fresh_isBuilder _ _ w)
theorem Is.grown {B b : Nat} {bs : List Value} {w w' : World} {row : Option Nat} (h : Is B b bs w) (hg : w.grownBy w' row) (hr : ∀ r,row = some r→∃ o : Obj,w.heap[r]? = some o∧o.isCells = false) : Is B b bs w':=by
  have one : ∀ p,Lib.BuilderAtF 57 5 B b p bs w→Lib.BuilderAtF 57 5 B b p bs w':=by
    rintro p ⟨hB,v,hb,hown,hne⟩
    have hbr : some b≠row:=fun e => by
      obtain ⟨o,ho,hc⟩:=hr b e.symm
      rw [hb] at ho;cases ho;simp [Obj.isCells] at hc
    refine ⟨hB,v,(hg.block b (Array.getElem?_eq_some_iff.1 hb).1 hbr).trans hb,hown.kept hg ?_,hne⟩
    rcases hown.2 with ⟨rfl,_⟩ | ⟨g,cap,cur,fz,rfl,_,hgg,_⟩
    · exact .inl rfl
    · refine .inr fun e => ?_
      obtain ⟨o,ho,hc⟩:=hr g (by simpa [Value.ownBlock] using e.symm)
      rw [hgg] at ho;cases ho;simp [Obj.isCells] at hc
  exact h.elim (fun x => .inl (one _ x)) (fun x => .inr (one _ x))
theorem Is.below {B b : Nat} {bs : List Value} {w w' : World} (h : Is B b bs w) (hb : Below w.heap.size w w') : Is B b bs w' :=
  Is.grown (row:=none) h ⟨hb.os,hb.tape,hb.output,hb.size,fun k hk _ => hb.block k hk⟩ (fun r e => by cases e)
end Go.Proofs.YtkgdhdjkpnalmaaGreatDoor.Bld
end
section
namespace Go.Proofs.YtkgdhdjkpnalmaaGreatDoor.P
open Go.RowKit Go.Proofs.YtkgdhdjkpnalmaaGreatDoorW.PrintWords Go.Proofs.YtkgdhdjkpnalmaaGreatDoorW.PrintLast Go.Proofs.YtkgdhdjkpnalmaaGreatDoorW.PrintMore
def decB (i : Nat) : List UInt8:=if i < 10 then [UInt8.ofNat (48 + i)] else [UInt8.ofNat (48 + i / 10),UInt8.ofNat (48 + i % 10)]
theorem decB_le (i : Nat) : (decB i).length≤2:=by unfold decB;split <;> simp
theorem upto14 {i : Nat} (h : i < 14) : i = 0 ∨ i = 1 ∨ i = 2 ∨ i = 3 ∨ i = 4 ∨ i = 5 ∨ i = 6 ∨ i = 7 ∨ i = 8 ∨ i = 9 ∨ i = 10 ∨ i = 11 ∨ i = 12 ∨ i = 13:=by omega
set_option maxHeartbeats 4000000 in
set_option maxRecDepth 100000 in
theorem small_at (i : Nat) (h : i < 14) (w : World) : Calls Tryz.prog 70 #[.int .i64 (i : Int)] w fun e w' => e = .returned (.string ⟨(decB i).toArray⟩)∧w' = w:=by
  rcases upto14 h with rfl | rfl | rfl | rfl | rfl | rfl | rfl | rfl | rfl | rfl | rfl | rfl | rfl | rfl
  all_goals
    go_enter Tryz.func70,Tryz.ntmps70
    go_wp2
    go_ret
    exact ⟨by rfl,rfl⟩
theorem cast64 (i : Nat) (h : i < 14) : IntKind.i64.wrap (i : Int) = (i : Int):=(zc7 _).trans (by unfold wrap64;omega)
set_option maxHeartbeats 4000000 in
set_option maxRecDepth 100000 in
theorem fmt_in (i : Nat) (h : i < 14) (w : World) : Calls Tryz.prog 54 #[.int .u64 (i : Int),.int .i64 10] w fun e w' => e = .returned (.string ⟨(decB i).toArray⟩)∧w' = w:=by
  have h1:=cast64 i h
  have SM:=Aside0.mk (small_at i h)
  go_enter Tryz.func54,Tryz.ntmps54
  go_wp2_with (go_at_call 70;(try rw [h1]);refine (SM.out _).mono ?_;rintro e w2 ⟨rfl,rfl⟩)
  go_ret
  exact ⟨rfl,rfl⟩
set_option maxHeartbeats 4000000 in
set_option maxRecDepth 100000 in
theorem fmt_out (i : Nat) (h : i < 14) (w : World) : Calls Tryz.prog 35 #[.int .u64 (i : Int),.int .i64 10] w fun e w' => e = .returned (.string ⟨(decB i).toArray⟩)∧w' = w:=by
  have SM:=Aside0.mk (fmt_in i h)
  go_enter Tryz.func35,Tryz.ntmps35
  go_wp2_with (go_at_call 54;refine (SM.out _).mono ?_;rintro e w2 ⟨rfl,rfl⟩)
  go_ret
  exact ⟨rfl,rfl⟩
set_option maxHeartbeats 4000000 in
set_option maxRecDepth 100000 in
theorem dec_at (i : Nat) (h : i < 14) (w : World) : Calls Tryz.prog 19 #[.int .u64 (i : Int)] w fun e w' => e = .returned (.string ⟨(decB i).toArray⟩)∧w' = w:=by
  have SM:=Aside0.mk (fmt_out i h)
  go_enter Tryz.func19,Tryz.ntmps19
  go_wp2_with (go_at_call 35;refine (SM.out _).mono ?_;rintro e w2 ⟨rfl,rfl⟩)
  go_ret
  exact ⟨rfl,rfl⟩
def zdj.f (a0 : Int) : Option ByteArray:=if 0≤a0∧a0 < 14 then some ⟨(decB a0.toNat).toArray⟩ else none
theorem zdj.calls (a0 : Int) (r : ByteArray) (w : World) (h : zdj.f a0 = some r) :
    Calls Tryz.prog 19 #[.int .u64 a0] w fun e w' => e = .returned (.string r)∧Below w.heap.size w w':=by
  unfold zdj.f at h
  split at h
  · next hb =>
    obtain rfl:=Option.some.inj h
    obtain ⟨n,rfl⟩ : ∃ n : Nat,a0 = (n : Int):=⟨a0.toNat,by omega⟩
    refine (dec_at n (by omega) w).mono ?_
    rintro e w' ⟨rfl,rfl⟩
    exact ⟨by rw [Int.toNat_natCast],Below.refl _ _⟩
  · cases h
def widB (c : Nat) : Nat:=if c≤1 then 1 else if c≤3 then 2 else 3
set_option maxHeartbeats 4000000 in
set_option maxRecDepth 100000 in
theorem len_at (c : Nat) (h : c < 8) (w : World) : Calls Tryz.prog 36 #[.int .u64 (c : Int)] w fun e w' => e = .returned (.int .i64 (if c = 0 then 0 else (widB c : Int)))∧w' = w:=by
  have hc : c = 0 ∨ c = 1 ∨ c = 2 ∨ c = 3 ∨ c = 4 ∨ c = 5 ∨ c = 6 ∨ c = 7:=by omega
  rcases hc with rfl | rfl | rfl | rfl | rfl | rfl | rfl | rfl
  all_goals
    go_enter Tryz.func36,Tryz.ntmps36
    go_wp2
    go_ret
    exact ⟨by kernel_rfl,rfl⟩
set_option maxHeartbeats 4000000 in
set_option maxRecDepth 100000 in
theorem wid_at (c : Nat) (h1 : 1≤c) (h : c < 8) (w : World) : Calls Tryz.prog 20 #[.int .u64 (c : Int)] w fun e w' => e = .returned (.int .i64 (widB c : Int))∧w' = w:=by
  have SM:=Aside0.mk (len_at c h)
  have hp : 1≤widB c:=by
    unfold widB
    split
    · omega
    · split <;> omega
  go_enter Tryz.func20,Tryz.ntmps20
  go_wp2_with (go_at_call 36;refine (SM.out _).mono ?_;rw [if_neg (by omega)];rintro e w2 ⟨rfl,rfl⟩)
  go_ret
  exact ⟨by first | (simp;done) | (simp;omega),rfl⟩
end Go.Proofs.YtkgdhdjkpnalmaaGreatDoor.P
end
section
namespace Go.Proofs.YtkgdhdjkpnalmaaGreatDoor.P
open Go.RowKit Go.Proofs.YtkgdhdjkpnalmaaGreatDoorW.PrintWords Go.Proofs.YtkgdhdjkpnalmaaGreatDoorW.PrintLast Go.Proofs.YtkgdhdjkpnalmaaGreatDoorW.PrintMore
attribute [local go_sem] zcd zca zci zcj zb1 zb2 zcc zcb
def election_name.f (a0 : Int) : Option (ByteArray):=(zdj.f (IntKind.u64.wrap (a0))).bind fun t101 => (if 1 + t101.size≤9223372036854775807 then (some ((⟨#[118]⟩ : ByteArray) ++ t101)) else (none))
set_option maxHeartbeats 8000000 in
set_option maxRecDepth 100000 in
theorem election_name.calls (a0 : Int) (r : ByteArray) (w : World) (h : election_name.f a0 = some r) :
  Calls Tryz.prog 22 #[.int .i64 a0] w fun e w' => e = .returned (.string r)∧Below w.heap.size w w':=by
 have HB:=zA0 (Below.refl w.heap.size w);have H : ((zdj.f (IntKind.u64.wrap (a0))).bind fun t101 => (if 1 + t101.size≤9223372036854775807 then (some ((⟨#[118]⟩ : ByteArray) ++ t101)) else (none))) = some r:=h;clear h;replace H:=Option.bind_eq_some_iff.mp H;obtain ⟨t101,A20,H⟩:=H;replace H : (if 1 + t101.size≤9223372036854775807 then (some ((⟨#[118]⟩ : ByteArray) ++ t101)) else (none)) = some r:=H;have A2:=zA0 A20;clear A20
 by_cases c3 : 1 + t101.size≤9223372036854775807
 ·rw [if_pos c3] at H
  have c3b0:=eq_true c3;have c3b1 : decide (1 + t101.size≤9223372036854775807) = true:=decide_eq_true c3;(try have c3b2 : (9223372036854775807 < 1 + t101.size) = False:=eq_false (Nat.not_lt.2 c3));obtain rfl:=Option.some.inj H;go_enter Tryz.func22,Tryz.ntmps22
  go_wp2_with (first | ((with_reducible refine zav (f:=19) rfl ?_);refine zcf (some 5) rfl rfl Tryz.func19 (by kernel_rfl) rfl #[.int .u64 (IntKind.u64.wrap (a0))] rfl zt ?_;(with_reducible refine (zdj.calls (IntKind.u64.wrap (a0)) t101 _ A2.out).mono ?_);rintro e w4 ⟨rfl,hb⟩;refine ⟨_,rfl,?_⟩;have n0_:=zA0 (zaj (zs0 HB) hb);clear HB;revert n0_;intro HB;clear hb))
  go_ret;exact ⟨yq7,zs0 HB⟩
 ·rw [if_neg c3] at H
  exact absurd H (by simp)
end Go.Proofs.YtkgdhdjkpnalmaaGreatDoor.P
end
section
namespace Go.Proofs.YtkgdhdjkpnalmaaGreatDoor.P
open Go.RowKit Go.Proofs.YtkgdhdjkpnalmaaGreatDoorW.PrintWords Go.Proofs.YtkgdhdjkpnalmaaGreatDoorW.PrintLast Go.Proofs.YtkgdhdjkpnalmaaGreatDoorW.PrintMore
theorem name_f {i : Nat} (h : i < 14) : election_name.f (i : Int) = some ⟨((118 : UInt8) :: decB i).toArray⟩:=by
 have hw : IntKind.u64.wrap (i : Int) = (i : Int):=by
  have:=(upto14 h)
  rcases this with rfl | rfl | rfl | rfl | rfl | rfl | rfl | rfl | rfl | rfl | rfl | rfl | rfl | rfl <;> rfl
 unfold election_name.f zdj.f;rw [hw,if_pos ⟨by omega,by omega⟩,Int.toNat_natCast,Option.bind_some,if_pos (by have:=decB_le i;simp [ByteArray.size];omega)];exact congrArg some (ByteArray.ext (by simp))
def leafL (c i : Nat) : List UInt8:=[40] ++ (((118 : UInt8) :: decB i) ++ [32,61,61,32] ++ decB c ++ [32,63,32,49,32,58,32,48]) ++ [41]
def cntL (c : Nat) : Nat→Nat→Nat→List UInt8
 | 0,_,_ => []
 | k + 1,fr,tt => if fr = tt then leafL c fr else [40] ++ cntL c k fr ((fr + tt) / 2) ++ [32,43,32] ++ cntL c k ((fr + tt) / 2 + 1) tt ++ [41]
theorem leafL_le (c i : Nat) : (leafL c i).length≤40:=by have:=decB_le c;have:=decB_le i;simp [leafL];omega
theorem cntL_le (c : Nat) : ∀ k fr tt,tt - fr < k→fr≤tt→(cntL c k fr tt).length≤50 * (tt - fr + 1) - 5:=by
 intro k
 induction k with
 | zero => intro fr tt h;omega
 | succ k ih =>
  intro fr tt h1 h2;unfold cntL
  split
  ·have:=leafL_le c fr;omega
  ·have a:=ih fr ((fr + tt) / 2) (by omega) (by omega)
   have b:=ih ((fr + tt) / 2 + 1) tt (by omega) (by omega)
   simp;omega
def inL (w i : Nat) : List UInt8:=[105,110,32] ++ ((118 : UInt8) :: decB i) ++ [32,102,114,111,109,32] ++ decB i ++ [58,32] ++ decB w ++ [59,10]
def insL (w : Nat) (n : Nat) : List UInt8:=(List.range n).flatMap (fun i => inL w (i + 1))
def outL (n c : Nat) : List UInt8:=[111,117,116,32] ++ cntL c 13 1 n ++ [59,10]
def outsL (n c : Nat) : List UInt8:=(List.range c).flatMap (outL n)
def progL (n c : Nat) : List UInt8:=insL (widB (c - 1)) n ++ outsL n c
theorem insL_succ (w n : Nat) : insL w (n + 1) = insL w n ++ inL w (n + 1):=by simp [insL,List.range_succ]
theorem outsL_succ (n c : Nat) : outsL n (c + 1) = outsL n c ++ outL n c:=by simp [outsL,List.range_succ]
theorem inL_le (w i : Nat) : (inL w i).length≤30:=by have:=decB_le w;have:=decB_le i;simp [inL];omega
theorem insL_le (w n : Nat) : (insL w n).length≤30 * n:=by
 induction n with
 | zero => simp [insL]
 | succ n ih => rw [insL_succ,List.length_append];have:=inL_le w (n + 1);omega
theorem outsL_le {n : Nat} (h1 : 1≤n) (h2 : n≤13) (c : Nat) : (outsL n c).length≤1000 * c:=by
 induction c with
 | zero => simp [outsL]
 | succ c ih => rw [outsL_succ,List.length_append];have:=cntL_le c 13 1 n (by omega) h1;simp [outL];omega
theorem szl (l : List UInt8) : (⟨l.toArray⟩ : ByteArray).size = l.length:=by simp [ByteArray.size]
theorem szd (b : ByteArray) : b.data.size = b.size:=rfl
theorem sza (l : Array UInt8) : (⟨l⟩ : ByteArray).size = l.size:=rfl
theorem write (B b : Nat) (l : List UInt8) (w : World) (h : Hid (Bld.Is B b (Lib.byteCells l) w)) (hBw : B≤w.heap.size) (s : ByteArray) (hs : l.length + s.size≤140737488355328) :
  Calls Tryz.prog 21 #[.pointer (some ⟨b,0,none⟩),.string s] w fun e w' => e = .returned (.tuple #[.int .i64 s.size,.nilIface])∧Hid (Bld.Is B b (Lib.byteCells (l ++ s.data.toList)) w')∧Below B w w':=by
 refine (Bld.writeString B b (Lib.byteCells l) s w h.out (by rw [Lib.byteCells_length];exact hs) hBw).mono ?_;rintro e w' ⟨rfl,g1,g2,g3⟩;exact ⟨rfl,Lib.hid (by rw [Lib.byteCells_append,← Lib.strCells_eq];exact g1),g2⟩
theorem u64small {i : Nat} (h : i < 14) : IntKind.u64.wrap (i : Int) = (i : Int):=by
 rcases upto14 h with rfl | rfl | rfl | rfl | rfl | rfl | rfl | rfl | rfl | rfl | rfl | rfl | rfl | rfl <;> rfl
theorem name_at (i : Nat) (h : i < 14) (w : World) : Calls Tryz.prog 22 #[.int .i64 (i : Int)] w fun e w' => e = .returned (.string ⟨((118 : UInt8) :: decB i).toArray⟩)∧Below w.heap.size w w':=election_name.calls (i : Int) _ w (name_f h)
set_option maxHeartbeats 4000000 in
set_option maxRecDepth 100000 in
theorem count_leaf (B b c : Nat) (hc : c < 10) (i : Nat) (h2 : i < 14) (l : List UInt8) (w : World) (hI : Bld.Is B b (Lib.byteCells l) w) (hBw : B≤w.heap.size) (hl : l.length + (leafL c i).length≤140737488355328) :
  Calls Tryz.prog 23 #[.pointer (some ⟨b,0,none⟩),.int .i64 (i : Int),.int .i64 (i : Int),.int .i64 (c : Int)] w fun e w' => e = .returned (.tuple #[])∧Bld.Is B b (Lib.byteCells (l ++ leafL c i)) w'∧Below B w w':=by
 have NM:=Lib.hid (name_at i h2);have DC:=Lib.hid (dec_at c (by omega));have hu:=u64small (i:=c) (by omega);have hd1:=decB_le i;have hd2:=decB_le c;have HF : Hid (leafL c i = [40] ++ (((118 : UInt8) :: decB i) ++ [32,61,61,32] ++ decB c ++ [32,63,32,49,32,58,32,48]) ++ [41]):=Lib.hid rfl
 have hs1 : ((118 : UInt8) :: decB i).length≤3:=by simp;omega
 generalize leafL c i = L at *;generalize (118 : UInt8) :: decB i = s1 at *;generalize decB c = s2 at *;clear hd1
 have hL : L.length = s1.length + s2.length + 14:=by rw [HF.out];simp;omega
 have x1 : ¬ 9223372036854775807 < s1.length + 4:=by omega
 have x2 : ¬ 9223372036854775807 < s1.length + 4 + s2.length:=by omega
 have x3 : ¬ 9223372036854775807 < s1.length + 4 + s2.length + 8:=by omega
 have HI:=Lib.hid hI;clear hI;go_enter Tryz.func23,Tryz.ntmps23
 go_wp2_with (first
  | (go_at_call 22;refine (NM.out _).mono ?_;rintro e w2 ⟨rfl,b2⟩)
  | (go_at_call 19;(try rw [hu]);refine (DC.out _).mono ?_;rintro e w3 ⟨rfl,rfl⟩)
  | (go_at_call 21;refine (write B b l w HI hBw _ (by simp only [sza,List.size_toArray,List.length_cons,List.length_nil];omega)).mono ?_;rintro e w1 ⟨rfl,HI1,b1⟩))
 have z1:=b1.size;have z2:=b2.size;refine (write B b _ w3 (Lib.hid (HI1.out.below b2)) (by omega) _ yq186).mono ?_;rintro e w4 ⟨rfl,HI4,b4⟩;have z4:=b4.size
 go_wp2_with fail
 refine (write B b _ w4 HI4 (by omega) _ yq186).mono ?_;rintro e w5 ⟨rfl,HI5,b5⟩;go_wp2
 first | go_end0 | ((try simp only [Exit.inBlock,Exit.then]);refine bodyPost_ret (results_none rfl _ _ _) rfl ?_)
 refine ⟨rfl,cast (congrArg (fun l => Bld.Is B b (Lib.byteCells l) w5) ?_) HI5.out,(b1.trans (b2.mono (by have:=b1.size;omega))).trans (b4.trans b5)⟩
 rw [HF.out];simp
theorem half_facts {fr tt : Nat} (h1 : fr≤tt) (h2 : tt < 14) (he : ¬ fr = tt) : Int.tdiv ((fr : Int) + (tt : Int)) 2 = (((fr + tt) / 2 : Nat) : Int)∧wrap64 ((fr : Int) + (tt : Int)) = (fr : Int) + (tt : Int)∧((fr : Int) == (tt : Int)) = false∧(fr + tt) / 2 < 14∧wrap64 ((((fr + tt) / 2 : Nat) : Int) + 1) = (((fr + tt) / 2 + 1 : Nat) : Int)∧wrap64 (((fr + tt) / 2 : Nat) : Int) = (((fr + tt) / 2 : Nat) : Int):=by
 refine ⟨?_,?_,?_,?_,?_,?_⟩
 ·rw [Int.tdiv_eq_ediv_of_nonneg (by omega)];omega
 ·unfold wrap64;omega
 ·simp;omega
 ·omega
 ·unfold wrap64;omega
 ·unfold wrap64;omega
theorem half_ih {fr tt k : Nat} (h1 : fr≤tt) (hk : tt - fr < k + 1) (he : ¬ fr = tt) : ((fr + tt) / 2 - fr < k∧fr≤(fr + tt) / 2)∧tt - ((fr + tt) / 2 + 1) < k∧(fr + tt) / 2 + 1≤tt:=by omega
theorem cnt_len (LA LB : List UInt8) : ([40] ++ LA ++ [32,43,32] ++ LB ++ [41] : List UInt8).length = LA.length + LB.length + 5:=by simp;omega
theorem cnt_cut (c : Nat) {k fr tt : Nat} (he : ¬ fr = tt) : cntL c (k + 1) fr tt = [40] ++ cntL c k fr ((fr + tt) / 2) ++ [32,43,32] ++ cntL c k ((fr + tt) / 2 + 1) tt ++ [41]:=if_neg he
theorem cnt_one (c k fr : Nat) : cntL c (k + 1) fr fr = leafL c fr:=if_pos rfl
set_option maxHeartbeats 4000000 in
set_option maxRecDepth 100000 in
theorem count_node (B b c fr tt m : Nat) (LA LB : List UInt8) (hh : Int.tdiv ((fr : Int) + (tt : Int)) 2 = (m : Int)) (hw1 : wrap64 ((fr : Int) + (tt : Int)) = (fr : Int) + (tt : Int)) (hne : ((fr : Int) == (tt : Int)) = false) (hw0 : wrap64 (m : Int) = (m : Int)) (hw2 : wrap64 ((m : Int) + 1) = ((m + 1 : Nat) : Int))
  (IA : ∀ (l : List UInt8) (w : World),Bld.Is B b (Lib.byteCells l) w→B≤w.heap.size→l.length + LA.length≤140737488355328→Calls Tryz.prog 23 #[.pointer (some ⟨b,0,none⟩),.int .i64 (fr : Int),.int .i64 (m : Int),.int .i64 (c : Int)] w fun e w' => e = .returned (.tuple #[])∧Bld.Is B b (Lib.byteCells (l ++ LA)) w'∧Below B w w')
  (IB : ∀ (l : List UInt8) (w : World),Bld.Is B b (Lib.byteCells l) w→B≤w.heap.size→l.length + LB.length≤140737488355328→Calls Tryz.prog 23 #[.pointer (some ⟨b,0,none⟩),.int .i64 ((m + 1 : Nat) : Int),.int .i64 (tt : Int),.int .i64 (c : Int)] w fun e w' => e = .returned (.tuple #[])∧Bld.Is B b (Lib.byteCells (l ++ LB)) w'∧Below B w w')
  (l : List UInt8) (w : World) (hI : Bld.Is B b (Lib.byteCells l) w) (hBw : B≤w.heap.size) (hl : l.length + (LA.length + LB.length + 5)≤140737488355328) :
  Calls Tryz.prog 23 #[.pointer (some ⟨b,0,none⟩),.int .i64 (fr : Int),.int .i64 (tt : Int),.int .i64 (c : Int)] w fun e w' => e = .returned (.tuple #[])∧Bld.Is B b (Lib.byteCells (l ++ ([40] ++ LA ++ [32,43,32] ++ LB ++ [41]))) w'∧Below B w w':=by
 have JA:=Lib.hid IA;have JB:=Lib.hid IB;have HI:=Lib.hid hI;clear hI IA IB;go_enter Tryz.func23,Tryz.ntmps23
 go_wp2_with fail
 refine (write B b l w HI hBw _ (by simp only [szl,sza,List.size_toArray,List.length_cons,List.length_nil];omega)).mono ?_;rintro e w1 ⟨rfl,HI1,b1⟩;have z1:=b1.size
 go_wp2_with fail
 rw [hw0];refine (JA.out _ w1 HI1.out (by omega) (by simp only [List.length_append,List.length_cons,List.length_nil];omega)).mono ?_;rintro e w2 ⟨rfl,g2,b2⟩;have z2:=b2.size;have HI2:=Lib.hid g2;clear g2
 go_wp2_with fail
 refine (write B b _ w2 HI2 (by omega) _ (by simp only [List.length_append,szl,sza,List.size_toArray,List.length_cons,List.length_nil];omega)).mono ?_;rintro e w3 ⟨rfl,HI3,b3⟩;have z3:=b3.size
 go_wp2_with fail
 rw [hw2];refine (JB.out _ w3 HI3.out (by omega) (by simp only [List.length_append,List.length_cons,List.length_nil];omega)).mono ?_;rintro e w4 ⟨rfl,g4,b4⟩;have z4:=b4.size;have HI4:=Lib.hid g4;clear g4
 go_wp2_with fail
 refine (write B b _ w4 HI4 (by omega) _ (by simp only [List.length_append,szl,sza,List.size_toArray,List.length_cons,List.length_nil];omega)).mono ?_;rintro e w5 ⟨rfl,HI5,b5⟩;go_wp2
 first | go_end0 | ((try simp only [Exit.inBlock,Exit.then]);refine bodyPost_ret (results_none rfl _ _ _) rfl ?_)
 refine ⟨rfl,cast (congrArg (fun l => Bld.Is B b (Lib.byteCells l) w5) ?_) HI5.out,(((b1.trans b2).trans b3).trans b4).trans b5⟩;simp
theorem count_at (B b c : Nat) (hc : c < 10) : ∀ (k fr tt : Nat),tt - fr < k→fr≤tt→tt < 14→∀ (l : List UInt8) (w : World),Bld.Is B b (Lib.byteCells l) w→B≤w.heap.size→l.length + (cntL c k fr tt).length≤140737488355328 →
  Calls Tryz.prog 23 #[.pointer (some ⟨b,0,none⟩),.int .i64 (fr : Int),.int .i64 (tt : Int),.int .i64 (c : Int)] w fun e w' => e = .returned (.tuple #[])∧Bld.Is B b (Lib.byteCells (l ++ cntL c k fr tt)) w'∧Below B w w':=by
 intro k
 induction k with
 | zero => intro fr tt h;omega
 | succ k ih =>
 intro fr tt hk h1 h2 l w hI hBw hl
 by_cases he : fr = tt
 ·subst he
  rw [cnt_one] at hl ⊢;exact count_leaf B b c hc fr h2 l w hI hBw hl
 ·obtain ⟨⟨a1,a2⟩,a3,a4⟩:=half_ih h1 hk he
  obtain ⟨q1,q2,q3,q4,q5,q0⟩:=half_facts h1 h2 he;rw [cnt_cut c he] at hl ⊢;rw [cnt_len] at hl;exact count_node B b c fr tt ((fr + tt) / 2) (cntL c k fr ((fr + tt) / 2)) (cntL c k ((fr + tt) / 2 + 1) tt) q1 q2 q3 q0 q5 (fun l w => ih fr ((fr + tt) / 2) a1 a2 q4 l w) (fun l w => ih ((fr + tt) / 2 + 1) tt a3 a4 h2 l w) l w hI hBw hl
theorem Program_no (a c : Int) (h : a < 4 ∨ 13 < a ∨ c < 2 ∨ 8 < c) (w : World) :
  Calls Tryz.prog 8 #[.int .i64 a,.int .i64 c] w fun e w' => e = .returned (.tuple #[.string ⟨#[]⟩,.int .i64 2])∧w = w':=by
 by_cases h1 : a < 4
 ·go_enter Tryz.func8,Tryz.ntmps8
  go_wp2
  go_ret2
  exact ⟨rfl,rfl⟩
 ·by_cases h2 : 13 < a
  ·go_enter Tryz.func8,Tryz.ntmps8
   go_wp2
   go_ret2
   exact ⟨rfl,rfl⟩
  ·by_cases h3 : c < 2
   ·go_enter Tryz.func8,Tryz.ntmps8
    go_wp2
    go_ret2
    exact ⟨rfl,rfl⟩
   ·have h4 : 8 < c:=by omega
    go_enter Tryz.func8,Tryz.ntmps8;go_wp2
    go_ret2
    exact ⟨rfl,rfl⟩
theorem chs_facts {c : Nat} (h1 : 2≤c) (h2 : c≤8) : wrap64 ((c : Int) - 1) = ((c - 1 : Nat) : Int)∧IntKind.u64.wrap ((c - 1 : Nat) : Int) = ((c - 1 : Nat) : Int)∧IntKind.u64.wrap (widB (c - 1) : Int) = (widB (c - 1) : Int)∧widB (c - 1) < 14:=by
 refine ⟨by unfold wrap64;omega,u64small (by omega),u64small ?_,?_⟩
 ·unfold widB;split
  ·omega
  ·split <;> omega
 ·unfold widB;split
  ·omega
  ·split <;> omega
set_option maxHeartbeats 4000000 in
set_option maxRecDepth 100000 in
theorem Program_ok (a c : Nat) (ha1 : 4≤a) (ha2 : a≤13) (hc1 : 2≤c) (hc2 : c≤8) (w : World) :
  Calls Tryz.prog 8 #[.int .i64 (a : Int),.int .i64 (c : Int)] w fun e w' => e = .returned (.tuple #[.string ⟨(progL a c).toArray⟩,.int .i64 0])∧Below w.heap.size w w':=by
 obtain ⟨f1,f2,f3,f4⟩:=chs_facts hc1 hc2
 have f0 : ((c - 1 : Nat) : Int) = (c : Int) - 1:=by omega
 have wa:=wid_at (c - 1) (by omega) (by omega);rw [f0] at wa;have WA:=Lib.hid wa;clear wa f0 f1 f2;have DA:=Lib.hid (dec_at (widB (c - 1)) f4);have hP : Hid (progL a c = insL (widB (c - 1)) a ++ outsL a c):=Lib.hid rfl;generalize progL a c = PL at *;have hiu:=inL_le (widB (c - 1));have hIS:=insL_succ (widB (c - 1));have hIL:=insL_le (widB (c - 1));have hdw:=decB_le (widB (c - 1));have hIN : Hid (∀ i,inL (widB (c - 1)) i = [105,110,32] ++ ((118 : UInt8) :: decB i) ++ [32,102,114,111,109,32] ++ decB i ++ [58,32] ++ decB (widB (c - 1)) ++ [59,10]):=Lib.hid (fun i => rfl);generalize widB (c - 1) = wd at *;clear f4;have hb0:=Bld.fresh w;have hw0 : Below w.heap.size w (w.alloc (.cells #[.pointer none,.slice none 0 0] 57)):=(Below.refl _ _).alloc (Nat.le_refl _) _;go_enter Tryz.func8,Tryz.ntmps8
 go_wp2_with fail
 generalize w.alloc (.cells #[.pointer none,.slice none 0 0] 57) = w1 at *;have HI:=Lib.hid hb0;have HB:=Lib.hid hw0;clear hb0 hw0;refine (WA.out w1).mono ?_;rintro e w2 ⟨rfl,rfl⟩
 go_wp2_with fail
 (try rw [f3]);refine (DA.out _).mono ?_;rintro e w3 ⟨rfl,rfl⟩
 go_wp2_with fail
 go_loopw [8] (fun v8 wr => ∃ j : Nat,v8 = .int .i64 ((j : Int) + 1)∧j≤a∧Bld.Is w.heap.size w.heap.size (Lib.byteCells (insL wd j)) wr∧Below w.heap.size w wr) (fun v8 _ => ((a : Int) + 1 - intOf v8).toNat)
 case atStart => exact ⟨0,rfl,by omega,HI.out,HB.out⟩
 case round =>
  clear HI HB;obtain ⟨j,rfl,hj,hI,hB⟩:=hrel
  by_cases hlt : j < a
  ·have nm:=name_at (j + 1) (by omega)
   have dc:=dec_at (j + 1) (by omega);have hu:=u64small (i:=j + 1) (by omega);have ej : ((j + 1 : Nat) : Int) = (j : Int) + 1:=rfl;rw [ej] at nm dc hu;have NM:=Lib.hid nm;have DC:=Lib.hid dc;clear nm dc ej;have hil:=hIL j;have hs:=hIS j;rw [hIN.out (j + 1)] at hs;have h2:=decB_le (j + 1)
   have h1 : ((118 : UInt8) :: decB (j + 1)).length≤3:=by simp;omega
   have HS:=Lib.hid hs;have HI:=Lib.hid hI;have hz:=hB.size;clear hs hI;generalize (118 : UInt8) :: decB (j + 1) = s1 at *;generalize decB (j + 1) = s2 at *;generalize decB wd = s3 at *
   have x1 : ¬ 9223372036854775807 < 3 + s1.length:=by omega
   have x2 : ¬ 9223372036854775807 < 3 + s1.length + 6:=by omega
   have x3 : ¬ 9223372036854775807 < 3 + s1.length + 6 + s2.length:=by omega
   have x4 : ¬ 9223372036854775807 < 3 + s1.length + 6 + s2.length + 2:=by omega
   have x5 : ¬ 9223372036854775807 < 3 + s1.length + 6 + s2.length + 2 + s3.length:=by omega
   have x6 : ¬ 9223372036854775807 < 3 + s1.length + 6 + s2.length + 2 + s3.length + 2:=by omega
   go_wp2_with (first
    | (go_at_call 22;refine (NM.out _).mono ?_;rintro e w5 ⟨rfl,b5⟩)
    | (go_at_call 19;(try rw [hu]);refine (DC.out _).mono ?_;rintro e w6 ⟨rfl,rfl⟩))
   have z5:=b5.size;refine (write w.heap.size w.heap.size _ w6 (Lib.hid (HI.out.below b5)) (by omega) _ yq118).mono ?_;rintro e w7 ⟨rfl,HI7,b7⟩
   go_wp2_with fail
   go_roundw
   case rel => exact ⟨j + 1,by simp,by omega,cast (congrArg (fun l => Bld.Is w.heap.size w.heap.size (Lib.byteCells l) w7) (by rw [HS.out];simp)) HI7.out,(hB.trans (b5.mono hz)).trans b7⟩
   case measure => simp [intOf];omega
  ·obtain rfl : j = a:=by omega
   have HI:=Lib.hid hI;have HB:=Lib.hid hB;clear hI hB
   go_wp2_with fail
   go_loopw [9,52] (fun v9 v52 wq => ∃ i : Nat,v52 = .int .i64 (i : Int)∧i≤c∧Bld.Is w.heap.size w.heap.size (Lib.byteCells (insL wd j ++ outsL j i)) wq∧Below w.heap.size w wq) (fun v9 v52 _ => ((c : Int) - intOf v52).toNat)
   case atStart => exact ⟨0,rfl,by omega,by simpa [outsL] using HI.out,HB.out⟩
   case round =>
    clear HI HB;obtain ⟨i,rfl,hi,hI,hB⟩:=hrel;have HI:=Lib.hid hI;clear hI;have hz:=hB.size
    by_cases hlt2 : i < c
    ·have hil:=hIL j
     have hol:=outsL_le (n:=j) (by omega) (by omega) i;have hcl:=cntL_le i 13 1 j (by omega) (by omega);have CN:=Lib.hid (count_at w.heap.size w.heap.size i (by omega) 13 1 j (by omega) (by omega) (by omega));have HO : Hid (outsL j (i + 1) = outsL j i ++ ([111,117,116,32] ++ cntL i 13 1 j ++ [59,10])):=Lib.hid (outsL_succ j i);generalize cntL i 13 1 j = LC at *
     go_wp2_with fail
     refine (write w.heap.size w.heap.size _ wr HI (by omega) _ yq118).mono ?_;rintro e w5 ⟨rfl,HI5,b5⟩;have z5:=b5.size
     go_wp2_with fail
     refine (CN.out _ w5 HI5.out (by omega) yq118).mono ?_;rintro e w6 ⟨rfl,g6,b6⟩;have z6:=b6.size;have HI6:=Lib.hid g6;clear g6
     go_wp2_with fail
     refine (write w.heap.size w.heap.size _ w6 HI6 (by omega) _ yq118).mono ?_;rintro e w7 ⟨rfl,HI7,b7⟩
     go_wp2_with fail
     go_roundw
     case rel => exact ⟨i + 1,by simp,by omega,cast (congrArg (fun l => Bld.Is w.heap.size w.heap.size (Lib.byteCells l) w7) (by rw [HO.out];simp)) HI7.out,((hB.trans b5).trans b6).trans b7⟩
     case measure => simp [intOf];omega
    ·obtain rfl : i = c:=by omega
     go_wp2_with (go_at_call 24;refine (Bld.string w.heap.size w.heap.size _ wr HI.out hz).mono ?_;rintro e w7 ⟨rfl,k1,k2,k3⟩)
     go_ret2
     exact ⟨by rw [hP.out];rfl,hB.trans k2⟩
def election_Program.f (a c : Int) : Option (ByteArray × Int):=if a < 4 ∨ 13 < a ∨ c < 2 ∨ 8 < c then some (⟨#[]⟩,2) else some (⟨(progL a.toNat c.toNat).toArray⟩,0)
theorem election_Program.calls (a0 a1 : Int) (r1 : ByteArray) (r2 : Int) (w : World) (h : election_Program.f a0 a1 = some (r1,r2)) :
  Calls Tryz.prog 8 #[.int .i64 a0,.int .i64 a1] w fun e w' => e = .returned (.tuple #[.string r1,.int .i64 r2])∧Below w.heap.size w w':=by
 unfold election_Program.f at h
 split at h
 ·next hc =>
  obtain ⟨rfl,rfl⟩:=Prod.mk.inj (Option.some.inj h);refine (Program_no a0 a1 hc w).mono ?_;rintro e w' ⟨rfl,rfl⟩;exact ⟨rfl,Below.refl _ _⟩
 ·next hc =>
  obtain ⟨rfl,rfl⟩:=Prod.mk.inj (Option.some.inj h)
  obtain ⟨n,rfl⟩ : ∃ n : Nat,a0 = (n : Int):=⟨a0.toNat,by omega⟩
  obtain ⟨m,rfl⟩ : ∃ m : Nat,a1 = (m : Int):=⟨a1.toNat,by omega⟩
  exact Program_ok n m (by omega) (by omega) (by omega) (by omega) w
end Go.Proofs.YtkgdhdjkpnalmaaGreatDoor.P
end
section
namespace Go.Proofs.YtkgdhdjkpnalmaaGreatDoor.P
open Go
section
variable {P : Program} {ops : Array Oper} {Q : Exit→Act→World→Prop} {md : Region.Mode} {S : World→Prop} {late : Nat→Bool}
def wpAnyE (P : Program) (md : Region.Mode) (ops : Array Oper) (Q : Exit→Act→World→Prop) (S : World→Prop) (late : Nat→Bool) : Nat→Array Bool→Act→World→Prop
 | 0,listed,a,w => Region.ready md ops listed = []∧Q .normal a w
 | fuel + 1,listed,a,w =>
  (Region.ready md ops listed = []→Q .normal a w) ∧
  ∀ i ∈ Region.ready md ops listed,wpOp P ops Q i (fun a' w' => (late i = false→S w→S w')∧wpAnyE P md ops Q S late fuel (listed.setIfInBounds i true) a' w') a w
theorem wpAny_of_late : ∀ (fuel : Nat) (listed : Array Bool) (a : Act) (w : World),wpAnyE P md ops Q S late fuel listed a w→wpAny P md ops Q fuel listed a w
 | 0,_,_,_,h => h
 | fuel + 1,_,_,_,h => ⟨h.1,fun i hi => wpOp_mono (fun a' w' h' => wpAny_of_late fuel _ a' w' h'.2) (h.2 i hi)⟩
theorem wpAnyE_first {T : World→Prop} {i : Nat} {oi : Oper} {v : Value} (hi : ops[i]? = some oi) (hsel : ∀ (j : Nat) (o : Oper) cs b,ops[j]? = some o→o.op≠.select cs b)
  (hQ : ∀ c a w,Q (.panic c) (a.put oi.dst v) w→Q (.panic c) a w)
  (hT : ∀ j oj w w',ops[j]? = some oj→(∀ e ∈ oj.after,Region.binds md e = true→e.on≠i)→(late j = false→S w→S w')→T w→T w') :
  ∀ (fuel : Nat) (listed : Array Bool) (a : Act) (w : World),
   (∀ j oj,ops[j]? = some oj→j≠i→listed.getD j true = false→(∀ e ∈ oj.after,Region.binds md e = true→e.on≠i)→oi.apart ops oj = true) →
   i ∈ Region.ready md ops listed→YieldsIf P ops T oi v a→T w →
   wpAnyE P md ops Q S late fuel (listed.setIfInBounds i true) (a.put oi.dst v) w→wpAnyE P md ops Q S late (fuel + 1) listed a w:=by
 intro fuel
 induction fuel with
 | zero =>
  intro listed a w _ hr hy hw H;refine ⟨fun h => (by rw [h] at hr;cases hr),fun j hj => ?_⟩
  by_cases hji : j = i
  ·subst hji;exact hy.wpOp hi hw ⟨fun _ h => h,H⟩
  ·have:=ready_mono hj hji
   rw [H.1] at this;cases this
 | succ fuel ih =>
  intro listed a w hfree hr hy hw H;refine ⟨fun h => (by rw [h] at hr;cases hr),fun j hj => ?_⟩
  by_cases hji : j = i
  ·subst hji;exact hy.wpOp hi hw ⟨fun _ h => h,H⟩
  have h1:=H.2 j (ready_mono hj hji);obtain ⟨hjun,oj,hoj,hall⟩:=mem_ready.1 hj
  have hnot : ∀ e ∈ oj.after,Region.binds md e = true→e.on≠i:=fun e he hb heq => by
   have h1:=hall e he hb;have h0:=(mem_ready.1 hr).1;rw [heq] at h1
   rcases Nat.lt_or_ge i listed.size with h' | h'
   ·simp [h'] at h0 h1;rw [h0] at h1;cases h1
   ·simp [Array.getElem?_eq_none h'] at h1
  have h2:=wpOp_putIf hoj (hfree j oj hoj hji hjun hnot) (fun cs b => hsel i oi cs b hi) (fun cs b => hsel j oj cs b hoj) hQ hy h1;refine wpOp_mono (fun a' w' h3 => ⟨h3.2.1,ih (listed.setIfInBounds j true) a' w' ?_ (ready_mono hr (Ne.symm hji)) h3.1 (hT j oj w w' hoj hnot h3.2.1 hw) ?_⟩) h2
  ·intro k ok hk hki hun hno
   refine hfree k ok hk hki ?_ hno
   by_cases hjk : j = k
   ·subst hjk;exact hjun
   ·rw [getD_set_ne true hjk] at hun;exact hun
  ·rw [Array.setIfInBounds_comm _ _ hji]
   exact h3.2.2
theorem zbz {l : List Oper} {i : Nat} {oi : Oper} {v : Value} {fuel : Nat} {listed : Array Bool} {a : Act} {w : World} (hi' : l[i]? = some oi)
  (hs : Region.noSelect l.toArray = true) (hf : Region.free md l.toArray listed i = true) (hr : (Region.ready md l.toArray listed).contains i = true)
  (hQ : ∀ c a w,Q (.panic c) (a.put oi.dst v) w→Q (.panic c) a w) (hy : YieldsIf P l.toArray (fun _ => True) oi v a)
  (h : wpAnyE P md l.toArray Q S late fuel (listed.setIfInBounds i true) (a.put oi.dst v) w) : wpAnyE P md l.toArray Q S late (fuel + 1) listed a w :=
 have hi : l.toArray[i]? = some oi:=by simpa using hi'
 wpAnyE_first (T:=fun _ => True) hi (Region.noSelect_spec hs) hQ (fun _ _ _ _ _ _ _ _ => trivial) fuel listed a w (Region.free_spec hi hf) (by simpa using hr) hy trivial h
def lateWaits (md : Region.Mode) (ops : Array Oper) (late : Nat→Bool) (i : Nat) : Bool :=
 (List.range ops.size).all fun j => !late j || (match ops[j]? with | some oj => oj.after.any fun e => Region.binds md e && e.on == i | none => true)
theorem lateWaits_spec {i : Nat} (h : lateWaits md ops late i = true) {j : Nat} {oj : Oper} (hj : ops[j]? = some oj) (hn : ∀ e ∈ oj.after,Region.binds md e = true→e.on≠i) : late j = false:=by
 have hlt : j < ops.size:=by
  rcases Nat.lt_or_ge j ops.size with h' | h'
  ·exact h'
  ·rw [Array.getElem?_eq_none h'] at hj;cases hj
 have q:=List.all_eq_true.1 h j (List.mem_range.2 hlt);rw [hj] at q
 cases hl : late j with
 | false => rfl
 | true =>
  rw [hl] at q;simp only [Bool.not_true,Bool.false_or] at q;obtain ⟨e,he,hb⟩:=Array.any_eq_true'.1 q;simp only [Bool.and_eq_true,beq_iff_eq] at hb;exact absurd hb.2 (hn e he hb.1)
theorem zdt {l : List Oper} {i : Nat} {oi : Oper} {v : Value} {fuel : Nat} {listed : Array Bool} {a : Act} {w : World} (hi' : l[i]? = some oi)
  (hs : Region.noSelect l.toArray = true) (hf : Region.free md l.toArray listed i = true) (hr : (Region.ready md l.toArray listed).contains i = true) (hl : lateWaits md l.toArray late i = true)
  (hQ : ∀ c a w,Q (.panic c) (a.put oi.dst v) w→Q (.panic c) a w) (hy : YieldsIf P l.toArray S oi v a) (hS : S w)
  (h : wpAnyE P md l.toArray Q S late fuel (listed.setIfInBounds i true) (a.put oi.dst v) w) : wpAnyE P md l.toArray Q S late (fuel + 1) listed a w :=
 have hi : l.toArray[i]? = some oi:=by simpa using hi'
 wpAnyE_first (T:=S) hi (Region.noSelect_spec hs) hQ (fun j oj w w' hoj hno hk hw => hk (lateWaits_spec hl hoj hno) hw) fuel listed a w (Region.free_spec hi hf) (by simpa using hr) hy hS h
theorem zdb {l : List Oper} {i : Nat} {oi : Oper} {fuel : Nat} {listed : Array Bool} {a : Act} {w : World} (hr : Region.ready md l.toArray listed = [i]) (hi' : l[i]? = some oi)
  (h : ∀ K : Act→World→Prop,Shut (∀ a' w',(late i = false→S w→S w')→wpAnyE P md l.toArray Q S late fuel (listed.setIfInBounds i true) a' w'→K a' w')→if Region.wanted oi (yielded l.toArray a.tmps) = true then Oper.wp P oi a w K Q else K (a.put oi.dst undef) w) :
  wpAnyE P md l.toArray Q S late (fuel + 1) listed a w :=
 have hi : l.toArray[i]? = some oi:=by simpa using hi'
 ⟨fun h0 => absurd (hr ▸ h0) (by simp),fun j hj => by
  rw [hr] at hj;obtain rfl:=List.mem_singleton.1 hj
  exact wpOp_step hi (fun K hK => h K (fun a' w' h1 h2 => hK a' w' ⟨h1,h2⟩))⟩
theorem wpAnyE_two {l : List Oper} {i j : Nat} {oi oj : Oper} {fuel : Nat} {listed : Array Bool} {a : Act} {w : World} (hr : Region.ready md l.toArray listed = [i,j]) (hi' : l[i]? = some oi) (hj' : l[j]? = some oj)
  (h1 : ∀ K : Act→World→Prop,Shut (∀ a' w',(late i = false→S w→S w')→wpAnyE P md l.toArray Q S late fuel (listed.setIfInBounds i true) a' w'→K a' w')→if Region.wanted oi (yielded l.toArray a.tmps) = true then Oper.wp P oi a w K Q else K (a.put oi.dst undef) w)
  (h2 : ∀ K : Act→World→Prop,Shut (∀ a' w',(late j = false→S w→S w')→wpAnyE P md l.toArray Q S late fuel (listed.setIfInBounds j true) a' w'→K a' w')→if Region.wanted oj (yielded l.toArray a.tmps) = true then Oper.wp P oj a w K Q else K (a.put oj.dst undef) w) :
  wpAnyE P md l.toArray Q S late (fuel + 1) listed a w :=
 have hi : l.toArray[i]? = some oi:=by simpa using hi'
 have hj : l.toArray[j]? = some oj:=by simpa using hj'
 ⟨fun h0 => absurd (hr ▸ h0) (by simp),fun m hm => by
  rw [hr] at hm
  rcases List.mem_cons.1 hm with rfl | hm
  ·exact wpOp_step hi (fun K hK => h1 K (fun a' w' h1 h2 => hK a' w' ⟨h1,h2⟩))
  ·obtain rfl:=List.mem_singleton.1 hm
   exact wpOp_step hj (fun K hK => h2 K (fun a' w' h1 h2 => hK a' w' ⟨h1,h2⟩))⟩
theorem zeb {listed : Array Bool} {a : Act} {w : World} (hr : Region.ready md ops listed = []) (h : Q .normal a w) :
  ∀ fuel,wpAnyE P md ops Q S late fuel listed a w
 | 0 => ⟨hr,h⟩
 | _ + 1 => ⟨fun _ => h,by rw [hr];simp⟩
theorem zd9 (S : World→Prop) (late : Nat→Bool) {id : Nat} {l : List Oper} {a : Act} {w : World} (n : Nat) (hn : l.length = n) (hm : P.follows .mixedOrders = true)
  (h : wpAnyE P .any l.toArray Q S late n (Array.replicate n false) a w.drew) : (Code.region id l.toArray true).wp P Q a w:=by
 have h' : wpAnyE P .any l.toArray Q S late l.toArray.size (Array.replicate l.toArray.size false) a w.drew:=by subst hn;simpa using h
 exact wp_region_any hm (wpAny_of_late _ _ _ _ h')
end
end Go.Proofs.YtkgdhdjkpnalmaaGreatDoor.P
end
