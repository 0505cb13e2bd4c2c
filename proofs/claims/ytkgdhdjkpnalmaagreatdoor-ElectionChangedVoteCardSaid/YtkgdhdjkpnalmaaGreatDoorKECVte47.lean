/- What is proved here: a part of the proof of ElectionChangedVote: Ear, Px72, Px74, Ety, Ecv. No conditions beside those that each theorem states. -/
import Derived.Test.YtkgdhdjkpnalmaaGreatDoorKECVte1
import Derived.Test.YtkgdhdjkpnalmaaGreatDoorKECVte45
import Derived.KernelRfl
import Derived.OpenShut
import Derived.WideShapes
import Derived.Test.YtkgdhdjkpnalmaaGreatDoorKECVte4
import Derived.Test.YtkgdhdjkpnalmaaGreatDoorKECVte5
import Derived.Test.YtkgdhdjkpnalmaaGreatDoorKECVte44
import Derived.Test.YtkgdhdjkpnalmaaGreatDoorKECVte46
set_option linter.unusedVariables false
set_option linter.unusedSimpArgs false
section
namespace Go.Proofs.YtkgdhdjkpnalmaaGreatDoor.P
open Go.RowKit Go.Proofs.YtkgdhdjkpnalmaaGreatDoorW.PrintWords Go.Proofs.YtkgdhdjkpnalmaaGreatDoor.Opn
variable {H : Type} {enc : TypeId × Value→H} {w : World}
theorem opens_u64s : Opens enc Tryz.prog w 0 true 23 (Kd.slice 37 (Kd.int .u64)) (fun v => ∀ x ∈ v,(Lit.int .u64 x).wf = true):=by
 intro fuel cs x h hz;obtain ⟨a,hK,h1,h2⟩:=opens_slice (B:=8) Tryz.underlying23 (by kernel_rfl) (by kernel_rfl) (opens_int Tryz.underlying37) fuel cs x h hz;exact ⟨a,hK,h1⟩
set_option maxRecDepth 100000 in
theorem opens_pair : ∀ (fuel : Nat) (cs : List Value) (x : DataW H × List MemPlace),DataW.trod enc Tryz.prog w 0 (fun _ => true) true fuel 22 cs = some x→(DataW.weights Tryz.prog 22 x.1).all (·≤reachBytes) = true →
  ∃ a : Int × Int,cs = [.int .u8 a.1,.int .u8 a.2]∧((Lit.int .u8 a.1).wf = true∧(Lit.int .u8 a.2).wf = true):=by
 intro fuel cs x h _;obtain ⟨xs,m,rfl,rfl,hl,hx,hm⟩:=DataW.trod_array Tryz.underlying22 h
 have hc : Tryz.prog.cellsOf 5 = 1:=by kernel_rfl
 have hc2 : Tryz.prog.cellsOf 22 = 2:=by kernel_rfl
 rw [hc2] at hl;rw [hc] at hm
 match cs,hl with
 | [u,v],_ =>
  match xs,hx with
  | [y,z],_ =>
   have h0:=hm 0 (by decide);have h1:=hm 1 (by decide);obtain ⟨a,e1,_,w1⟩:=DataW.trod_int (x:=y) Tryz.underlying5 h0;obtain ⟨b,e2,_,w2⟩:=DataW.trod_int (x:=z) Tryz.underlying5 h1;simp at e1 e2;subst e1;subst e2;exact ⟨(a,b),rfl,w1,w2⟩
theorem okWide_array2 {P : Program} {t e : TypeId} {n : Nat} {r : Reach} {b0 : Nat} {v : Value} (ht : P.underlying t = some (.array n e)) (h : Value.okWide P w r b0 t v) : ∃ xs : Array Value,v = .agg xs∧True:=by
 simp only [Value.okWide,ht] at h;obtain ⟨cs,h1,_⟩:=h;exact ⟨cs,h1,trivial⟩
end Go.Proofs.YtkgdhdjkpnalmaaGreatDoor.P
end
section
namespace Go.Proofs.YtkgdhdjkpnalmaaGreatDoor.P
open Go.RowKit Go.Proofs.YtkgdhdjkpnalmaaGreatDoorW.PrintWords Go.Proofs.YtkgdhdjkpnalmaaGreatDoorW.PrintLast Go.Proofs.YtkgdhdjkpnalmaaGreatDoorW.PrintMore
attribute [local go_sem] zcd zca zci zcj zb1 zb2 zcc zcb

end Go.Proofs.YtkgdhdjkpnalmaaGreatDoor.P
end
section
namespace Go.Proofs.YtkgdhdjkpnalmaaGreatDoor.P
open Go.RowKit Go.Proofs.YtkgdhdjkpnalmaaGreatDoorW.PrintWords Go.Proofs.YtkgdhdjkpnalmaaGreatDoorW.PrintLast Go.Proofs.YtkgdhdjkpnalmaaGreatDoorW.PrintMore
theorem wf_u64 {x : Int} (h : (Lit.int .u64 x).wf = true) : 0≤x∧x≤18446744073709551615:=by
 simp only [Lit.wf,IntKind.min,IntKind.max,IntKind.signed,IntKind.bits,Bool.and_eq_true,decide_eq_true_eq] at h;simp at h;omega
theorem wf_u8 {x : Int} (h : (Lit.int .u8 x).wf = true) : 0≤x∧x≤255:=by
 simp only [Lit.wf,IntKind.min,IntKind.max,IntKind.signed,IntKind.bits,Bool.and_eq_true,decide_eq_true_eq] at h;simp at h;omega
def bump (c : Int) (o : List Int) (v : Int) : List Int:=if v < c then o.set v.toNat (IntKind.u64.wrap (rd o v + 1)) else o
theorem bump_length (c : Int) (o : List Int) (v : Int) : (bump c o v).length = o.length:=by unfold bump;split <;> simp
theorem bumps_length (c : Int) : ∀ (l o : List Int),(l.foldl (bump c) o).length = o.length
 | [],o => rfl
 | v :: l,o => by rw [List.foldl_cons,bumps_length c l,bump_length]
def tal (c : Int) (l : List Int) : List Int:=l.foldl (bump c) (List.replicate c.toNat 0)
theorem tal_length (c : Int) (l : List Int) : (tal c l).length = c.toNat:=by rw [tal,bumps_length];simp
theorem drop_cons' {α : Type} {l s : List α} {i : Nat} {b : α} (h : l.drop i = b :: s) : ∃ hi : i < l.length,l[i] = b∧l.drop (i + 1) = s:=by
 have hi : i < l.length:=by
  rcases Nat.lt_or_ge i l.length with h' | h'
  ·exact h'
  ·rw [List.drop_of_length_le h'] at h;cases h
 rw [List.drop_eq_getElem_cons hi] at h
 injection h with h1 h2
 exact ⟨hi,h1,h2⟩
theorem rd_at {l : List Int} {i : Nat} (h : i < l.length) : rd l (i : Int) = l[i]:=by simp [rd,h]
theorem tally_go (c : Int) (hc : 0≤c∧c≤8) (l : List Int) (hl : l.length < 1000000) (hp : ∀ x ∈ l,0≤x) : ∀ (s : List Int) (i : Nat) (o : List Int),l.drop i = s→o.length = c.toNat→Ev (fun k => election_Tally.l0 k c o l (l.length : Int) (i : Int)) (s.foldl (bump c) o)
 | [],i,o,hd,ho => by
  have : l.length≤i:=by simpa using hd
  refine Ev.step (f:=fun _ => some o) (fun k => ?_) (Ev.now _);rw [election_Tally.l0,if_neg (by omega)]
 | v :: s,i,o,hd,ho => by
  obtain ⟨hi,hv,hd'⟩:=drop_cons' hd
  have hw : IntKind.u64.wrap c = c:=by simp [IntKind.wrap,IntKind.bits,IntKind.signed];omega
  have hv0 : 0≤v:=hp v (by rw [← hv];exact List.getElem_mem hi);have ih:=tally_go c hc l hl hp s (i + 1) (bump c o v) hd' (by rw [bump_length,ho]);refine Ev.step (fun k => ?_) ih;rw [election_Tally.l0,if_pos (by omega),if_pos (by omega),if_pos (by omega),rd_at hi,hv,hw,w64s (by omega)];unfold bump
  by_cases h : v < c
  ·rw [if_pos h,if_pos h,if_pos hv0,if_pos (by omega)]
  ·rw [if_neg h,if_neg h]
theorem tally_ev (c : Int) (hc : 0≤c∧c≤8) (l : List Int) (hl : l.length < 1000000) (hp : ∀ x ∈ l,0≤x) : Ev (fun k => election_Tally.f k l c) (tal c l):=by
 unfold election_Tally.f;exact Ev.pos hc.1 (Ev.pos (by omega) (tally_go c hc l hl hp l 0 _ rfl (by simp)))
theorem words_go (l : List Int) (hl : l.length < 1000000) : ∀ (d i : Nat),l.length - i = d→Ev (fun k => zao.l0 k l l (i : Int)) true
 | 0,i,h => Ev.step (f:=fun _ => some true) (fun k => by rw [zao.l0,if_neg (by omega)]) (Ev.now _)
 | d + 1,i,h => Ev.step (fun k => by rw [zao.l0,if_pos (by omega),if_pos (by omega),if_pos (by omega),if_pos rfl,w64s (by omega)]) (words_go l hl d (i + 1) (by omega))
theorem words_ev (l : List Int) (hl : l.length < 1000000) : Ev (fun k => zao.f k l l) true:=by
 unfold zao.f;exact Ev.pos rfl (words_go l hl _ 0 rfl)
theorem wrapU {x : Int} (h : 0≤x) (h' : x < 18446744073709551616) : IntKind.u64.wrap x = x:=by simp [IntKind.wrap,IntKind.bits,IntKind.signed];omega
theorem rd_set {o : List Int} {i j : Nat} (y : Int) (hi : i < o.length) : rd (o.set i y) (j : Int) = if j = i then y else rd o (j : Int):=by
 simp only [rd,rdOf,Int.toNat_natCast,List.getD_eq_getElem?_getD]
 by_cases h : j = i
 ·subst h;rw [if_pos rfl,List.getElem?_set_self hi];rfl
 ·rw [if_neg h,List.getElem?_set_ne (Ne.symm h)]
theorem bumps_at (c : Int) (hc : 0≤c∧c≤8) : ∀ (l o : List Int),(∀ x ∈ l,0≤x)→o.length = c.toNat→(∀ j : Nat,j < c.toNat→0≤rd o (j : Int)∧rd o (j : Int) + l.length < 1000000000)→∀ j : Nat,j < c.toNat→rd (l.foldl (bump c) o) (j : Int) = rd o (j : Int) + (l.count (j : Int) : Nat)
 | [],o,_,_,_,j,_ => by simp
 | v :: l,o,hp,ho,hb,j,hj => by
  have hv : 0≤v:=hp v (List.mem_cons_self ..)
  have hat : ∀ i : Nat,i < c.toNat→rd (bump c o v) (i : Int) = rd o (i : Int) + (if v = (i : Int) then 1 else 0):=by
   intro i hi;unfold bump
   by_cases h : v < c
   ·rw [if_pos h]
    have e : v = ((v.toNat : Nat) : Int):=by omega
    rw [rd_set _ (by omega)];have hb':=hb v.toNat (by omega);rw [← e] at hb'
    by_cases h2 : i = v.toNat
    ·rw [if_pos h2,if_pos (by omega),wrapU (by omega) (by simp at hb';omega)]
     rw [h2,← e]
    ·rw [if_neg h2,if_neg (by omega)];simp
   ·rw [if_neg h,if_neg (by omega)];simp
  rw [List.foldl_cons,bumps_at c hc l (bump c o v) (fun x hx => hp x (List.mem_cons_of_mem _ hx)) (by rw [bump_length,ho]) ?_ j hj,hat j hj]
  ·rw [List.count_cons]
   by_cases h : v = (j : Int)
   ·rw [if_pos h];simp [h];omega
   ·rw [if_neg h];simp [h]
  ·intro i hi
   rw [hat i hi];have:=hb i hi;simp at this
   split <;> omega
theorem tal_at (c : Int) (hc : 0≤c∧c≤8) (l : List Int) (hp : ∀ x ∈ l,0≤x) (hl : l.length < 1000) (j : Nat) (hj : j < c.toNat) : rd (tal c l) (j : Int) = (l.count (j : Int) : Nat):=by
 have z : ∀ i : Nat,i < c.toNat→rd (List.replicate c.toNat (0 : Int)) (i : Int) = 0:=fun i hi => by rw [rd_at (by simpa using hi)];simp
 rw [tal,bumps_at c hc l _ hp (by simp) (fun i hi => by rw [z i hi];omega) j hj,z j hj,Int.zero_add]
theorem tal_rev (c : Int) (hc : 0≤c∧c≤8) (l : List Int) (hp : ∀ x ∈ l,0≤x) (hl : l.length < 1000) : tal c l.reverse = tal c l:=by
 apply List.ext_getElem
 ·rw [tal_length,tal_length]
 ·intro i h1 h2
  have h1' : i < c.toNat:=by rw [tal_length] at h1;exact h1
  rw [← rd_at h1,← rd_at h2,tal_at c hc _ (fun x hx => hp x (by simpa using hx)) (by simpa using hl) i h1',tal_at c hc _ hp hl i h1',List.count_reverse]
theorem width_small {c : Int} (hc : 2≤c∧c≤8) : ∃ w : Int,0≤w∧w≤3∧Ev (fun k => zbd.f k (IntKind.u64.wrap (wrap64 (c - 1)))) w:=by
 have h7 : c = 2 ∨ c = 3 ∨ c = 4 ∨ c = 5 ∨ c = 6 ∨ c = 7 ∨ c = 8:=by omega
 rcases h7 with rfl | rfl | rfl | rfl | rfl | rfl | rfl
 ·exact ⟨1,by omega,by omega,Ev.of (fun k => zbd.mono _ k) (k:=10) (by kernel_rfl)⟩
 ·exact ⟨2,by omega,by omega,Ev.of (fun k => zbd.mono _ k) (k:=10) (by kernel_rfl)⟩
 ·exact ⟨2,by omega,by omega,Ev.of (fun k => zbd.mono _ k) (k:=10) (by kernel_rfl)⟩
 ·exact ⟨3,by omega,by omega,Ev.of (fun k => zbd.mono _ k) (k:=10) (by kernel_rfl)⟩
 ·exact ⟨3,by omega,by omega,Ev.of (fun k => zbd.mono _ k) (k:=10) (by kernel_rfl)⟩
 ·exact ⟨3,by omega,by omega,Ev.of (fun k => zbd.mono _ k) (k:=10) (by kernel_rfl)⟩
 ·exact ⟨3,by omega,by omega,Ev.of (fun k => zbd.mono _ k) (k:=10) (by kernel_rfl)⟩
theorem votes_go (l : List Int) (hp : ∀ x ∈ l,0≤x) (n : Nat) (hn : n≤13) (w : Int) (hw : 0≤w∧w≤3) : ∀ (d i : Nat) (acc : List Int),n - i = d→i≤n→acc.length = i→(∀ x ∈ acc,0≤x)→∃ x : List Int,x.length = n∧(∀ v ∈ x,0≤v)∧Ev (fun k => zb0.l0 k l (n : Int) w acc (i : Int)) x
 | 0,i,acc,hd,hi,ha,hq => ⟨acc,by omega,hq,Ev.step (f:=fun _ => some acc) (fun k => by rw [zb0.l0,if_neg (by omega)]) (Ev.now _)⟩
 | d + 1,i,acc,hd,hi,ha,hq => by
  have hs : 0 < shl .u64 1 w:=by
   have h4 : w = 0 ∨ w = 1 ∨ w = 2 ∨ w = 3:=by omega
   rcases h4 with rfl | rfl | rfl | rfl <;> (refine of_decide_eq_true ?_;kernel_rfl)
  by_cases h : i < l.length
  ·obtain ⟨x,h1,h2,h3⟩:=votes_go l hp n hn w hw d (i + 1) (acc ++ [Int.tmod (rd l (i : Int)) (shl .u64 1 w)]) (by omega) (by omega) (by simp [ha]) (fun v hv => by
    rcases List.mem_append.1 hv with hv | hv
    ·exact hq v hv
    ·rw [List.mem_singleton.1 hv,rd_at h]
     exact Int.tmod_nonneg _ (hp _ (List.getElem_mem h)))
   refine ⟨x,h1,h2,Ev.step (fun k => ?_) h3⟩;rw [zb0.l0,if_pos (by omega),if_pos (by omega),if_pos (by omega),if_pos hw.1,if_neg (by omega),if_pos (by omega),w64s (by omega)]
  ·obtain ⟨x,h1,h2,h3⟩:=votes_go l hp n hn w hw d (i + 1) (acc ++ [0]) (by omega) (by omega) (by simp [ha]) (fun v hv => by
    rcases List.mem_append.1 hv with hv | hv
    ·exact hq v hv
    ·rw [List.mem_singleton.1 hv];omega)
   refine ⟨x,h1,h2,Ev.step (fun k => ?_) h3⟩;rw [zb0.l0,if_pos (by omega),if_neg (by omega),if_pos (by omega),w64s (by omega)]
theorem votes_ev (l : List Int) (hp : ∀ x ∈ l,0≤x) (n : Nat) (hn : n≤13) (c : Int) (hc : 2≤c∧c≤8) : ∃ x : List Int,x.length = n∧(∀ v ∈ x,0≤v)∧Ev (fun k => zb0.f k l (n : Int) c) x:=by
 obtain ⟨w,h1,h2,h3⟩:=width_small hc;obtain ⟨x,g1,g2,g3⟩:=votes_go l hp n hn w ⟨h1,h2⟩ n 0 [] (by omega) (by omega) rfl (fun x hx => by cases hx);refine ⟨x,g1,g2,?_⟩;unfold zb0.f;refine Ev.bind h3 ?_;rw [wrapU h1 (by omega)];exact g3
theorem back_go (tz : Int) (n : Int) (c : Int) (x a : List Int) (hx : x.length < 1000) (r : Bool) (next : Ev (fun k => privitylaw50_ElectionChangedVote.l0 k tz n c x a x.reverse (-1)) r) : ∀ (i : Nat) (acc : List Int),i≤x.length→acc = (x.drop i).reverse→Ev (fun k => privitylaw50_ElectionChangedVote.l0 k tz n c x a acc ((i : Int) - 1)) r
 | 0,acc,_,he => by
  subst he
  simpa using next
 | i + 1,acc,hi,he => by
  have hlt : i < x.length:=by omega
  have ih:=back_go tz n c x a hx r next i (acc ++ [x[i]]) (by omega) (by rw [he,show x.drop i = x[i] :: x.drop (i + 1) from List.drop_eq_getElem_cons hlt,List.reverse_cons])
  have ha : acc.length < 1000:=by rw [he];simp;omega
  rw [show (((i + 1 : Nat) : Int) - 1) = (i : Int) by omega];refine Ev.step (fun k => ?_) ih;rw [privitylaw50_ElectionChangedVote.l0,if_pos (by omega),if_pos (by omega),if_pos (by omega),if_pos (by omega),rd_at hlt,show wrap64 ((i : Int) - 1) = (i : Int) - 1 by unfold wrap64;omega]
theorem count_split (l : List Int) (j : Nat) : l.countP (fun v => decide (v < ((j + 1 : Nat) : Int))) = l.countP (fun v => decide (v < (j : Int))) + l.count (j : Int):=by
 induction l with
 | nil => rfl
 | cons v l ih =>
  rw [List.countP_cons,List.countP_cons,List.count_cons,ih]
  by_cases h1 : v < (j : Int)
  ·have h2 : v < ((j + 1 : Nat) : Int):=by omega
   have h3 : ¬ v = (j : Int):=by omega
   rw [show decide (v < ((j + 1 : Nat) : Int)) = true from decide_eq_true h2,show decide (v < (j : Int)) = true from decide_eq_true h1,show (v == (j : Int)) = false from beq_eq_false_iff_ne.2 h3];simp
   omega
  ·by_cases h3 : v = (j : Int)
   ·have h2 : v < ((j + 1 : Nat) : Int):=by omega
    rw [show decide (v < ((j + 1 : Nat) : Int)) = true from decide_eq_true h2,show decide (v < (j : Int)) = false from decide_eq_false h1,show (v == (j : Int)) = true from beq_iff_eq.2 h3];simp
    omega
   ·have h2 : ¬ v < ((j + 1 : Nat) : Int):=by omega
    rw [show decide (v < ((j + 1 : Nat) : Int)) = false from decide_eq_false h2,show decide (v < (j : Int)) = false from decide_eq_false h1,show (v == (j : Int)) = false from beq_eq_false_iff_ne.2 h3];simp
theorem counts_go (n : Nat) (hn : n≤13) (c : Int) (hc : 2≤c∧c≤8) (x0 y0 : Int) (t : List Int) (hx : (x0 :: t).length = n) (hp : ∀ v ∈ x0 :: t,0≤v) (hy : 0≤y0) : ∀ (d i : Nat),c.toNat - i = d→i≤c.toNat→Ev (fun k => privitylaw50_ElectionChangedVote.l1 k (n : Int) c (x0 :: t) (tal c (x0 :: t)) (y0 :: t) (tal c (y0 :: t)) (((x0 :: t).countP (fun v => decide (v < (i : Int))) : Nat) : Int) (i : Int)) true
 | 0,i,hd,hi => by
  refine Ev.step (f:=fun k => (zbh.f k).bind fun t789 => (if t789 = true then (some (decide (((((x0 :: t).countP (fun v => decide (v < (i : Int))) : Nat) : Int))≤(IntKind.u64.wrap (n : Int))))) else (some false))) (fun k => by rw [privitylaw50_ElectionChangedVote.l1,if_neg (by omega)]) ?_;refine Ev.bind awake_ev (Ev.pos rfl ?_);rw [wrapU (by omega) (by omega)];have:=List.countP_le_length (p:=fun v => decide (v < (i : Int))) (l:=x0 :: t);rw [decide_eq_true (by omega)];exact Ev.now _
 | d + 1,i,hd,hi => by
  have hi' : i < c.toNat:=by omega
  have ih:=counts_go n hn c hc x0 y0 t hx hp hy d (i + 1) (by omega) (by omega)
  have hpy : ∀ v ∈ y0 :: t,0≤v:=fun v hv => by
   rcases List.mem_cons.1 hv with rfl | hv
   ·exact hy
   ·exact hp v (List.mem_cons_of_mem _ hv)
  have hc' : 0≤c∧c≤8:=by omega
  have ax:=tal_at c hc' (x0 :: t) hp (by omega) i hi';have ay:=tal_at c hc' (y0 :: t) hpy (by simp at hx ⊢;omega) i hi';have lx:=tal_length c (x0 :: t);have ly:=tal_length c (y0 :: t);have cs:=count_split (x0 :: t) i;have hle:=List.countP_le_length (p:=fun v => decide (v < ((i + 1 : Nat) : Int))) (l:=x0 :: t)
  have cx : (x0 :: t).count (i : Int) = t.count (i : Int) + if x0 = (i : Int) then 1 else 0:=by rw [List.count_cons];simp
  have cy : (y0 :: t).count (i : Int) = t.count (i : Int) + if y0 = (i : Int) then 1 else 0:=by rw [List.count_cons];simp
  have r0 : rd (x0 :: t) 0 = x0:=rfl;have r1 : rd (y0 :: t) 0 = y0:=rfl;have wi : IntKind.u64.wrap (i : Int) = (i : Int):=wrapU (by omega) (by omega);generalize hA : tal c (x0 :: t) = A at *;generalize hB : tal c (y0 :: t) = B at *;generalize hS : (x0 :: t).countP (fun v => decide (v < (i : Int))) = S at *;generalize hS' : (x0 :: t).countP (fun v => decide (v < ((i + 1 : Nat) : Int))) = S' at *
  have hsum : IntKind.u64.wrap ((S : Int) + rd A (i : Int)) = (S' : Int):=by
   rw [ax,wrapU (by omega) (by omega)];omega
  have lxn : ((x0 :: t).length : Int) = (n : Int):=by omega
  have lyn : 0 < ((y0 :: t).length : Int):=by simp
  have lxp : 0 < ((x0 :: t).length : Int):=by simp
  have J : ∀ want : Int,(if y0 = (i : Int) then rd B (i : Int) = IntKind.u64.wrap (want + 1) else rd B (i : Int) = want)→Ev (fun k => privitylaw50_ElectionChangedVote.j3 k (n : Int) c (x0 :: t) A (y0 :: t) B (S' : Int) (i : Int) want) true:=by
   intro want hw;refine Ev.step (fun k => ?_) ih;rw [privitylaw50_ElectionChangedVote.j3,if_pos lyn,r1,wi]
   by_cases h : y0 = (i : Int)
   ·rw [if_pos h] at hw
    rw [if_pos h,if_pos (by omega),if_pos (by omega),if_pos hw,w64s (by omega)]
   ·rw [if_neg h] at hw
    rw [if_neg h,if_pos (by omega),if_pos (by omega),if_pos hw,w64s (by omega)]
  by_cases h : x0 = (i : Int)
  ·rw [if_pos h] at cx
   refine Ev.step (fun k => ?_) (J (IntKind.u64.wrap (rd A (i : Int) - 1)) ?_);(· rw [privitylaw50_ElectionChangedVote.l1,if_pos (by omega),if_pos (by omega),if_pos (by omega),if_pos lxp,r0,wi,if_pos h,hsum])
   ·rw [ax,ay,wrapU (x:=((x0 :: t).count (i : Int) : Nat) - 1) (by omega) (by omega)]
    split
    ·rename_i hy0
     rw [if_pos hy0] at cy
     rw [wrapU (by omega) (by omega)];omega
    ·rename_i hy0
     rw [if_neg hy0] at cy
     omega
  ·rw [if_neg h] at cx
   refine Ev.step (fun k => ?_) (J (rd A (i : Int)) ?_);(· rw [privitylaw50_ElectionChangedVote.l1,if_pos (by omega),if_pos (by omega),if_pos (by omega),if_pos lxp,r0,wi,if_neg h,hsum])
   ·rw [ax,ay]
    split
    ·rename_i hy0
     rw [if_pos hy0] at cy
     rw [wrapU (by omega) (by omega)];omega
    ·rename_i hy0
     rw [if_neg hy0] at cy
     omega
theorem electionChangedVote_ev (a0 a1 : Int) (l : List Int) (tz : Int) (h0 : (Lit.int .u8 a0).wf = true) (h1 : (Lit.int .u8 a1).wf = true) (hp : ∀ x ∈ l,(Lit.int .u64 x).wf = true) (ht : (Lit.int .u64 tz).wf = true) : Ev (fun k => privitylaw50_ElectionChangedVote.f k a0 a1 l tz) true:=by
 have g0:=wf_u8 h0;have g1:=wf_u8 h1;have gt:=wf_u64 ht
 obtain ⟨n,hn4,hn13,en⟩ : ∃ n : Nat,4≤n∧n≤13∧wrap64 (4 + (Int.tmod (wrap64 a0) 10)) = (n : Int):=by
  have e : wrap64 a0 = a0:=by unfold wrap64;omega
  rw [e,Int.tmod_eq_emod_of_nonneg g0.1];exact ⟨(4 + a0 % 10).toNat,by omega,by omega,by unfold wrap64;omega⟩
 obtain ⟨c,hc,ec⟩ : ∃ c : Int,(2≤c∧c≤8)∧wrap64 (2 + (Int.tmod (wrap64 a1) 7)) = c:=by
  have e : wrap64 a1 = a1:=by unfold wrap64;omega
  rw [e,Int.tmod_eq_emod_of_nonneg g1.1];exact ⟨2 + a1 % 7,by omega,by unfold wrap64;omega⟩
 obtain ⟨x,hx,hxp,hxe⟩:=votes_ev l (fun v hv => (wf_u64 (hp v hv)).1) n hn13 c hc
 have hc' : 0≤c∧c≤8:=by omega
 unfold privitylaw50_ElectionChangedVote.f zdw.f;simp only [Option.bind_some,en,ec];refine Ev.bind hxe (Ev.bind (tally_ev c hc' x (by omega) hxp) ?_)
 rcases x with _ | ⟨x0,t⟩
 ·simp at hx;omega
 rw [show wrap64 ((((x0 :: t).length : Nat) : Int) - 1) = (((x0 :: t).length : Nat) : Int) - 1 by unfold wrap64;omega];have wc : IntKind.u64.wrap c = c:=wrapU (by omega) (by omega);have hy : 0≤Int.tmod tz c:=Int.tmod_nonneg _ gt.1;have fin:=counts_go n hn13 c hc x0 (Int.tmod tz c) t hx hxp hy c.toNat 0 (by omega) (by omega)
 have z : ((x0 :: t).countP (fun v => decide (v < ((0 : Nat) : Int)))) = 0:=by
  rw [List.countP_eq_zero];intro v hv;have:=hxp v hv
  simp;omega
 rw [z] at fin
 have hpy : ∀ v ∈ Int.tmod tz c :: t,0≤v:=fun v hv => by
  rcases List.mem_cons.1 hv with rfl | hv
  ·exact hy
  ·exact hxp v (List.mem_cons_of_mem _ hv)
 refine back_go tz n c (x0 :: t) (tal c (x0 :: t)) (by omega) true ?_ (x0 :: t).length [] (Nat.le_refl _) (by simp);have la:=tal_length c (x0 :: t);have lb:=tal_length c (Int.tmod tz c :: t);have J1 : Ev (fun k => privitylaw50_ElectionChangedVote.j1 k (n : Int) c (x0 :: t) (tal c (x0 :: t)) (Int.tmod tz c :: t) (tal c (Int.tmod tz c :: t)) (!true)) true:=Ev.step (fun k => by rw [privitylaw50_ElectionChangedVote.j1,if_neg (by decide)];rfl) fin;have rv:=tal_rev c hc' (x0 :: t) hxp (by omega);have tr:=tally_ev c hc' (x0 :: t).reverse (by simp at hx ⊢;omega) (fun v hv => hxp v (List.mem_reverse.1 hv));rw [rv] at tr;have ty:=tally_ev c hc' (Int.tmod tz c :: t) (by simp at hx ⊢;omega) hpy;refine Ev.step (f:=fun k => (election_Tally.f k (Int.tmod tz c :: t) c).bind fun t782 => (if ((tal c (x0 :: t)).length : Int) = c then (if (t782.length : Int) = c then ((election_Tally.f k (x0 :: t).reverse c).bind fun t785 => ((zao.f k t785 (tal c (x0 :: t))).bind fun t788 => (privitylaw50_ElectionChangedVote.j1 k (n : Int) c (x0 :: t) (tal c (x0 :: t)) (Int.tmod tz c :: t) t782 (!t788)))) else (privitylaw50_ElectionChangedVote.j1 k (n : Int) c (x0 :: t) (tal c (x0 :: t)) (Int.tmod tz c :: t) t782 true)) else (privitylaw50_ElectionChangedVote.j1 k (n : Int) c (x0 :: t) (tal c (x0 :: t)) (Int.tmod tz c :: t) t782 true))) (fun k => ?_) ?_;(· rw [privitylaw50_ElectionChangedVote.l0,if_neg (by omega)];simp only [Option.bind_some,List.nil_append,List.length_nil,Nat.zero_add];rw [if_pos (by omega),wc,if_neg (by omega),if_pos (by simp)];rfl);(· exact Ev.bind ty (Ev.pos (by omega) (Ev.pos (by omega) (Ev.bind tr (Ev.bind (words_ev _ (by omega)) J1)))))
end Go.Proofs.YtkgdhdjkpnalmaaGreatDoor.P
end
