/- What is proved here: a part of the proof of ElectionChangedVote: Erk, Erq, Ern. No conditions beside those that each theorem states. -/
import Derived.Test.YtkgdhdjkpnalmaaGreatDoorKECVte41
import Derived.Test.YtkgdhdjkpnalmaaGreatDoorKECVte42
set_option linter.unusedVariables false
set_option linter.unusedSimpArgs false
section
namespace Go.Proofs.YtkgdhdjkpnalmaaGreatDoor.P
open Go.RowKit Go.Proofs.YtkgdhdjkpnalmaaGreatDoorW.PrintWords Go.Proofs.YtkgdhdjkpnalmaaGreatDoorW.PrintLast Go.Proofs.YtkgdhdjkpnalmaaGreatDoorW.PrintMore
set_option maxHeartbeats 4000000 in
set_option maxRecDepth 100000 in
theorem check30_calls (k : Nat) (A0 : Option Addr) (c0 : Nat) (l0 : List S50) (A1 : Option Addr) (c1 : Nat) (l1 : List S87) (A2 : Option Addr) (c2 : Nat) (l2 : List S114) (A3 : Option Addr) (c3 : Nat) (l3 : List (List Int)) (w : World) (hr0 : Kd.C k50 w A0 l0.length l0) (hc0 : l0.length≤c0) (hr1 : Kd.C k87 w A1 l1.length l1) (hc1 : l1.length≤c1) (hr2 : Kd.C k114 w A2 l2.length l2) (hc2 : l2.length≤c2) (hr3 : Kd.C (Kd.slice 37 (Kd.int .u64)) w A3 l3.length l3) (hc3 : l3.length≤c3) (h : zcx.f k l0 l1 l2 = some 0) (h' : za8.f k l0 l1 l2 l3 = some true) :
  Calls Tryz.prog 31 #[.agg #[.slice A0 l0.length c0,.slice A1 l1.length c1,.slice A2 l2.length c2],.slice A3 l3.length c3] w fun e w' => e = .returned (.int .i64 0)∧Below w.heap.size w w':=by
 go_enter Tryz.func31,Tryz.ntmps31
 go_upto_region 1 with (first | ((with_reducible refine zbm (N:=2) rfl ?_);(try (refine zcy (by rfl) ?_;dsimp only));refine zbk ?hg (N:=2) ?hd (cs:=#[.slice A0 l0.length c0,.slice A1 l1.length c1,.slice A2 l2.length c2]) (t:=33) ?hr ?_;(case hd => rfl);(case hg => rfl);(case hr => first | (go_simp;done) | (go_simp;rfl));intro gb hgb w1 hbx hbb;clear hgb))
 have y0 : w1.cell? ⟨gb,0,none⟩ = some (.slice A0 l0.length c0):=(zbf hbx 0).trans rfl;have y1 : w1.cell? ⟨gb,1,none⟩ = some (.slice A1 l1.length c1):=(zbf hbx 1).trans rfl;have y2 : w1.cell? ⟨gb,2,none⟩ = some (.slice A2 l2.length c2):=(zbf hbx 2).trans rfl;have HT:=zA0 h;have HT':=zA0 h';have HX:=zA0 hbx;have HB1:=zA0 hbb;have HR0:=zA0 hr0;have HR1:=zA0 hr1;have HR2:=zA0 hr2;have HR3:=zA0 hr3;have hup:=Tryz.underlying33;clear h h' hbb hbx hr0 hr1 hr2 hr3
 go_wp2_with fail
 refine (zcx.calls k A0 c0 l0 A1 c1 l1 A2 c2 l2 0 w1 (Kd.C_below HR0.out HB1.out) hc0 (Kd.C_below HR1.out HB1.out) hc1 (Kd.C_below HR2.out HB1.out) hc2 HT.out).mono ?_;rintro e w2 ⟨rfl,hB⟩;have HX2:=(hB.block gb (zcs HX.out)).trans HX.out;have HB2:=zA0 (zaj HB1.out hB);clear hB y0 y1 y2 HB1 HX;have y0 : w2.cell? ⟨gb,0,none⟩ = some (.slice A0 l0.length c0):=(zbf HX2 0).trans rfl;have y1 : w2.cell? ⟨gb,1,none⟩ = some (.slice A1 l1.length c1):=(zbf HX2 1).trans rfl;have y2 : w2.cell? ⟨gb,2,none⟩ = some (.slice A2 l2.length c2):=(zbf HX2 2).trans rfl;clear HX2
 go_wp2_with fail
 refine (za8.calls k A0 c0 l0 A1 c1 l1 A2 c2 l2 A3 c3 l3 true w2 (Kd.C_below HR0.out HB2.out) hc0 (Kd.C_below HR1.out HB2.out) hc1 (Kd.C_below HR2.out HB2.out) hc2 (Kd.C_below HR3.out HB2.out) hc3 HT'.out).mono ?_;rintro e w3 ⟨rfl,hB⟩;have HB3:=zA0 (zaj HB2.out hB);clear hB y0 y1 y2
 go_wp2_with fail
 go_ret;exact ⟨rfl,HB3.out⟩
end Go.Proofs.YtkgdhdjkpnalmaaGreatDoor.P
end
section
namespace Go.Proofs.YtkgdhdjkpnalmaaGreatDoor.P
open Go.RowKit Go.Proofs.YtkgdhdjkpnalmaaGreatDoorW.PrintWords Go.Proofs.YtkgdhdjkpnalmaaGreatDoorW.PrintLast Go.Proofs.YtkgdhdjkpnalmaaGreatDoorW.PrintMore
theorem ev_mono : ∀ (k : Nat) (ns : List ByteArray) (vs : List Int) (e0 e1 e2 : Int) (e3 : ByteArray) (e4 : List EX),LeO (ev k ns vs e0 e1 e2 e3 e4) (ev (k + 1) ns vs e0 e1 e2 e3 e4)
 | 0,_,_,_,_,_,_,_ => fun r h => by simp [ev] at h
 | k + 1,ns,vs,e0,e1,e2,e3,e4 => by
  have ih:=ev_mono k ns vs;rw [ev,ev]
  exact (by repeat' first | with_reducible apply ih | with_reducible apply zbw.mono | with_reducible apply LeO.refl | (with_reducible refine LeO.ite ?_ ?_) | (with_reducible refine LeO.bind ?_ (fun _ => ?_)))
theorem outs_mono (k : Nat) (ns : List ByteArray) (vs : List Int) : ∀ (l : List S114),LeO (outs k ns vs l) (outs (k + 1) ns vs l)
 | [] => fun r h => h
 | s :: l => by
  have ih:=outs_mono k ns vs l;rw [outs,outs]
  exact (by repeat' first | with_reducible apply ih | (with_reducible exact ev_mono _ _ _ _ _ _ _ _) | with_reducible apply LeO.refl | (with_reducible refine LeO.ite ?_ ?_) | (with_reducible refine LeO.bind ?_ (fun _ => ?_)))
def heads (ls : List (List Int)) (n : Nat) : List Int:=(List.range n).map fun (i : Nat) => rd (zdr ls i) 0
theorem heads_succ (ls : List (List Int)) (n : Nat) : heads ls (n + 1) = heads ls n ++ [rd (zdr ls n) 0]:=by simp [heads,List.range_succ]
theorem heads_length (ls : List (List Int)) (n : Nat) : (heads ls n).length = n:=by simp [heads]
def insOk (k : Nat) (l0 : List S50) (ls : List (List Int)) : Bool:=(List.range l0.length).all fun (i : Nat) => decide ((zaq l0 i).f1 = (i : Int) + 1) && decide ((zaq l0 i).f3 = 0) && decide (i < ls.length) && decide (1≤(zdr ls i).length) && decide (zbw.f k ((l0.map (·.f0)).take i) (zaq l0 i).f0 = some (-1))
theorem insOk_at {k : Nat} {l0 : List S50} {ls : List (List Int)} (h : insOk k l0 ls = true) (i : Nat) (hi : i < l0.length) : (zaq l0 i).f1 = (i : Int) + 1∧(zaq l0 i).f3 = 0∧i < ls.length∧1≤(zdr ls i).length∧zbw.f k ((l0.map (·.f0)).take i) (zaq l0 i).f0 = some (-1):=by
 have:=List.all_eq_true.1 h i (List.mem_range.2 hi);simp only [Bool.and_eq_true,decide_eq_true_eq] at this;obtain ⟨⟨⟨⟨h1,h2⟩,h3⟩,h4⟩,h5⟩:=this;exact ⟨h1,h2,h3,h4,h5⟩
theorem insOk_mono {k : Nat} {l0 : List S50} {ls : List (List Int)} (h : insOk k l0 ls = true) : insOk (k + 1) l0 ls = true:=by
 refine List.all_eq_true.2 fun i hi => ?_
 obtain ⟨h1,h2,h3,h4,h5⟩:=insOk_at h i (List.mem_range.1 hi);simp only [Bool.and_eq_true,decide_eq_true_eq];exact ⟨⟨⟨⟨h1,h2⟩,h3⟩,h4⟩,zbw.mono _ _ _ _ h5⟩
theorem names_succ (l0 : List S50) (i : Nat) (hi : i < l0.length) : (l0.map (·.f0)).take (i + 1) = (l0.map (·.f0)).take i ++ [(zaq l0 i).f0]:=by
 rw [List.take_succ_eq_append_getElem (by simpa using hi)];simp [zaq,hi]
def zck.f (k : Nat) (l0 : List S50) (l1 : List S87) (l2 : List S114) (ls : List (List Int)) : Option (List Int × Int) :=
 if (zcx.f k l0 l1 l2 = some 0∧za8.f k l0 l1 l2 ls = some true)∧(l1.length = 0∧l0.length≤500∧l2.length≤1000∧1≤ls.length∧ls.length≤1000)∧insOk k l0 ls = true then ((outs k (l0.map (·.f0)) (heads ls l0.length) l2).bind fun r => some (r,0)) else none
theorem zck.mono : ∀ (l0 : List S50) (l1 : List S87) (l2 : List S114) (ls : List (List Int)) (k : Nat),LeO (zck.f k l0 l1 l2 ls) (zck.f (k + 1) l0 l1 l2 ls):=by
 intro l0 l1 l2 ls k r h;unfold zck.f at h ⊢
 split at h
 ·rename_i hc
  rw [if_pos ⟨⟨zcx.mono _ _ _ _ _ hc.1.1,za8.mono _ _ _ _ _ _ hc.1.2⟩,hc.2.1,insOk_mono hc.2.2⟩];exact LeO.bind (outs_mono _ _ _ _) (fun _ => LeO.refl _) _ h
 ·cases h
theorem StIn.set {w0 W : World} {g : Nat} {ns : List ByteArray} {vs : List Int} (h : StIn w0 W g ns vs) {q t : Nat} {cs : Array Value} (hq : W.heap[q]? = some (.cells cs t (0,0))) (hn : t≠82∧t≠9∧t≠37) (j : Nat) (x : Value) : StIn w0 (W.setCell ⟨q,j,none⟩ x) g ns vs:=by
 obtain ⟨A,a,B,b,h1,h2,h3,h4⟩:=h
 have n1 : ∀ p,p ∈ 9 :: Kd.string.E→p≠t:=by intro p hp;simp [Kd.string,Kd.scalar] at hp;subst hp;exact fun e => hn.2.1 e.symm
 have n2 : ∀ p,p ∈ 37 :: (Kd.int .u64).E→p≠t:=by intro p hp;simp [Kd.int,Kd.scalar] at hp;subst hp;exact fun e => hn.2.2 e.symm
 refine ⟨A,a,B,b,zbv h1 (p:=⟨q,j,none⟩) (fun e => ?_) x,h2,Kd.R_set h3 hq n1 _ _,Kd.R_set h4 hq n2 _ _⟩;have e' : g = q:=e;subst e';rw [h1] at hq
 injection hq with hq
 injection hq with _ e2
 exact hn.1 e2.symm
theorem StIn.below {w0 W W' : World} {g : Nat} {ns : List ByteArray} {vs : List Int} (h : StIn w0 W g ns vs) (hb : Below W.heap.size W W') : StIn w0 W' g ns vs:=by
 obtain ⟨A,a,B,b,h1,h2,h3,h4⟩:=h;exact ⟨A,a,B,b,(hb.block g (zcs h1)).trans h1,h2,Kd.R_below h3 hb,Kd.R_below h4 hb⟩
structure Rn (w0 W : World) (gp g : Nat) (ps : Array Value) (va : Value) (n : Nat) (ns : List ByteArray) (vs : List Int) (i : Nat) : Prop where
 hp : W.heap[gp]? = some (.cells ps 33 (0,0))
 gpb : w0.heap.size≤gp
 st : StIn w0 W g ns vs
 tb : ∃ xs : List Int,xs.length = n∧(∀ j : Nat,i≤j→j < n→rd xs j = 0)∧Kd.R (Kd.int .i64) 3 W w0.heap.size (fun _ => True) va xs
 hb : Below w0.heap.size w0 W
section
variable {w0 W W' : World} {gp g : Nat} {ps : Array Value} {va : Value} {n : Nat} {ns ns' : List ByteArray} {vs vs' : List Int} {i : Nat}
theorem Rn.below (h : Rn w0 W gp g ps va n ns vs i) (hb : Below W.heap.size W W') : Rn w0 W' gp g ps va n ns vs i:=by
 obtain ⟨xs,h1,h2,h3⟩:=h.tb;exact ⟨(hb.block gp (zcs h.hp)).trans h.hp,h.gpb,h.st.below hb,⟨xs,h1,h2,Kd.R_below h3 hb⟩,zaj h.hb hb⟩
theorem Rn.set (h : Rn w0 W gp g ps va n ns vs i) {q t : Nat} {cs : Array Value} (hq : W.heap[q]? = some (.cells cs t (0,0))) (hn : t≠33∧t≠3∧t≠82∧t≠9∧t≠37) (hqb : w0.heap.size≤q) (j : Nat) (x : Value) : Rn w0 (W.setCell ⟨q,j,none⟩ x) gp g ps va n ns vs i:=by
 obtain ⟨xs,h1,h2,h3⟩:=h.tb
 have n1 : ∀ p,p ∈ 3 :: (Kd.int .i64).E→p≠t:=by intro p hp;simp [Kd.int,Kd.scalar] at hp;subst hp;exact fun e => hn.2.1 e.symm
 refine ⟨zbv h.hp (p:=⟨q,j,none⟩) (fun e => ?_) x,h.gpb,h.st.set hq hn.2.2 j x,⟨xs,h1,h2,Kd.R_set h3 hq n1 _ _⟩,zba h.hb hqb⟩;have e' : gp = q:=e;subst e';have hp:=h.hp;rw [hp] at hq
 injection hq with hq
 injection hq with _ e2
 exact hn.1 e2.symm
theorem Rn.cell (h : Rn w0 W gp g ps va n ns vs i) (hi : i < n) : ∃ ga ca,va = .slice (some ⟨ga,0,none⟩) n ca∧w0.heap.size≤ga∧(∃ cells,W.heap[ga]? = some (.cells cells 3 (0,0)))∧W.cell? ⟨ga,i,none⟩ = some (.int .i64 0)∧W.frozen? ⟨ga,i,none⟩ = false:=by
 obtain ⟨xs,h1,h2,h3⟩:=h.tb;obtain ⟨ga,ca,rfl,h4,h5,h6⟩:=Kd.R_form h3 (by omega);obtain ⟨h7,h8⟩:=Kd.R_celln 0 h3 (i : Int) (by omega) (by omega);have e : (rdOf (0 : Int) xs (i : Int)) = 0:=h2 i (Nat.le_refl _) hi;rw [e] at h7;rw [Int.toNat_natCast] at h7 h8;exact ⟨ga,ca,by rw [h1],h4,h6,h7,h8⟩
theorem Rn.put {ga ca : Nat} (h : Rn w0 W gp g ps (.slice (some ⟨ga,0,none⟩) n ca) n ns vs i) (y : Int) (hgb : w0.heap.size≤ga) (hga : ∃ cells,W.heap[ga]? = some (.cells cells 3 (0,0))) : Rn w0 (W.setCell ⟨ga,i,none⟩ (.int .i64 y)) gp g ps (.slice (some ⟨ga,0,none⟩) n ca) n ns vs (i + 1):=by
 obtain ⟨xs,h1,h2,h3⟩:=h.tb;obtain ⟨cells,hq⟩:=hga;have h4:=(Kd.R_putg h3 (i : Int) y).1;rw [Int.toNat_natCast] at h4;refine ⟨zbv h.hp (p:=⟨ga,i,none⟩) (fun e => ?_) _,h.gpb,h.st.set hq (by decide) _ _,⟨xs.set i y,by simp [h1],fun j hj hjn => ?_,h4⟩,zba h.hb hgb⟩
 ·have e' : gp = ga:=e
  subst e';have hp:=h.hp;rw [hp] at hq
  injection hq with hq
  injection hq with _ e2
  exact absurd e2 (by decide)
 ·have:=h2 j (by omega) hjn
  simp only [rd,rdOf,Int.toNat_natCast] at this ⊢;rw [List.getD_eq_getElem?_getD] at this ⊢;rw [List.getElem?_set_ne (by omega)];exact this
theorem Rn.setted (h : Rn w0 W gp g ps va n ns vs i) (hs : StIn w0 W' g ns' vs') (hb : Below w0.heap.size w0 W') (ho : Oth30 W W') : Rn w0 W' gp g ps va n ns' vs' i:=by
 obtain ⟨xs,h1,h2,h3⟩:=h.tb;refine ⟨(ho gp _ _ _ h.hp (by decide) (by decide) (by decide)).trans h.hp,h.gpb,hs,⟨xs,h1,h2,?_⟩,hb⟩;refine Kd.R_mono (Kd.R_move (Kd.R_bound h3) (fun k hk => ?_)) (fun _ hk => hk.1);obtain ⟨_,_,_,q,hq,cells,hc⟩:=hk;simp [Kd.int,Kd.scalar] at hq;subst hq;exact ho k _ _ _ hc (by decide) (by decide) (by decide)
theorem StIn.fy (h : StIn w0 W g ns vs) (hb : Below w0.heap.size w0 W) : ∃ A a B b,Fy g w0 W A a B b ns vs (.slice none 0 0) (.slice none 0 0) []:=by
 obtain ⟨A,a,B,b,h1,h2,h3,h4⟩:=h;exact ⟨A,a,B,b,h1,h2,h3,h4,Kd.R_nil _ _ _ _ _,fun k hk => by simp [Value.ownBlock] at hk,hb⟩
end
end Go.Proofs.YtkgdhdjkpnalmaaGreatDoor.P
end
section
namespace Go.Proofs.YtkgdhdjkpnalmaaGreatDoor.P
open Go.RowKit Go.Proofs.YtkgdhdjkpnalmaaGreatDoorW.PrintWords Go.Proofs.YtkgdhdjkpnalmaaGreatDoorW.PrintLast Go.Proofs.YtkgdhdjkpnalmaaGreatDoorW.PrintMore
theorem blk4 {W : World} {q t : Nat} {x0 x1 x2 x3 y0 y1 y2 y3 : Value} (h : W.heap[q]? = some (.cells #[x0,x1,x2,x3] t (0,0))) : ((((W.setCell ⟨q,0,none⟩ y0).setCell ⟨q,1,none⟩ y1).setCell ⟨q,2,none⟩ y2).setCell ⟨q,3,none⟩ y3).heap[q]? = some (.cells #[y0,y1,y2,y3] t (0,0)):=by
 simpa using zds (zds (zds (zds h 0 y0) 1 y1) 2 y2) 3 y3
theorem Rn.set4 {w0 W : World} {gp g : Nat} {ps : Array Value} {va : Value} {n : Nat} {ns : List ByteArray} {vs : List Int} {i : Nat} {q t : Nat} {x0 x1 x2 x3 y0 y1 y2 y3 : Value} (h : Rn w0 W gp g ps va n ns vs i) (hq : W.heap[q]? = some (.cells #[x0,x1,x2,x3] t (0,0))) (hn : t≠33∧t≠3∧t≠82∧t≠9∧t≠37) (hqb : w0.heap.size≤q) :
  Rn w0 ((((W.setCell ⟨q,0,none⟩ y0).setCell ⟨q,1,none⟩ y1).setCell ⟨q,2,none⟩ y2).setCell ⟨q,3,none⟩ y3) gp g ps va n ns vs i:=by
 have q0:=zds hq 0 y0;have q1:=zds q0 1 y1;have q2:=zds q1 2 y2;exact (((h.set hq hn hqb 0 y0).set q0 hn hqb 1 y1).set q1 hn hqb 2 y2).set q2 hn hqb 3 y3
theorem run_measure {a i : Nat} {z : Int} (hz : z = ((i + 1 : Nat) : Int)) (h : i < a) : ((a : Int) - intOf (Value.int .i64 z)).toNat < ((a : Int) - intOf (Value.int .i64 (i : Int))).toNat:=by
 subst hz;simp only [intOf]
 omega
theorem blk_other {W : World} {a b ta tb : Nat} {cs : Array Value} (ha : W.heap[a]? = some (.cells cs ta (0,0))) (hb : ∃ cells,W.heap[b]? = some (.cells cells tb (0,0))) (ht : ta≠tb) (j : Nat) (u : Value) : (W.setCell ⟨b,j,none⟩ u).heap[a]? = some (.cells cs ta (0,0)):=by
 refine zbv ha (p:=⟨b,j,none⟩) (fun e => ?_) u;have e' : a = b:=e;subst e';obtain ⟨cells,hb⟩:=hb;rw [ha] at hb
 injection hb with hb
 injection hb with _ e2
 exact ht e2
theorem Rn.cell0 {w0 W : World} {gp g : Nat} {ps : Array Value} {n : Nat} {ns : List ByteArray} {vs : List Int} {i ga ca : Nat} (h : Rn w0 W gp g ps (.slice (some ⟨ga,0,none⟩) n ca) n ns vs i) (hi : i < n) : W.cell? ⟨ga,i,none⟩ = some (.int .i64 0)∧W.frozen? ⟨ga,i,none⟩ = false∧∃ cells,W.heap[ga]? = some (.cells cells 3 (0,0)):=by
 obtain ⟨ga',ca',e,_,h1,h2,h3⟩:=h.cell hi
 injection e with e1 e2 e3
 injection e1 with e1
 injection e1 with e1
 subst e1;exact ⟨h2,h3,h1⟩
set_option maxHeartbeats 4000000 in
set_option maxRecDepth 100000 in
theorem zck.calls (k : Nat) (A0 : Option Addr) (c0 : Nat) (l0 : List S50) (A1 : Option Addr) (c1 : Nat) (l1 : List S87) (A2 : Option Addr) (c2 : Nat) (l2 : List S114) (A3 : Option Addr) (c3 : Nat) (l3 : List (List Int)) (r1 : List Int) (r2 : Int) (w : World) (hr0 : Kd.C k50 w A0 l0.length l0) (hc0 : l0.length≤c0) (hr1 : Kd.C k87 w A1 l1.length l1) (hc1 : l1.length≤c1) (hr2 : Kd.C k114 w A2 l2.length l2) (hc2 : l2.length≤c2) (hr3 : Kd.C (Kd.slice 37 (Kd.int .u64)) w A3 l3.length l3) (hc3 : l3.length≤c3) (h : zck.f k l0 l1 l2 l3 = some (r1,r2)) :
  Calls Tryz.prog 12 #[.agg #[.slice A0 l0.length c0,.slice A1 l1.length c1,.slice A2 l2.length c2],.slice A3 l3.length c3] w fun e w' => ∃ v,e = .returned (.tuple #[v,.int .i64 r2])∧Kd.R (Kd.int .u64) 37 w' w.heap.size (fun _ => True) v r1∧Below w.heap.size w w':=by
 unfold zck.f at h
 split at h
 case isFalse => cases h
 rename_i hcond
 obtain ⟨⟨hC,hF⟩,⟨hn1,hn0,hn2,hn3,hn4⟩,hI⟩:=hcond;obtain ⟨r,hO,hR⟩:=Option.bind_eq_some_iff.1 h
 obtain ⟨rfl,rfl⟩ : r = r1∧r2 = 0:=by
  have e:=Option.some.inj hR
  injection e with e1 e2
  exact ⟨e1,e2.symm⟩
 have HC:=zA0 hC;have HF:=zA0 hF;have HN:=zA0 (And.intro hn1 (And.intro hn0 (And.intro hn2 (And.intro hn3 hn4))));clear hn1 hn0 hn2 hn3 hn4;have HI:=zA0 (insOk_at hI);have HO:=zA0 hO;have HR0:=zA0 hr0;have HR1:=zA0 hr1;have HR2:=zA0 hr2;have HR3:=zA0 hr3;have hup:=Tryz.underlying33;have hui:=Tryz.underlying50;have hus:=Tryz.underlying82
 have mixed : Tryz.prog.follows .mixedOrders = true:=by kernel_rfl
 clear h hC hF hI hO hR hr0 hr1 hr2 hr3;have HB0:=zA0 (Below.refl w.heap.size w);go_enter Tryz.func12,Tryz.ntmps12
 go_upto_region 1 with (first | ((with_reducible refine zbm (N:=2) rfl ?_);(try (refine zcy (by rfl) ?_;dsimp only));refine zbk ?hg (N:=2) ?hd (cs:=#[.slice A0 l0.length c0,.slice A1 l1.length c1,.slice A2 l2.length c2]) (t:=33) ?hr ?_;(case hd => rfl);(case hg => rfl);(case hr => first | (go_simp;done) | (go_simp;rfl));intro gp hgp w1 hbx hbb;have GP:=zA0 (show w.heap.size≤gp by rw [hgp];exact zb7 yq205);have HB1:=zA0 (zaj yq205 hbb);have HX:=zA0 hbx;clear hgp hbx hbb HB0))
 --@1
 have y0:=zk0 HX.out;have y1:=zk1 HX.out;have y2:=zk2 HX.out
 go_wp2_with fail
 --@a
 refine (check30_calls k A0 c0 l0 A1 c1 l1 A2 c2 l2 A3 c3 l3 w1 (Kd.C_below HR0.out HB1.out) hc0 (Kd.C_below HR1.out HB1.out) hc1 (Kd.C_below HR2.out HB1.out) hc2 (Kd.C_below HR3.out HB1.out) hc3 HC.out HF.out).mono ?_;rintro e w2 ⟨rfl,hB⟩
 --@b
 have HX2 : Aside0 (w2.heap[gp]? = _):=zA0 ((hB.block gp (zcs HX.out)).trans HX.out);have HB2:=zA0 (zaj HB1.out hB);clear hB y0 y1 y2 HB1 HX HC HF
 --@2
 go_upto_region 5 with (first | ((with_reducible refine zbm (N:=21) rfl ?_);refine zbk ?hg (N:=21) ?hd (cs:=#[.slice none 0 0,.slice none 0 0,.slice none 0 0,.slice none 0 0,.slice none 0 0]) (t:=82) ?hr ?_;(case hd => rfl);(case hg => rfl);(case hr => first | (go_simp;done) | (go_simp;rfl));intro g hg w3 hbx hbb;have GG:=zA0 (show w.heap.size≤g by rw [hg];exact zb7 yq204);have HB3:=zA0 (zaj yq204 hbb);have HX3:=zA0 (za4 (g:=gp) (o:=.cells #[.slice A0 l0.length c0,.slice A1 l1.length c1,.slice A2 l2.length c2] 33 (0,0)) (by (with_reducible repeat (first | refine zdg ?_ | refine zdh ?_ _));exact HX2.out) hbb);have HG3:=zA0 hbx;clear hg hbx hbb HB2 HX2))
 --@3
 have p3 : decide (0≤(l3.length : Int)) = true:=decide_eq_true (by have:=HN.out;omega);have p4 : decide (((l3.length : Int) : Int).toNat≤35184372088832) = true:=decide_eq_true (by have:=HN.out;omega)
 go_upto_region 6 with (first | ((with_reducible refine zbm (N:=24) rfl ?_);refine Kd.R_make (Kd.int .i64) _ 3 rfl (N:=24) rfl 83 _ _ rfl (l3.length : Int) rfl rfl Tryz.underlying83 (.int .i64 0) 8 info3 rfl (by decide) (by omega) 0 (ok:=fun _ => True) (okp:=fun _ => True) rfl (fun _ hk => hk) trivial (of_decide_eq_true yq3) (Nat.le_trans (Nat.mul_le_mul_right _ (of_decide_eq_true yq3 : (l3.length : Int).toNat≤35184372088832)) (by omega)) (Below.refl _ _) (Nat.le_refl _) ?_;intro va w4 ho hb hg_ hnew_;clear hg_ hnew_;have n0_:=zA0 (Kd.R_lower ho (zb7 yq202));have n1_:=zA0 (za4 (g:=gp) (o:=.cells #[.slice A0 l0.length c0,.slice A1 l1.length c1,.slice A2 l2.length c2] 33 (0,0)) (zb HX3) hb);have n2_:=zA0 (za4 (g:=g) (o:=.cells #[.slice none 0 0,.slice none 0 0,.slice none 0 0,.slice none 0 0,.slice none 0 0] 82 (0,0)) (zb HG3) hb);have n3_:=zA0 (zaj yq202 hb);clear HX3 HG3 HB3 hb ho;have HT:=n0_;have HX4:=n1_;have HG4:=n2_;have HB4:=n3_;clear n0_ n1_ n2_ n3_))
 --@4
 have HW : Aside0 (Rn w w4 gp g #[.slice A0 l0.length c0,.slice A1 l1.length c1,.slice A2 l2.length c2] va l3.length ((l0.map (·.f0)).take 0) (heads l3 0) 0):=zA0 ⟨HX4.out,GP.out,⟨none,0,none,0,HG4.out,GG.out,Kd.R_nil _ _ _ _ _,Kd.R_nil _ _ _ _ _⟩,⟨_,by simp,fun j _ _ => by simp only [rd,rdOf,Int.toNat_natCast];rw [List.getD_eq_getElem?_getD,List.getElem?_replicate];split <;> rfl,HT.out⟩,HB4.out⟩;clear HX4 HG4 HT HB4 p3 p4
 go_wp2_with fail
 go_loopw [9] (fun v9 wr => ∃ i : Nat,v9 = .int .i64 (i : Int)∧i≤l0.length∧Rn w wr gp g #[.slice A0 l0.length c0,.slice A1 l1.length c1,.slice A2 l2.length c2] va l3.length ((l0.map (·.f0)).take i) (heads l3 i) i) (fun v9 _ => ((l0.length : Int) - intOf v9).toNat)
 case atStart => exact ⟨0,rfl,Nat.zero_le _,HW.out⟩
 case round =>
  clear HW;obtain ⟨i,rfl,hi,hW⟩:=hrel
  by_cases hlt : i < l0.length
  ·obtain ⟨p1,p3,p4,p5,pf⟩:=HI.out i hlt
   obtain ⟨ad,eA,x0,x1,x2,x3⟩:=at_T50 HR0.out (i : Int) (by omega) (by omega);cases eA;replace x0:=(hW.hb.cell (World.block_lt_of_cell? _ _ x0)).trans x0;replace x1:=(hW.hb.cell (World.block_lt_of_cell? _ _ x1)).trans x1;replace x2:=(hW.hb.cell (World.block_lt_of_cell? _ _ x2)).trans x2;replace x3:=(hW.hb.cell (World.block_lt_of_cell? _ _ x3)).trans x3;rw [Int.toNat_natCast] at x0 x1 x2 x3;rw [p3] at x3;obtain ⟨ga,ca,rfl,hga,_⟩:=hW.cell p4;have y0 : wr.cell? ⟨gp,0,none⟩ = some (.slice (some ad) l0.length c0):=(zbf hW.hp 0).trans rfl;have q0 : (0≤(i : Int)) = True:=eq_true (by omega);have q1 : ((i : Int) < (l0.length : Int)) = True:=eq_true (by omega);have q2 : ((i : Int) < (l3.length : Int)) = True:=eq_true (by omega)
   have hw1 : IntKind.i64.wrap ((zaq l0 ↑i).f1 - 1) = (i : Int):=by rw [p1,zc7];have:=HN.out;unfold wrap64;omega
   have NS:=zA0 (names_succ l0 i hlt);have GA:=zA0 hga;have PF:=zA0 pf;have P5:=zA0 p5;have P4:=zA0 p4;have HW:=zA0 hW;clear hW pf p5 hga p1 p3 p4
   --@5
   go_upto_region 10 with (first | ((with_reducible refine zbm (N:=10) rfl ?_);refine zbk ?hg (N:=10) ?hd (cs:=#[.string (⟨#[]⟩ : ByteArray),.int .i64 0,.int .i64 0,.int .i64 0]) (t:=50) ?hr ?_;(case hd => rfl);(case hg => rfl);(case hr => first | (go_simp;done) | (go_simp;rfl));intro gb hgb w5 hbx hbb;have s0 : w5.cell? ⟨gb,0,none⟩ = some (.string (⟨#[]⟩ : ByteArray)):=(zbf hbx 0).trans rfl;have s1 : w5.cell? ⟨gb,1,none⟩ = some (.int .i64 0):=(zbf hbx 1).trans rfl;have s2 : w5.cell? ⟨gb,2,none⟩ = some (.int .i64 0):=(zbf hbx 2).trans rfl;have s3 : w5.cell? ⟨gb,3,none⟩ = some (.int .i64 0):=(zbf hbx 3).trans rfl;have t0:=zap hbx 0;have t1:=zap hbx 1;have t2:=zap hbx 2;have t3:=zap hbx 3;have GB:=zA0 (show w.heap.size≤gb by rw [hgb];exact HW.out.hb.size);clear hgb;have BX:=zA0 hbx;have BB:=zA0 hbb;clear hbx hbb))
   --@6
   have BX5:=blk4 (y0:=.string (zaq l0 ↑i).f0) (y1:=.int .i64 (zaq l0 ↑i).f1) (y2:=.int .i64 (zaq l0 ↑i).f2) (y3:=.int .i64 0) BX.out;have HW5:=(HW.out.below BB.out).set4 (y0:=.string (zaq l0 ↑i).f0) (y1:=.int .i64 (zaq l0 ↑i).f1) (y2:=.int .i64 (zaq l0 ↑i).f2) (y3:=.int .i64 0) BX.out (by decide) GB.out;clear s0 s1 s2 s3 t0 t1 t2 t3 BX BB HW x0 x1 x2 x3 y0;generalize (((w5.setCell ⟨gb,0,none⟩ (.string (zaq l0 ↑i).f0)).setCell ⟨gb,1,none⟩ (.int .i64 (zaq l0 ↑i).f1)).setCell ⟨gb,2,none⟩ (.int .i64 (zaq l0 ↑i).f2)).setCell ⟨gb,3,none⟩ (.int .i64 0) = w6 at *;clear w5;have s1 : w6.cell? ⟨gb,1,none⟩ = some (.int .i64 (zaq l0 ↑i).f1):=(zbf BX5 1).trans rfl;have z5:=(HW5.cell0 P4.out).1;have BX6 : Aside0 (w6.heap[gb]? = _):=zA0 BX5;have HW6:=zA0 HW5;clear BX5 HW5
   go_upto_region 11 with (fail)
   --@7
   obtain ⟨aL,Ai,ci,eL,h0,h1,h2⟩:=at_L14 HR3.out (i : Int) (by omega) (by have:=P4.out;omega);cases eL;obtain ⟨ar,eR,h3⟩:=Kd.at_int h2 0 (by omega) (by have:=P5.out;omega);cases eR;rw [Int.toNat_natCast] at h0;rw [show ar.add (Int.toNat 0) = ar from Addr.add_zero' ar] at h3;have qc : 1≤ci:=Nat.le_trans P5.out h1;have BX7 : Aside0 (w6.drew.heap[gb]? = _):=zA0 BX6.out;have HW7:=zA0 (HW6.out.below ((Below.refl _ w6).drew));have hr:=(HW7.out.hb.cell (World.block_lt_of_cell? _ _ h0)).trans h0;have H3:=zA0 h3;have QC:=zA0 qc;clear s1 z5 BX6 HW6 h0 h1 h2 h3 qc;refine zd9 (fun w' => Below w6.drew.heap.size w6.drew w') (fun _ => false) 13 rfl mixed ?_;generalize w6.drew = W at *;clear w6;have hS:=Below.refl W.heap.size W;have y0:=zk0 BX7.out;have y1:=zk1 BX7.out;have y2:=zk2 BX7.out;have y3:=zk3 BX7.out;refine zbz (i:=0) (v:=?v1) rfl (by kernel_rfl) (by kernel_rfl) (by kernel_rfl) (fun _ _ _ h => h) (Or.inl ⟨by rfl,?hy1⟩) ?hr1
   case hy1 => (intro w' _;(try go_simp);(try (with_reducible rfl)))
   (try simp only [Act.put,za1,za2,za3]);refine zbz (i:=1) (v:=?v2) rfl (by kernel_rfl) (by kernel_rfl) (by kernel_rfl) (fun _ _ _ h => h) (Or.inl ⟨by rfl,?hy2⟩) ?hr2
   case hy2 => (intro w' _;(try go_simp);(try (with_reducible rfl)))
   (try simp only [Act.put,za1,za2,za3]);refine zdt (i:=2) (v:=?v3) rfl (by kernel_rfl) (by kernel_rfl) (by kernel_rfl) (by kernel_rfl) (fun _ _ _ h => h) (Or.inl ⟨by rfl,?hy3⟩) hS ?hr3
   case hy3 =>
    intro w' hw';have y1':=(hw'.cell (World.block_lt_of_cell? _ _ y1)).trans y1;(try go_simp);(try (with_reducible rfl))
   (try simp only [Act.put,za1,za2,za3]);refine zbz (i:=3) (v:=?v4) rfl (by kernel_rfl) (by kernel_rfl) (by kernel_rfl) (fun _ _ _ h => h) (Or.inl ⟨by rfl,?hy4⟩) ?hr4
   case hy4 => (intro w' _;(try go_simp);(try (with_reducible rfl)))
   (try simp only [Act.put,za1,za2,za3]);refine zbz (i:=4) (v:=?v5) rfl (by kernel_rfl) (by kernel_rfl) (by kernel_rfl) (fun _ _ _ h => h) (Or.inl ⟨by rfl,?hy5⟩) ?hr5
   case hy5 => (intro w' _;(try go_simp);(try (with_reducible rfl)))
   (try simp only [Act.put,za1,za2,za3]);refine zdt (i:=5) (v:=?v6) rfl (by kernel_rfl) (by kernel_rfl) (by kernel_rfl) (by kernel_rfl) (fun _ _ _ h => h) (Or.inl ⟨by rfl,?hy6⟩) hS ?hr6
   case hy6 =>
    intro w' hw';have hr':=(hw'.cell (World.block_lt_of_cell? _ _ hr)).trans hr;(try go_simp);(try (with_reducible rfl))
   (try simp only [Act.put,za1,za2,za3]);refine zbz (i:=6) (v:=?v7) rfl (by kernel_rfl) (by kernel_rfl) (by kernel_rfl) (fun _ _ _ h => h) (Or.inl ⟨by rfl,?hy7⟩) ?hr7
   case hy7 => (intro w' _;(try go_simp);(try (with_reducible rfl)))
   (try simp only [Act.put,za1,za2,za3]);refine zbz (i:=7) (v:=?v8) rfl (by kernel_rfl) (by kernel_rfl) (by kernel_rfl) (fun _ _ _ h => h) (Or.inl ⟨by rfl,?hy8⟩) ?hr8
   case hy8 => (intro w' _;(try go_simp);(try (with_reducible rfl)))
   (try simp only [Act.put,za1,za2,za3]);refine zdt (i:=8) (v:=?v9) rfl (by kernel_rfl) (by kernel_rfl) (by kernel_rfl) (by kernel_rfl) (fun _ _ _ h => h) (Or.inl ⟨by rfl,?hy9⟩) hS ?hr9
   case hy9 =>
    intro w' hw';have y0':=(hw'.cell (World.block_lt_of_cell? _ _ y0)).trans y0;have y1':=(hw'.cell (World.block_lt_of_cell? _ _ y1)).trans y1;have y2':=(hw'.cell (World.block_lt_of_cell? _ _ y2)).trans y2;have y3':=(hw'.cell (World.block_lt_of_cell? _ _ y3)).trans y3;(try go_simp);(try (with_reducible rfl))
   (try simp only [Act.put,za1,za2,za3]);refine zdb (i:=9) (by kernel_rfl) rfl (fun K hK => ?_);go_simp
   --@8
   refine (zc0.calls (zaq l0 ↑i).f0 (zaq l0 ↑i).f1 (zaq l0 ↑i).f2 0 1 W (by simp [zc0.f])).mono ?_;rintro e W2 ⟨rfl,hb2⟩;(try simp only []);refine hK.out _ _ (fun _ hq => zaj hq hb2) ?_;clear hK K;have HW8:=zA0 (HW7.out.below hb2);have BX8 : Aside0 (W2.heap[gb]? = _):=zA0 ((hb2.block gb (zcs BX7.out)).trans BX7.out);clear hb2 hS HW7 BX7 y0 y1 y2 y3 hr
   have wone : IntKind.i64.wrap 1 = 1:=by rfl
   refine zbz (i:=10) (v:=?v10) rfl (by kernel_rfl) (by kernel_rfl) (by kernel_rfl) (fun _ _ _ h => h) (Or.inl ⟨by rfl,?hy10⟩) ?hr10
   case hy10 => (intro w' _;(try go_simp);(try (with_reducible rfl)))
   (try simp only [Act.put,za1,za2,za3]);have qc:=QC.out;have qd:=eq_true (show ((1 : Int)≤(ci : Int)) by have:=QC.out;omega);refine zdb (i:=11) (by kernel_rfl) rfl (fun K hK => ?_);go_simp;refine hK.out _ _ (fun _ hq => hq) ?_;clear hK K qc qd;refine zbz (i:=12) (v:=?v11) rfl (by kernel_rfl) (by kernel_rfl) (by kernel_rfl) (fun _ _ _ h => h) (Or.inl ⟨by rfl,?hy11⟩) ?hr11
   case hy11 => (intro w' _;(try go_simp);(try (with_reducible rfl)))
   (try simp only [Act.put,za1,za2,za3]);refine zeb (by kernel_rfl) ?_ _
   go_upto_region 12 with (fail)
   --@9
   have BX9 : Aside0 (W2.drew.heap[gb]? = _):=zA0 BX8.out;have HW9:=zA0 (HW8.out.below ((Below.refl _ W2).drew));clear BX8 HW8;refine zd9 (fun w' => Below W2.drew.heap.size W2.drew w') (fun j => decide (9≤j)) 10 rfl mixed ?_;generalize W2.drew = W3 at *;clear W2 W;have hS:=Below.refl W3.heap.size W3;have y0:=zk0 BX9.out;have y1:=zk1 BX9.out;have y2:=zk2 BX9.out;have y3:=zk3 BX9.out;refine zbz (i:=0) (v:=?v12) rfl (by kernel_rfl) (by kernel_rfl) (by kernel_rfl) (fun _ _ _ h => h) (Or.inl ⟨by rfl,?hy12⟩) ?hr12
   case hy12 => (intro w' _;(try go_simp);(try (with_reducible rfl)))
   (try simp only [Act.put,za1,za2,za3]);refine zbz (i:=1) (v:=?v13) rfl (by kernel_rfl) (by kernel_rfl) (by kernel_rfl) (fun _ _ _ h => h) (Or.inl ⟨by rfl,?hy13⟩) ?hr13
   case hy13 => (intro w' _;(try go_simp);(try (with_reducible rfl)))
   (try simp only [Act.put,za1,za2,za3]);refine zdt (i:=2) (v:=?v14) rfl (by kernel_rfl) (by kernel_rfl) (by kernel_rfl) (by kernel_rfl) (fun _ _ _ h => h) (Or.inl ⟨by rfl,?hy14⟩) hS ?hr14
   case hy14 =>
    intro w' hw';have y1':=(hw'.cell (World.block_lt_of_cell? _ _ y1)).trans y1;(try go_simp);(try (with_reducible rfl))
   (try simp only [Act.put,za1,za2,za3]);refine zbz (i:=3) (v:=?v15) rfl (by kernel_rfl) (by kernel_rfl) (by kernel_rfl) (fun _ _ _ h => h) (Or.inl ⟨by rfl,?hy15⟩) ?hr15
   case hy15 => (intro w' _;(try go_simp);(try (with_reducible rfl)))
   (try simp only [Act.put,za1,za2,za3]);refine zbz (i:=4) (v:=?v16) rfl (by kernel_rfl) (by kernel_rfl) (by kernel_rfl) (fun _ _ _ h => h) (Or.inl ⟨by rfl,?hy16⟩) ?hr16
   case hy16 => (intro w' _;(try go_simp);(try (with_reducible rfl)))
   (try simp only [Act.put,za1,za2,za3]);refine zdt (i:=5) (v:=?v17) rfl (by kernel_rfl) (by kernel_rfl) (by kernel_rfl) (by kernel_rfl) (fun _ _ _ h => h) (Or.inl ⟨by rfl,?hy17⟩) hS ?hr17
   case hy17 =>
    intro w' hw';have y0':=(hw'.cell (World.block_lt_of_cell? _ _ y0)).trans y0;have y1':=(hw'.cell (World.block_lt_of_cell? _ _ y1)).trans y1;have y2':=(hw'.cell (World.block_lt_of_cell? _ _ y2)).trans y2;have y3':=(hw'.cell (World.block_lt_of_cell? _ _ y3)).trans y3;(try go_simp);(try (with_reducible rfl))
   (try simp only [Act.put,za1,za2,za3]);refine zdb (i:=6) (by kernel_rfl) rfl (fun K hK => ?_);go_simp
   --@q
   refine (zc0.calls (zaq l0 ↑i).f0 (zaq l0 ↑i).f1 (zaq l0 ↑i).f2 0 1 W3 (by simp [zc0.f])).mono ?_;rintro e W4 ⟨rfl,hb2⟩;(try simp only []);refine hK.out _ _ (fun _ hq => zaj hq hb2) ?_;clear hK K;have HWa:=zA0 (HW9.out.below hb2);have BXa : Aside0 (W4.heap[gb]? = _):=zA0 ((hb2.block gb (zcs BX9.out)).trans BX9.out);clear hb2 hS HW9 BX9 y0 y1 y2 y3;refine zbz (i:=7) (v:=?v18) rfl (by kernel_rfl) (by kernel_rfl) (by kernel_rfl) (fun _ _ _ h => h) (Or.inl ⟨by rfl,?hy18⟩) ?hr18
   case hy18 => (intro w' _;(try go_simp);(try (with_reducible rfl)))
   (try simp only [Act.put,za1,za2,za3]);refine zbz (i:=8) (v:=?v19) rfl (by kernel_rfl) (by kernel_rfl) (by kernel_rfl) (fun _ _ _ h => h) (Or.inl ⟨by rfl,?hy19⟩) ?hr19
   case hy19 => (intro w' _;(try go_simp);(try (with_reducible rfl)))
   (try simp only [Act.put,za1,za2,za3]);obtain ⟨z5,z6,hz⟩:=HWa.out.cell0 P4.out;have HZ:=zA0 hz;clear hz;refine zdb (i:=9) (by kernel_rfl) rfl (fun K hK => ?_);go_simp
   --@r
   refine hK.out _ _ (fun h => absurd h (by decide)) ?_;clear hK K z5 z6;refine zeb (by kernel_rfl) ?_ _;have HWb:=HWa.out.put 1 GA.out HZ.out;have BXb : (W4.setCell ⟨ga,i,none⟩ (.int .i64 1)).heap[gb]? = _:=blk_other BXa.out HZ.out (by decide) i (.int .i64 1);clear HWa BXa HZ;generalize W4.setCell ⟨ga,i,none⟩ (.int .i64 1) = W5 at *;clear W3 W4;have y3 : W5.cell? ⟨gb,3,none⟩ = some (.int .i64 0):=(zbf BXb 3).trans rfl;have HWc:=zA0 HWb;have BXc : Aside0 (W5.heap[gb]? = _):=zA0 BXb;clear HWb BXb
   go_upto_region 15 with (fail)
   --@s
   have BXd : Aside0 (W5.drew.heap[gb]? = _):=zA0 BXc.out;have HWd:=zA0 (HWc.out.below ((Below.refl _ W5).drew));clear BXc HWc y3;refine zd9 (fun w' => Below W5.drew.heap.size W5.drew w') (fun j => decide (6≤j)) 7 rfl mixed ?_;generalize W5.drew = W6 at *;clear W5;have hS:=Below.refl W6.heap.size W6;have y0:=zk0 BXd.out;have hr:=(HWd.out.hb.cell (World.block_lt_of_cell? _ _ H3.out)).trans H3.out;refine zbz (i:=0) (v:=?v20) rfl (by kernel_rfl) (by kernel_rfl) (by kernel_rfl) (fun _ _ _ h => h) (Or.inl ⟨by rfl,?hy20⟩) ?hr20
   case hy20 => (intro w' _;(try go_simp);(try (with_reducible rfl)))
   (try simp only [Act.put,za1,za2,za3]);refine zbz (i:=1) (v:=?v21) rfl (by kernel_rfl) (by kernel_rfl) (by kernel_rfl) (fun _ _ _ h => h) (Or.inl ⟨by rfl,?hy21⟩) ?hr21
   case hy21 => (intro w' _;(try go_simp);(try (with_reducible rfl)))
   (try simp only [Act.put,za1,za2,za3]);refine zdt (i:=2) (v:=?v22) rfl (by kernel_rfl) (by kernel_rfl) (by kernel_rfl) (by kernel_rfl) (fun _ _ _ h => h) (Or.inl ⟨by rfl,?hy22⟩) hS ?hr22
   case hy22 =>
    intro w' hw';have y0':=(hw'.cell (World.block_lt_of_cell? _ _ y0)).trans y0;(try go_simp);(try (with_reducible rfl))
   (try simp only [Act.put,za1,za2,za3]);refine zbz (i:=3) (v:=?v23) rfl (by kernel_rfl) (by kernel_rfl) (by kernel_rfl) (fun _ _ _ h => h) (Or.inl ⟨by rfl,?hy23⟩) ?hr23
   case hy23 => (intro w' _;(try go_simp);(try (with_reducible rfl)))
   (try simp only [Act.put,za1,za2,za3]);refine zbz (i:=4) (v:=?v24) rfl (by kernel_rfl) (by kernel_rfl) (by kernel_rfl) (fun _ _ _ h => h) (Or.inl ⟨by rfl,?hy24⟩) ?hr24
   case hy24 => (intro w' _;(try go_simp);(try (with_reducible rfl)))
   (try simp only [Act.put,za1,za2,za3]);refine zdt (i:=5) (v:=?v25) rfl (by kernel_rfl) (by kernel_rfl) (by kernel_rfl) (by kernel_rfl) (fun _ _ _ h => h) (Or.inl ⟨by rfl,?hy25⟩) hS ?hr25
   case hy25 =>
    intro w' hw';have hr':=(hw'.cell (World.block_lt_of_cell? _ _ hr)).trans hr;(try go_simp);(try (with_reducible rfl))
   (try simp only [Act.put,za1,za2,za3]);refine zdb (i:=6) (by kernel_rfl) rfl (fun K hK => ?_);go_simp
   --@t
   refine (set_calls g k ((l0.map (·.f0)).take i) (heads l3 i) (zaq l0 ↑i).f0 (rd (zdr l3 ↑i) 0) w W6 HWd.out.st HWd.out.hb PF.out (by have:=HN.out;simp;omega) (by have:=HN.out;rw [heads_length];omega)).mono ?_;rintro e W7 ⟨rfl,hs,hb7,ho⟩;(try simp only []);refine hK.out _ _ (fun h => absurd h (by decide)) ?_;clear hK K;refine zeb (by kernel_rfl) ?_ _;have HWe:=HWd.out.setted hs hb7 ho;rw [← NS.out,← heads_succ] at HWe;have HWf:=zA0 HWe;have hwi:=wrap_succ hlt (by have:=HN.out;omega : l0.length≤1000);clear HWe HWd BXd hs hb7 ho hS y0 hr
   --@u
   go_wp2
   --@y
   go_roundw
   --@z
   case rel => exact ⟨i + 1,congrArg (Value.int .i64) hwi,Nat.succ_le_of_lt hlt,HWf.out⟩
   case measure => exact run_measure hwi hlt
  ·obtain rfl : i = l0.length:=by omega
   rw [List.take_of_length_le (by simp)] at hW;have y0 : wr.cell? ⟨gp,0,none⟩ = some (.slice A0 l0.length c0):=(zbf hW.hp 0).trans rfl;have HW:=zA0 hW;clear hW
   go_wp2_with fail
   go_loopw [13] (fun v13 w' => v13 = .int .i64 0∧Rn w w' gp g #[.slice A0 l0.length c0,.slice A1 l1.length c1,.slice A2 l2.length c2] va l3.length (l0.map (·.f0)) (heads l3 l0.length) l0.length) (fun _ _ => 0)
   case atStart => exact ⟨rfl,HW.out⟩
   case round =>
    clear HW y0;obtain ⟨rfl,hW⟩:=hrel;have y1 : wr.cell? ⟨gp,1,none⟩ = some (.slice A1 l1.length c1):=(zbf hW.hp 1).trans rfl;have y2 : wr.cell? ⟨gp,2,none⟩ = some (.slice A2 l2.length c2):=(zbf hW.hp 2).trans rfl;rw [HN.out.1] at y1;obtain ⟨A,a,B,b,hFy⟩:=hW.st.fy hW.hb;have HF:=zA0 hFy;clear hW hFy
    go_wp2_with fail
    refine (stmts_calls g k A a B b (l0.map (·.f0)) (heads l3 l0.length) A2 c2 l2 r w wr HF.out HR2.out (by have:=HN.out;omega) HO.out).mono ?_;rintro e w' ⟨rfl,v,hF'⟩;have HF':=zA0 hF';have z4 : w'.cell? ⟨g,4,none⟩ = some v:=(zbf hF'.hg 4).trans rfl;clear hF' HF y1 y2
    go_wp2_with fail
    refine bodyPost_ret (results_tmp2 rfl _ _ _) rfl ?_;exact ⟨v,rfl,HF'.out.r3,HF'.out.hb⟩
end Go.Proofs.YtkgdhdjkpnalmaaGreatDoor.P
end
