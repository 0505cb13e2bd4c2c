/- What is proved here: a part of the proof of ElectionChangedVote: WShare, WN, WFootNe, WAt, WEqStruct, WRepsOne, WInv, WInvWords, WGuard, WNEv, WMore. No conditions beside those that each theorem states. -/
import Derived.Test.YtkgdhdjkpnalmaaGreatDoorKECVte2
import Derived.Test.YtkgdhdjkpnalmaaGreatDoorKECVte0
import Derived.Laws.StructEq
set_option linter.unusedVariables false
set_option linter.unusedSimpArgs false
section
namespace Go.Proofs.YtkgdhdjkpnalmaaGreatDoorW.PrintWords
open Go.RowKit
def Foot (P : World→Prop) (W : World) (ok : Nat→Prop) : Prop:=∀ W' : World,(∀ k,ok k→k < W.heap.size→W'.heap[k]? = W.heap[k]?)→P W'
theorem heap_lt {W W1 : World} {k : Nat} (h : W1.heap[k]? = W.heap[k]?) (hlt : k < W.heap.size) : k < W1.heap.size:=by
  rw [Array.getElem?_eq_getElem hlt] at h;exact (Array.getElem?_eq_some_iff.1 h).1
namespace Foot
variable {P Q : World→Prop} {W W1 : World} {ok ok' : Nat→Prop}
theorem now (h : Foot P W ok) : P W:=h W (fun _ _ _ => rfl)
theorem mono (h : Foot P W ok) (hok : ∀ k,ok k→ok' k) : Foot P W ok':=fun W' hW => h W' (fun k hk hlt => hW k (hok k hk) hlt)
theorem bound (h : Foot P W ok) : Foot P W (fun k => ok k∧k < W.heap.size):=fun W' hW => h W' (fun k hk hlt => hW k ⟨hk,hlt⟩ hlt)
theorem step (h : Foot P W ok) (hm : ∀ k,ok k→k < W.heap.size→W1.heap[k]? = W.heap[k]?) : Foot P W1 ok:=fun W' hW => h W' (fun k hk hlt => (hW k hk (heap_lt (hm k hk hlt) hlt)).trans (hm k hk hlt))
end Foot
namespace Kd
def F {α : Type} (d : Kd α) (W : World) (ok : Nat→Prop) (A : Option Addr) (n : Nat) (xs : List α) : Prop:=Foot (fun W => d.C W A n xs) W ok
def FK {α : Type} (d : Kd α) (W : World) (ok : Nat→Prop) (x : α) (c : List Value) : Prop:=Foot (fun W => d.K W x c) W ok
section
variable {α β : Type} {d : Kd α} {e base n n' cc g N : Nat} {ok ok' okp S : Nat→Prop} {w w0 w1 W W1 : World} {A A' : Option Addr} {u v v1 : Value} {xs : List α} {xs' : List β} {d' : Kd β} {x : α} {c : List Value}
theorem F_nil (d : Kd α) (W : World) (ok : Nat→Prop) : F d W ok none ([] : List α).length []:=fun W' _ => C_nil d W'
theorem R_F (h : d.R e W base ok (.slice A n cc) xs) : F d W ok A n xs:=fun W' hW => by
  have h2:=R_reads' (R_step h hW);rw [h2.1];exact h2.2.2
theorem FK_now (h : FK d W ok x c) : d.K W x c:=Foot.now h
theorem FK_mono (h : FK d W ok x c) (hok : ∀ k,ok k→ok' k) : FK d W ok' x c:=Foot.mono h hok
theorem FK_bound (h : FK d W ok x c) : FK d W (fun k => ok k∧k < W.heap.size) x c:=Foot.bound h
theorem FK_step (h : FK d W ok x c) (hm : ∀ k,ok k→k < W.heap.size→W1.heap[k]? = W.heap[k]?) : FK d W1 ok x c:=Foot.step h hm
theorem FK_of_M (h : d.M W base ok x c) : FK d W ok x c:=fun _ hW => d.K_of_M (M_step h hW)
end
end Kd
end Go.Proofs.YtkgdhdjkpnalmaaGreatDoorW.PrintWords
end
section
namespace Go.Proofs.YtkgdhdjkpnalmaaGreatDoorW.PrintWords
open Go.RowKit
namespace Kd
def chunks (sz : Nat) (n : Nat) (inner : List Value) : List (List Value):=(List.range n).map fun j => (inner.drop (j * sz)).take sz
theorem zdk (sz n : Nat) (inner : List Value) : (chunks sz n inner).length = n:=by simp [chunks]
theorem chunks_at {sz n : Nat} {inner : List Value} {j : Nat} (hj : j < n) : (chunks sz n inner)[j]? = some ((inner.drop (j * sz)).take sz):=by simp [chunks,hj]
theorem chunks_get {sz n : Nat} {inner : List Value} {j : Nat} {c : List Value} (h : (chunks sz n inner)[j]? = some c) : c = (inner.drop (j * sz)).take sz:=by
  have hj : j < n:=by have:=(List.getElem?_eq_some_iff.1 h).1;rwa [zdk] at this
  rw [chunks_at hj] at h
  injection h with h
  exact h.symm
theorem reps_raw {α : Type} {Rr : α→List Value→Prop} {sz : Nat} {xs : List α} {inner : List Value} (h : Reps Rr sz xs inner) (hR : ∀ x c,Rr x c→c.length = sz∧∀ u ∈ c,u.oneCell' = true) : Reps (fun x cs => cs = x∧cs.length = sz∧∀ u ∈ cs,u.oneCell' = true) sz (chunks sz xs.length inner) inner:=by
  refine ⟨by rw [zdk];exact h.1,fun j p hj => ?_⟩
  have hjl : j < xs.length:=by have:=(List.getElem?_eq_some_iff.1 hj).1;rwa [zdk] at this
  have hp:=chunks_get hj;exact ⟨hp.symm,hR _ _ (h.2 j _ (List.getElem?_eq_getElem hjl))⟩
section
variable {α : Type} {d : Kd α} {e base n cc g : Nat} {ok ok' okp S : Nat→Prop} {w w1 W W1 : World} {A : Option Addr} {u v v1 : Value} {xs : List α} {x : α} {c : List Value}
def N {α : Type} (d : Kd α) (e : Nat) (w : World) (base : Nat) (ok : Nat→Prop) (v : Value) (xs : List α) : Prop :=
  (∀ k,v.ownBlock = some k→ok k)∧∃ rows : List (List Value),rows.length = xs.length∧(raw d.sz).R e w base (fun k => some k = v.ownBlock) v rows∧∀ (j : Nat) (x : α) (c : List Value),xs[j]? = some x→rows[j]? = some c→FK d w (fun k => ok k∧some k≠v.ownBlock) x c
theorem raw_tight {sz : Nat} {rows : List (List Value)} (h : (raw sz).R e w base ok v rows) : (raw sz).R e w base (fun k => some k = v.ownBlock) v rows:=R_tight rfl h
theorem raw_any {sz : Nat} {rows : List (List Value)} (h : (raw sz).R e w base ok v rows) : (raw sz).R e w base (fun _ => True) v rows:=R_mono h (fun _ _ => trivial)
theorem R_N (h : d.R e w base ok v xs) : N d e w base ok v xs:=by
  obtain ⟨h0,inner,ho,hr⟩:=h;refine ⟨h0,chunks d.sz xs.length inner,zdk _ _ _,⟨fun k hk => hk.symm,inner,by rw [zdk];exact ho,reps_raw hr (fun x c hp => ⟨d.K_len (d.K_of_M hp),d.K_one (d.K_of_M hp)⟩)⟩,fun j x c hx hc => ?_⟩;rw [chunks_get hc];exact FK_of_M (hr.2 j x hx)
theorem N_nil (d : Kd α) (e : Nat) (w : World) (base : Nat) (ok : Nat→Prop) : N d e w base ok (.slice none 0 0) []:=R_N (R_nil _ _ _ _ _)
theorem N_mono (h : N d e w base ok v xs) (hok : ∀ k,ok k→ok' k) : N d e w base ok' v xs:=by
  obtain ⟨h0,rows,hl,hR,hf⟩:=h;exact ⟨fun k hk => hok k (h0 k hk),rows,hl,hR,fun j x c hx hc => FK_mono (hf j x c hx hc) (fun k hk => ⟨hok k hk.1,hk.2⟩)⟩
theorem N_lt (h : N d e w base ok v xs) : ∀ k,v.ownBlock = some k→k < w.heap.size:=by
  obtain ⟨_,rows,_,hR,_⟩:=h;exact R_lt hR
theorem N_base (h : N d e w base ok v xs) : ∀ k,v.ownBlock = some k→base≤k:=by
  obtain ⟨_,rows,_,hR,_⟩:=h;exact R_base hR
theorem N_base2 (h : N d e w base ok v xs) : v.ownBlock = none ∨ ∃ k,v.ownBlock = some k∧base≤k:=by
  obtain ⟨_,rows,_,hR,_⟩:=h;exact R_base2 hR
theorem N_typed (h : N d e w base ok v xs) : ∀ k,v.ownBlock = some k→∃ cells,w.heap[k]? = some (.cells cells e (0,0)):=by
  obtain ⟨_,rows,_,hR,_⟩:=h;exact R_typed hR
theorem N_ne (h : N d e w base ok v xs) {t : Nat} {cells : Array Value} (hb : w.heap[g]? = some (.cells cells t (0,0))) (ht : e≠t) : some g≠v.ownBlock:=by
  obtain ⟨_,rows,_,hR,_⟩:=h;exact R_ne hR hb ht
theorem N_bound (h : N d e w base ok v xs) : N d e w base (fun k => ok k∧k < w.heap.size) v xs:=by
  have hlt:=N_lt h;obtain ⟨h0,rows,hl,hR,hf⟩:=h;exact ⟨fun k hk => ⟨h0 k hk,hlt k hk⟩,rows,hl,hR,fun j x c hx hc => FK_mono (FK_bound (hf j x c hx hc)) (fun k hk => ⟨⟨hk.1.1,hk.2⟩,hk.1.2⟩)⟩
theorem N_lower {base' : Nat} (h : N d e w base ok v xs) (hb : base'≤base) : N d e w base' ok v xs:=by
  obtain ⟨h0,rows,hl,hR,hf⟩:=h;exact ⟨h0,rows,hl,R_lower hR hb,hf⟩
theorem N_step (h : N d e w base ok v xs) (hm : ∀ k,ok k→k < w.heap.size→w1.heap[k]? = w.heap[k]?) : N d e w1 base ok v xs:=by
  obtain ⟨h0,rows,hl,hR,hf⟩:=h;exact ⟨h0,rows,hl,R_step hR (fun k hk hlt => hm k (h0 k hk.symm) hlt),fun j x c hx hc => FK_step (hf j x c hx hc) (fun k hk hlt => hm k hk.1 hlt)⟩
theorem N_below (h : N d e w base ok v xs) (hb : Below w.heap.size w w1) : N d e w1 base ok v xs:=N_step h (fun k _ hk => hb.block k hk)
theorem N_alloc (h : N d e w base ok v xs) (o : Obj) : N d e (w.alloc o) base ok v xs:=N_below h (zbp (Below.refl _ _) o)
theorem N_drew (h : N d e w base ok v xs) : N d e w.drew base ok v xs:=N_below h (below_drew (Below.refl _ _))
theorem N_drewN (h : N d e w base ok v xs) (m : Nat) : N d e (w.drewN m) base ok v xs:=N_below h (za5 (Below.refl _ _) m)
theorem N_far (h : N d e w base ok v xs) {p : Addr} (hok : ∀ k,ok k→k≠p.block) (u : Value) : N d e (w.setCell p u) base ok v xs:=N_step h (fun k ho _ => Below.heap_setCell w p u k (hok k ho))
theorem N_keep (h : N d e w base ok v xs) (hk : zaf w w1 g none) (hok : ∀ k,ok k→k≠g) : N d e w1 base ok v xs:=N_step h (fun k ho hlt => hk.2 k hlt (hok k ho) (by simp))
theorem N_elder' (h : N d e W base ok v xs) (hbase : ∀ k,u.ownBlock = some k→W.heap.size≤k) (hb : Below W.heap.size W w1) : N d e w1 base (fun k => ok k∧some k≠u.ownBlock) v xs :=
  N_mono (N_below (N_bound h) hb) (fun k hk => ⟨hk.1,fun he => by have:=hbase k he.symm;have:=hk.2;omega⟩)
theorem N_elderB (h : N d e w base ok v xs) (a : Nat) (ha : w.heap.size≤a) : N d e w base (fun k => ok k∧k≠a) v xs:=N_mono (N_bound h) (fun k hk => ⟨hk.1,by have:=hk.2;omega⟩)
theorem N_oldK (h : N d e W base (fun k => ok k∧k≠g) v xs) (hk : zaf W w1 g none) : N d e w1 base (fun k => ok k∧k < W.heap.size) v xs:=N_mono (N_keep (N_bound h) hk (fun _ hk => hk.1.2)) (fun _ hk => ⟨hk.1.1,hk.2⟩)
theorem N_told {b : Nat} (h : N d e w1 base (fun k => ok k∧k < b) v xs) (hbase : ∀ k,u.ownBlock = some k→b≤k) : N d e w1 base (fun k => (ok k∧some k≠u.ownBlock)∧k < b) v xs :=
  N_mono h (fun k hk => ⟨⟨hk.1,fun e => Nat.lt_irrefl _ (Nat.lt_of_lt_of_le hk.2 (hbase k e.symm))⟩,hk.2⟩)
theorem N_slice (h : N d e w base ok v xs) : ∃ A c,v = .slice A xs.length c:=by
  obtain ⟨_,rows,hl,hR,_⟩:=h;obtain ⟨A,c,he⟩:=R_slice hR;exact ⟨A,c,by rw [he,hl]⟩
theorem N_reads' {n c : Nat} (h : N d e w base ok (.slice A n c) xs) : n = xs.length∧n≤c∧d.C w A xs.length xs:=by
  obtain ⟨_,rows,hl,hR,hf⟩:=h;obtain ⟨hn,hc,hC⟩:=R_reads' hR;refine ⟨by omega,hc,?_⟩;rw [hl] at hC;refine ⟨rfl,hC.2.1,fun hp => ?_⟩;obtain ⟨ad,he,hcell⟩:=hC.2.2 hp;refine ⟨ad,he,fun j p hj => ?_⟩
  have hjl : j < rows.length:=by have:=(List.getElem?_eq_some_iff.1 hj).1;omega
  obtain ⟨c',hcl,hK,hcc⟩:=hcell j _ (List.getElem?_eq_getElem hjl);have hk:=FK_now (hf j p _ hj (List.getElem?_eq_getElem hjl));refine ⟨c',hcl,?_,hcc⟩;rw [show c' = rows[j] from hK.1];exact hk
theorem N_F {n : Nat} (h : N d e w base ok (.slice A n cc) xs) : F d w ok A n xs:=fun W' hW => by
  have h2:=N_reads' (N_step h hW);rw [h2.1];exact h2.2.2
end
end Kd
end Go.Proofs.YtkgdhdjkpnalmaaGreatDoorW.PrintWords
end
section
namespace Go.Proofs.YtkgdhdjkpnalmaaGreatDoorW.PrintWords
open Go.RowKit
namespace Kd
theorem emptied_at (W : World) (g : Nat) : ∃ W' : World,W'.heap.size = W.heap.size∧(∀ k,k≠g→W'.heap[k]? = W.heap[k]?)∧∀ a : Addr,a.block = g→W'.cell? a = none:=by
  refine ⟨{ W with heap:=W.heap.setIfInBounds g (.cells #[] 0) },by simp,fun k hk => by simp [Ne.symm hk],fun a ha => ?_⟩;subst ha
  by_cases hlt : a.block < W.heap.size
  · simp [World.cell?,hlt]
  · simp [World.cell?,hlt]
section
variable {α : Type} {d : Kd α} {W : World} {g n : Nat} {S ok : Nat→Prop} {A : Option Addr} {ad : Addr} {xs : List α}
theorem C_not_empty (h : d.C W (some ad) n xs) (hn : 0 < n) (hs : 0 < d.sz) : W.cell? ad≠none:=by
  obtain ⟨ad',he,hc⟩:=h.2.2 hn
  injection he with he
  subst he;obtain ⟨c,hcl,_,hcell⟩:=hc 0 _ (List.getElem?_eq_getElem (by rw [h.1];exact hn));have h1:=hcell 0 _ (List.getElem?_eq_getElem (by omega));rw [Nat.zero_mul,Nat.zero_add,Addr.add_zero'] at h1;rw [h1];exact Option.some_ne_none _
theorem foot_ne (h : ∀ W',zaf W W' g none→d.C W' (some ad) n xs) (hn : 0 < n) (hs : 0 < d.sz) : ad.block≠g:=by
  intro he;obtain ⟨W',h1,h2,h3⟩:=emptied_at W g;exact C_not_empty (h W' ⟨Nat.le_of_eq h1.symm,fun i _ hi _ => h2 i hi⟩) hn hs (h3 ad he)
theorem C_lt (h : d.C W (some ad) n xs) (hn : 0 < n) (hs : 0 < d.sz) : ad.block < W.heap.size:=by
  cases hc : W.cell? ad with
  | none => exact absurd hc (C_not_empty h hn hs)
  | some v => exact World.block_lt_of_cell? W ad hc
theorem foot_lt (h : ∀ W',zaf W W' g none→d.C W' (some ad) n xs) (hn : 0 < n) (hs : 0 < d.sz) : ad.block < W.heap.size:=C_lt (h W (zaf.refl W g none)) hn hs
end
end Kd
end Go.Proofs.YtkgdhdjkpnalmaaGreatDoorW.PrintWords
end
section
namespace Go.Proofs.YtkgdhdjkpnalmaaGreatDoorW.PrintWords
open Go.RowKit
section
variable {w w' u : World} {m B g : Nat} {o : Obj} {row : Option Nat} {S : Nat→Prop} {a : Addr} {v : Value}
theorem below_at (hq : w.drewN m = w') (h : Below B u w) : Below B u w':=by subst hq;exact za5 h m
theorem blk_at (hq : w.drewN m = w') (h : w.heap[g]? = some o) : w'.heap[g]? = some o:=by subst hq;exact h
end
namespace Kd
section
variable {α : Type} {d : Kd α} {e base n m : Nat} {ok : Nat→Prop} {w w' : World} {v : Value} {A : Option Addr} {xs : List α}
theorem R_at (hq : w.drewN m = w') (h : d.R e w base ok v xs) : d.R e w' base ok v xs:=by subst hq;exact R_drewN h m
end
end Kd
end Go.Proofs.YtkgdhdjkpnalmaaGreatDoorW.PrintWords
end
section
namespace Go.Proofs.YtkgdhdjkpnalmaaGreatDoorW.PrintWords
end Go.Proofs.YtkgdhdjkpnalmaaGreatDoorW.PrintWords
end
section
namespace Go.Proofs.YtkgdhdjkpnalmaaGreatDoorW.PrintWords
theorem Reps.one {α : Type} {R : α→List Value→Prop} {ps : List α} {cs : List Value} {p : α} {v : Value} (hp : R p [v]) (h : Reps R 1 ps cs) : Reps R 1 (p :: ps) (v :: cs):=by
  refine ⟨by simp [h.1],fun j q hq => ?_⟩
  cases j with
  | zero =>
    simp only [List.getElem?_cons_zero,Option.some.injEq] at hq;subst hq
    simpa using hp
  | succ j =>
    simp only [List.getElem?_cons_succ] at hq;have h1:=h.2 j q hq
    simpa [Nat.mul_one] using h1
theorem Reps.front {α : Type} {R : α→List Value→Prop} {size : Nat} {ps : List α} {cs c all : List Value} {p : α} (hp : R p c) (hc : c.length = size) (h : Reps R size ps cs) (ha : c ++ cs = all) : Reps R size (p :: ps) all:=by
  subst ha;refine ⟨by rw [List.length_append,hc,h.1,List.length_cons,Nat.succ_mul,Nat.add_comm],fun j q hq => ?_⟩
  cases j with
  | zero =>
    simp only [List.getElem?_cons_zero,Option.some.injEq] at hq;subst hq;rw [Nat.zero_mul,List.drop_zero,List.take_append_of_le_length (by omega),List.take_of_length_le (by omega)];exact hp
  | succ j =>
    simp only [List.getElem?_cons_succ] at hq;have h1:=h.2 j q hq;rw [Nat.succ_mul,List.drop_append,List.drop_of_length_le (by rw [hc];exact Nat.le_add_left _ _),List.nil_append,hc,Nat.add_sub_cancel];exact h1
theorem Reps.c2 {α : Type} {R : α→List Value→Prop} {ps : List α} {cs : List Value} {p : α} {va vb : Value} (hp : R p [va,vb]) (h : Reps R 2 ps cs) : Reps R 2 (p :: ps) (va :: vb :: cs):=Reps.front hp rfl h rfl
theorem Reps.c3 {α : Type} {R : α→List Value→Prop} {ps : List α} {cs : List Value} {p : α} {va vb vc : Value} (hp : R p [va,vb,vc]) (h : Reps R 3 ps cs) : Reps R 3 (p :: ps) (va :: vb :: vc :: cs):=Reps.front hp rfl h rfl
theorem Reps.c4 {α : Type} {R : α→List Value→Prop} {ps : List α} {cs : List Value} {p : α} {va vb vc vd : Value} (hp : R p [va,vb,vc,vd]) (h : Reps R 4 ps cs) : Reps R 4 (p :: ps) (va :: vb :: vc :: vd :: cs):=Reps.front hp rfl h rfl
theorem Reps.c5 {α : Type} {R : α→List Value→Prop} {ps : List α} {cs : List Value} {p : α} {va vb vc vd ve : Value} (hp : R p [va,vb,vc,vd,ve]) (h : Reps R 5 ps cs) : Reps R 5 (p :: ps) (va :: vb :: vc :: vd :: ve :: cs):=Reps.front hp rfl h rfl
theorem Reps.c6 {α : Type} {R : α→List Value→Prop} {ps : List α} {cs : List Value} {p : α} {va vb vc vd ve vf : Value} (hp : R p [va,vb,vc,vd,ve,vf]) (h : Reps R 6 ps cs) : Reps R 6 (p :: ps) (va :: vb :: vc :: vd :: ve :: vf :: cs):=Reps.front hp rfl h rfl
theorem Reps.c7 {α : Type} {R : α→List Value→Prop} {ps : List α} {cs : List Value} {p : α} {va vb vc vd ve vf vg : Value} (hp : R p [va,vb,vc,vd,ve,vf,vg]) (h : Reps R 7 ps cs) : Reps R 7 (p :: ps) (va :: vb :: vc :: vd :: ve :: vf :: vg :: cs):=Reps.front hp rfl h rfl
theorem Reps.c8 {α : Type} {R : α→List Value→Prop} {ps : List α} {cs : List Value} {p : α} {va vb vc vd ve vf vg vh : Value} (hp : R p [va,vb,vc,vd,ve,vf,vg,vh]) (h : Reps R 8 ps cs) : Reps R 8 (p :: ps) (va :: vb :: vc :: vd :: ve :: vf :: vg :: vh :: cs):=Reps.front hp rfl h rfl
theorem Reps.c9 {α : Type} {R : α→List Value→Prop} {ps : List α} {cs : List Value} {p : α} {va vb vc vd ve vf vg vh vi : Value} (hp : R p [va,vb,vc,vd,ve,vf,vg,vh,vi]) (h : Reps R 9 ps cs) : Reps R 9 (p :: ps) (va :: vb :: vc :: vd :: ve :: vf :: vg :: vh :: vi :: cs):=Reps.front hp rfl h rfl
theorem Reps.c10 {α : Type} {R : α→List Value→Prop} {ps : List α} {cs : List Value} {p : α} {va vb vc vd ve vf vg vh vi vj : Value} (hp : R p [va,vb,vc,vd,ve,vf,vg,vh,vi,vj]) (h : Reps R 10 ps cs) : Reps R 10 (p :: ps) (va :: vb :: vc :: vd :: ve :: vf :: vg :: vh :: vi :: vj :: cs):=Reps.front hp rfl h rfl
end Go.Proofs.YtkgdhdjkpnalmaaGreatDoorW.PrintWords
end
section
namespace Go.Proofs.YtkgdhdjkpnalmaaGreatDoorW.PrintLast
end Go.Proofs.YtkgdhdjkpnalmaaGreatDoorW.PrintLast
end
section
namespace Go.Proofs.YtkgdhdjkpnalmaaGreatDoorW.PrintWords
end Go.Proofs.YtkgdhdjkpnalmaaGreatDoorW.PrintWords
namespace Go.Proofs.YtkgdhdjkpnalmaaGreatDoorW.PrintLast
end Go.Proofs.YtkgdhdjkpnalmaaGreatDoorW.PrintLast
end
section
namespace Go.Proofs.YtkgdhdjkpnalmaaGreatDoorW.PrintWords
open Go.RowKit
section
variable {P : Program} {ops : Array Oper} {rest : List Oper} {o : Oper} {a : Act} {Q : Exit→Act→World→Prop} {W : World}
theorem zcy (hw : Region.wanted o (yielded ops a.tmps) = true) (h : wpList P ops Q ({ o with guard:=none } :: rest) a W) : wpList P ops Q (o :: rest) a W:=by
  have h1 : Region.wanted { o with guard:=none } (yielded ops a.tmps) = true:=rfl;unfold wpList at h ⊢;rw [if_pos h1] at h;rw [if_pos hw];exact h
end
end Go.Proofs.YtkgdhdjkpnalmaaGreatDoorW.PrintWords
end
section
namespace Go.Proofs.YtkgdhdjkpnalmaaGreatDoorW.PrintWords
open Go.RowKit
namespace Kd
section
variable {α : Type} {d : Kd α} {e base n cap g : Nat} {ok ok' okp : Nat→Prop} {w w1 W : World} {v v1 : Value} {xs ys : List α}
theorem N_appended {rows news : List (List Value)} (h0 : ∀ k,v.ownBlock = some k→ok k) (hl : rows.length = xs.length) (hf : ∀ (j : Nat) (x : α) (c : List Value),xs[j]? = some x→rows[j]? = some c→FK d W (fun k => ok k∧some k≠v.ownBlock) x c)
    (hl2 : news.length = ys.length) (hf2 : ∀ (j : Nat) (x : α) (c : List Value),ys[j]? = some x→news[j]? = some c→FK d W okp x c) (hokp : ∀ k,okp k→ok k∧some k≠v.ownBlock) (hfresh : ∀ k,W.heap.size≤k→ok k)
    (hR : (raw d.sz).R e w1 base (fun _ => True) v1 (rows ++ news)) (hg : W.grownBy w1 v.ownBlock) (hat : v1.ownBlock = v.ownBlock ∨ ∃ b,v1.ownBlock = some b∧W.heap.size≤b) : N d e w1 base ok v1 (xs ++ ys):=by
  have hne : ∀ k,some k≠v.ownBlock→k < W.heap.size→some k≠v1.ownBlock:=by
    intro k hk hlt
    rcases hat with hat | ⟨b,hb,hle⟩
    · rw [hat];exact hk
    · rw [hb]
      intro he
      injection he with he
      omega
  have step : ∀ {x : α} {c : List Value} {o : Nat→Prop},FK d W o x c→(∀ k,o k→ok k∧some k≠v.ownBlock)→FK d w1 (fun k => ok k∧some k≠v1.ownBlock) x c:=by
    intro x c o hq ho;exact FK_mono (FK_step (FK_bound hq) (fun k hk hlt => hg.block k hlt (ho k hk.1).2)) (fun k hk => ⟨(ho k hk.1).1,hne k (ho k hk.1).2 hk.2⟩)
  refine ⟨fun k hk => ?_,rows ++ news,by rw [List.length_append,List.length_append,hl,hl2],raw_tight hR,fun j x c hx hc => ?_⟩
  · rcases hat with hat | ⟨b,hb,hle⟩
    · exact h0 k (hat ▸ hk)
    · rw [hb] at hk
      injection hk with hk
      exact hfresh k (by omega)
  · rcases Nat.lt_or_ge j xs.length with hlt | hge
    · rw [List.getElem?_append_left hlt] at hx
      rw [List.getElem?_append_left (by omega)] at hc;exact step (hf j x c hx hc) (fun _ hk => hk)
    · rw [List.getElem?_append_right hge] at hx
      rw [List.getElem?_append_right (by omega),hl] at hc;exact step (hf2 _ x c hx hc) hokp
theorem FK_raw {x : α} {c : List Value} (h : FK d W ok x c) : c = c∧c.length = d.sz∧∀ u ∈ c,u.oneCell' = true:=⟨rfl,d.K_len (FK_now h),d.K_one (FK_now h)⟩
theorem N_made {rows : List (List Value)} (hR : (raw d.sz).R e w1 base (fun k => k = W.heap.size) v1 rows) (hg : W.grownBy w1 none) (hat : ∃ b,v1.ownBlock = some b∧W.heap.size≤b) (hl : rows.length = xs.length) (hf : ∀ (j : Nat) (x : α) (c : List Value),xs[j]? = some x→rows[j]? = some c→FK d W okp x c)
    (hok : ∀ k,okp k→ok k) (hfresh : ok W.heap.size) : N d e w1 base ok v1 xs:=by
  obtain ⟨b,hb,hle⟩:=hat;refine ⟨fun k hk => by rw [hR.1 k hk];exact hfresh,rows,hl,raw_tight hR,fun j x c hx hc => ?_⟩;refine FK_mono (FK_step (FK_bound (hf j x c hx hc)) (fun k hk hlt => hg.block k hlt (by simp))) (fun k hk => ⟨hok k hk.1,fun he => ?_⟩);rw [hb] at he
  injection he with he
  have:=hk.2
  omega
end
section
variable {P : Program} {ops : Array Oper} {rest : List Oper} {o : Oper} {a : Act} {Q : Exit→Act→World→Prop} {Kc : Act→World→Prop} {α : Type}
theorem N_append (d : Kd α) {w0 W : World} (base : Nat) (hgd : o.guard = none) (s x : Operand) (t e : TypeId) (z : Value) (bytes : Nat)
    (ho : o.op = .call { callee:=.builtin .append,args:=#[s,x],argTypes:=#[t,t] })
    (ht : P.underlying t = some (.slice e)) (hinfo : (P.info? e).map (fun i => (i.zero,i.size,i.bytes)) = some (some z,d.sz,bytes)) (hz : z.cells.size = d.sz) (hs0 : 0 < d.sz) (hb0 : 0 < bytes)
    (v : Value) (xs : List α) (p : α) (cs : List Value) (ok okp : Nat→Prop) (hs : a.eval s = v) (hx : a.eval x = .slice (some ⟨W.heap.size,0,none⟩) 1 1) (hp : FK d W okp p cs) (hokp : ∀ k,okp k→ok k∧some k≠v.ownBlock) (hfresh : ∀ k,W.heap.size≤k→ok k)
    (HO : N d e W base ok v xs) (HB : Below base w0 W) (hbase : base≤W.heap.size) (hl : (xs.length + 1) * bytes≤140737488355328)
    (h : ∀ v1 w1,N d e w1 base ok v1 (xs ++ [p])→Below base w0 w1→W.grownBy w1 v.ownBlock→(v1.ownBlock = v.ownBlock ∨ ∃ b,v1.ownBlock = some b∧W.heap.size≤b)→wpList P ops Q rest (a.put o.dst v1) w1) :
    wpList P ops Q (o :: rest) a (W.alloc (.cells cs.toArray e)):=by
  obtain ⟨h0,rows,hlr,hR,hf⟩:=HO;refine R_append (raw d.sz) base hgd s x t e z bytes ho ht hinfo hz hs0 hb0 v rows cs cs (fun _ => True) (fun _ => False) hs hx (FK_raw hp) (fun _ hk => hk.elim) (fun _ _ => trivial) (raw_any hR) HB hbase (by rw [hlr];exact hl) ?_;intro v1 w1 hr hb hg hat
  exact h v1 w1 (N_appended h0 hlr hf (ys:=[p]) (news:=[cs]) rfl (fun j y c hy hc => by
    rcases j with _ | j
    · simp only [List.getElem?_cons_zero,Option.some.injEq] at hy hc
      rw [← hy,← hc];exact hp
    · simp at hy) hokp hfresh hr hg hat) hb hg hat
theorem N_lit (d : Kd α) {w0 W : World} (base e : Nat) (hgd : o.guard = none) {N' : Tmp} (_hd : o.dst = some N') {xs : List α} {inner : List Value} {ok okp : Nat→Prop}
    (hrun : (execOp a.eval o).run P W = .ok (.value (.slice (some ⟨W.heap.size,0,none⟩) xs.length xs.length)) (W.alloc (.cells inner.toArray e)))
    (hrep : Reps (FK d W okp) d.sz xs inner) (hok : ∀ k,okp k→ok k) (hfresh : ok W.heap.size) (HB : Below base w0 W) (hbase : base≤W.heap.size) (hm : xs.length≤9223372036854775807)
    (h : ∀ v1 w1,N d e w1 base ok v1 xs→Below base w0 w1→W.grownBy w1 none→(∃ b,v1.ownBlock = some b∧W.heap.size≤b)→wpList P ops Q rest (a.put o.dst v1) w1) :
    wpList P ops Q (o :: rest) a W:=by
  refine R_lit (raw d.sz) base e hgd _hd (xs:=chunks d.sz xs.length inner) (inner:=inner) (ok:=fun k => k = W.heap.size) (okp:=fun _ => False) (by rw [zdk];exact hrun) (reps_raw hrep (fun y c hk => ⟨d.K_len (FK_now hk),d.K_one (FK_now hk)⟩)) (fun _ hk => hk.elim) rfl HB hbase (by rw [zdk];exact hm) ?_;intro v1 w1 hr hb hg hat;exact h v1 w1 (N_made hr hg hat (zdk _ _ _) (fun j y c hy hc => by rw [chunks_get hc];exact hrep.2 j y hy) hok hfresh) hb hg hat
theorem N_lit_step (d : Kd α) {w0 W : World} (base e : Nat) (hw : Region.wanted o (yielded ops a.tmps) = true) {N' : Tmp} (_hd : o.dst = some N') {xs : List α} {inner : List Value} {ok okp : Nat→Prop}
    (hrun : (execOp a.eval o).run P W = .ok (.value (.slice (some ⟨W.heap.size,0,none⟩) xs.length xs.length)) (W.alloc (.cells inner.toArray e)))
    (hrep : Reps (FK d W okp) d.sz xs inner) (hok : ∀ k,okp k→ok k) (hfresh : ok W.heap.size) (HB : Below base w0 W) (hbase : base≤W.heap.size) (hm : xs.length≤9223372036854775807)
    (h : ∀ v1 w1,N d e w1 base ok v1 xs→Below base w0 w1→W.grownBy w1 none→(∃ b,v1.ownBlock = some b∧W.heap.size≤b)→Kc (a.put o.dst v1) w1) :
    if Region.wanted o (yielded ops a.tmps) = true then Oper.wp P o a W Kc Q else Kc (a.put o.dst undef) W:=by
  refine R_lit_step (raw d.sz) base e hw _hd (xs:=chunks d.sz xs.length inner) (inner:=inner) (ok:=fun k => k = W.heap.size) (okp:=fun _ => False) (by rw [zdk];exact hrun) (reps_raw hrep (fun y c hk => ⟨d.K_len (FK_now hk),d.K_one (FK_now hk)⟩)) (fun _ hk => hk.elim) rfl HB hbase (by rw [zdk];exact hm) ?_;intro v1 w1 hr hb hg hat;exact h v1 w1 (N_made hr hg hat (zdk _ _ _) (fun j y c hy hc => by rw [chunks_get hc];exact hrep.2 j y hy) hok hfresh) hb hg hat
end
end Kd
end Go.Proofs.YtkgdhdjkpnalmaaGreatDoorW.PrintWords
end
section
namespace Go.Proofs.YtkgdhdjkpnalmaaGreatDoorW.PrintMore
open Go.RowKit Go.Proofs.YtkgdhdjkpnalmaaGreatDoorW.PrintWords
namespace Kd
open Go.Proofs.YtkgdhdjkpnalmaaGreatDoorW.PrintWords.Kd
end Kd
namespace Kd
open Go.Proofs.YtkgdhdjkpnalmaaGreatDoorW.PrintWords.Kd
end Kd
theorem zcd (k k' : IntKind) (x y : Int) : Builtin.max2 (.int k x) (.int k' y) = pure (.int k (if x < y then y else x)):=by simp only [Builtin.max2,gt_iff_lt]
theorem zca (k k' : IntKind) (x y : Int) : Builtin.min2 (.int k x) (.int k' y) = pure (.int k (if y < x then y else x)):=by simp only [Builtin.min2]
theorem zci (ats : Array TypeId) (ty : TypeId) (a b : Value) : Builtin.max_ ats ty #[a,b] = (Builtin.max2 a b >>= fun s => pure s):=by simp only [Builtin.max_,List.foldlM_cons,List.foldlM_nil]
theorem zcj (ats : Array TypeId) (ty : TypeId) (a b : Value) : Builtin.min_ ats ty #[a,b] = (Builtin.min2 a b >>= fun s => pure s):=by simp only [Builtin.min_,List.foldlM_cons,List.foldlM_nil]
theorem zb1 (ats : Array TypeId) (ty : TypeId) (a b c : Value) : Builtin.max_ ats ty #[a,b,c] = (Builtin.max2 a b >>= fun s => Builtin.max2 s c >>= fun s => pure s):=by simp only [Builtin.max_,List.foldlM_cons,List.foldlM_nil]
theorem zb2 (ats : Array TypeId) (ty : TypeId) (a b c : Value) : Builtin.min_ ats ty #[a,b,c] = (Builtin.min2 a b >>= fun s => Builtin.min2 s c >>= fun s => pure s):=by simp only [Builtin.min_,List.foldlM_cons,List.foldlM_nil]
theorem zcc (ats : Array TypeId) (ty : TypeId) (a b c d : Value) : Builtin.max_ ats ty #[a,b,c,d] = (Builtin.max2 a b >>= fun s => Builtin.max2 s c >>= fun s => Builtin.max2 s d >>= fun s => pure s):=by simp only [Builtin.max_,List.foldlM_cons,List.foldlM_nil]
theorem zcb (ats : Array TypeId) (ty : TypeId) (a b c d : Value) : Builtin.min_ ats ty #[a,b,c,d] = (Builtin.min2 a b >>= fun s => Builtin.min2 s c >>= fun s => Builtin.min2 s d >>= fun s => pure s):=by simp only [Builtin.min_,List.foldlM_cons,List.foldlM_nil]
end Go.Proofs.YtkgdhdjkpnalmaaGreatDoorW.PrintMore
namespace Go.Proofs.YtkgdhdjkpnalmaaGreatDoorW.PrintWords
open Go.RowKit
section
variable {P : Program} {ops : Array Oper} {rest : List Oper} {o : Oper} {a : Act} {Q : Exit→Act→World→Prop} {W : World}
theorem zav {f : FuncId} {as : Array Operand} {ts : Array TypeId} (_ho : o.op = .call { callee:=.value (.func f),args:=as,argTypes:=ts }) (h : wpList P ops Q (o :: rest) a W) : wpList P ops Q (o :: rest) a W:=h
theorem zdn {b : Builtin} {xs : Array Operand} {ts : Array TypeId} (_ho : o.op = .call { callee:=.builtin b,args:=xs,argTypes:=ts }) (h : wpList P ops Q (o :: rest) a W) : wpList P ops Q (o :: rest) a W:=h
end
def mx (a b : Int) : Int:=if a < b then b else a
def shl (k : IntKind) (x y : Int) : Int:=k.wrap (x * 2 ^ min y.toNat k.bits)
theorem shl_small {k : IntKind} {x y j : Int} (h : shl k x y = j) (hy : y≤k.bits) : k.wrap (x * 2 ^ y.toNat) = j:=by rw [← h];unfold shl;rw [Nat.min_eq_left (by omega)]
theorem zdm (w : World) (n : Nat) : w.drewN n = w.drewN n:=rfl
namespace Kd
section
variable {α : Type} {d : Kd α} {e base : Nat} {ok : Nat→Prop} {W w1 : World} {v : Value} {xs : List α}
theorem R_grown2 (h : d.R e W base ok v xs) (hE : d.E = []) {row : Option Nat} (hg : W.grownBy w1 row) (hne : ∀ k,row = some k→some k≠v.ownBlock) : d.R e w1 base ok v xs :=
  R_mono (R_grown (R_tight hE h) hg (fun k hk e_ => hne k e_.symm hk)) (fun k hk => h.1 k hk.symm)
end
end Kd
end Go.Proofs.YtkgdhdjkpnalmaaGreatDoorW.PrintWords
namespace Go.Proofs.YtkgdhdjkpnalmaaGreatDoorW.PrintWords
open Go.RowKit
namespace Kd
def V {α : Type} (d : Kd α) (_e : Nat) (W : World) (_base : Nat) (ok : Nat→Prop) (v : Value) (xs : List α) : Prop:=∃ A c,v = .slice A xs.length c∧xs.length≤c∧F d W ok A xs.length xs
section
variable {α β : Type} {d : Kd α} {e base base' n m c g N' lo hi : Nat} {ok ok' S : Nat→Prop} {w W w1 : World} {A : Option Addr} {ad : Addr} {u v v1 : Value} {xs : List α}
theorem V_nil (d : Kd α) (e : Nat) (W : World) (base : Nat) (ok : Nat→Prop) : V d e W base ok (.slice none 0 0) []:=⟨none,0,rfl,Nat.le_refl _,F_nil d W ok⟩
theorem FK_slice_mk {l : List α} (hl : l.length≤c) (hf : F d W ok A l.length l) : FK (Kd.slice e d) W ok l [.slice A l.length c]:=fun W' hW => ⟨A,c,rfl,hl,hf W' hW⟩
end
end Kd
end Go.Proofs.YtkgdhdjkpnalmaaGreatDoorW.PrintWords
namespace Go.Proofs.YtkgdhdjkpnalmaaGreatDoorW.PrintWords
open Go.RowKit
theorem za1 (l : List Value) (i : Nat) (a : Value) : l.toArray.setIfInBounds i a = (l.set i a).toArray:=List.setIfInBounds_toArray l i a
theorem za2 (a b : Value) (l : List Value) : (a :: l).set 0 b = b :: l:=rfl
theorem za3 (a b : Value) (l : List Value) (n : Nat) : (a :: l).set (n + 1) b = a :: l.set n b:=rfl
theorem zb {p q : Prop} (x : Aside0 q) (h : q→p:=by intro z;(with_reducible repeat (first | refine blk_drewN ?_ _ | refine zdg ?_ | refine zdh ?_ _));exact z) : p:=h x.out
theorem zk0 {w : World} {g : Nat} {t : TypeId} { a : Value} {l : List Value} (h : w.heap[g]? = some (.cells (List.toArray (a :: l)) t (0,0))) : w.cell? ⟨g,0,none⟩ = some a:=(zbf h 0).trans rfl
theorem zk1 {w : World} {g : Nat} {t : TypeId} {x0 a : Value} {l : List Value} (h : w.heap[g]? = some (.cells (List.toArray (x0 :: a :: l)) t (0,0))) : w.cell? ⟨g,1,none⟩ = some a:=(zbf h 1).trans rfl
theorem zk2 {w : World} {g : Nat} {t : TypeId} {x0 x1 a : Value} {l : List Value} (h : w.heap[g]? = some (.cells (List.toArray (x0 :: x1 :: a :: l)) t (0,0))) : w.cell? ⟨g,2,none⟩ = some a:=(zbf h 2).trans rfl
theorem zk3 {w : World} {g : Nat} {t : TypeId} {x0 x1 x2 a : Value} {l : List Value} (h : w.heap[g]? = some (.cells (List.toArray (x0 :: x1 :: x2 :: a :: l)) t (0,0))) : w.cell? ⟨g,3,none⟩ = some a:=(zbf h 3).trans rfl
theorem zk4 {w : World} {g : Nat} {t : TypeId} {x0 x1 x2 x3 a : Value} {l : List Value} (h : w.heap[g]? = some (.cells (List.toArray (x0 :: x1 :: x2 :: x3 :: a :: l)) t (0,0))) : w.cell? ⟨g,4,none⟩ = some a:=(zbf h 4).trans rfl
theorem zrN {p q : Prop} (x : Aside0 q) (h : q→p:=by intro z;(with_reducible repeat (first | apply Kd.N_alloc | apply Kd.N_drewN | apply Kd.N_drew));exact z) : p:=h x.out
theorem zrR {p q : Prop} (x : Aside0 q) (h : q→p:=by intro z;(with_reducible repeat (first | apply Kd.R_alloc | apply Kd.R_drewN | apply Kd.R_drew));exact z) : p:=h x.out
theorem zs0 {p q : Prop} (x : Aside0 q) (h : q→p:=by intro z;repeat (first | (with_reducible first | exact z | apply zbp | apply za5 | apply zbr) | exact z)) : p:=h x.out
theorem zs1 {p q : Prop} {q0 : Prop} (x : Aside0 q) (e0 : Aside0 q0) (h : q→q0→p:=by intro z i0;repeat (first | (with_reducible first | exact z | apply zbp | apply za5 | apply zbr | refine zba ?_ i0) | exact z)) : p:=h x.out e0.out
theorem zs2 {p q : Prop} {q0 : Prop} {q1 : Prop} (x : Aside0 q) (e0 : Aside0 q0) (e1 : Aside0 q1) (h : q→q0→q1→p:=by intro z i0 i1;repeat (first | (with_reducible first | exact z | apply zbp | apply za5 | apply zbr | refine zba ?_ i0 | refine zba ?_ i1) | exact z)) : p:=h x.out e0.out e1.out
theorem zs3 {p q : Prop} {q0 : Prop} {q1 : Prop} {q2 : Prop} (x : Aside0 q) (e0 : Aside0 q0) (e1 : Aside0 q1) (e2 : Aside0 q2) (h : q→q0→q1→q2→p:=by intro z i0 i1 i2;repeat (first | (with_reducible first | exact z | apply zbp | apply za5 | apply zbr | refine zba ?_ i0 | refine zba ?_ i1 | refine zba ?_ i2) | exact z)) : p:=h x.out e0.out e1.out e2.out
theorem zs4 {p q : Prop} {q0 : Prop} {q1 : Prop} {q2 : Prop} {q3 : Prop} (x : Aside0 q) (e0 : Aside0 q0) (e1 : Aside0 q1) (e2 : Aside0 q2) (e3 : Aside0 q3) (h : q→q0→q1→q2→q3→p:=by intro z i0 i1 i2 i3;repeat (first | (with_reducible first | exact z | apply zbp | apply za5 | apply zbr | refine zba ?_ i0 | refine zba ?_ i1 | refine zba ?_ i2 | refine zba ?_ i3) | exact z)) : p:=h x.out e0.out e1.out e2.out e3.out
theorem zt {p : Prop} (h : p:=by (try simp only [List.map_toArray,List.map_cons,List.map_nil]);first | done | rfl | (simp only [List.length_drop,List.length_take];rfl)) : p:=h
theorem zc2 {w : World} {g : Nat} {t : TypeId} {x0 x1 : Value} {l : List Value} (h : w.heap[g]? = some (.cells (List.toArray (x0 :: x1 :: l)) t (0,0))) : w.cell? ⟨g,0,none⟩ = some x0∧w.cell? ⟨g,1,none⟩ = some x1:=⟨(zbf h 0).trans rfl,(zbf h 1).trans rfl⟩
theorem zc3 {w : World} {g : Nat} {t : TypeId} {x0 x1 x2 : Value} {l : List Value} (h : w.heap[g]? = some (.cells (List.toArray (x0 :: x1 :: x2 :: l)) t (0,0))) : w.cell? ⟨g,0,none⟩ = some x0∧w.cell? ⟨g,1,none⟩ = some x1∧w.cell? ⟨g,2,none⟩ = some x2:=⟨(zbf h 0).trans rfl,(zbf h 1).trans rfl,(zbf h 2).trans rfl⟩
theorem zc4 {w : World} {g : Nat} {t : TypeId} {x0 x1 x2 x3 : Value} {l : List Value} (h : w.heap[g]? = some (.cells (List.toArray (x0 :: x1 :: x2 :: x3 :: l)) t (0,0))) : w.cell? ⟨g,0,none⟩ = some x0∧w.cell? ⟨g,1,none⟩ = some x1∧w.cell? ⟨g,2,none⟩ = some x2∧w.cell? ⟨g,3,none⟩ = some x3:=⟨(zbf h 0).trans rfl,(zbf h 1).trans rfl,(zbf h 2).trans rfl,(zbf h 3).trans rfl⟩
theorem zc5 {w : World} {g : Nat} {t : TypeId} {x0 x1 x2 x3 x4 : Value} {l : List Value} (h : w.heap[g]? = some (.cells (List.toArray (x0 :: x1 :: x2 :: x3 :: x4 :: l)) t (0,0))) : w.cell? ⟨g,0,none⟩ = some x0∧w.cell? ⟨g,1,none⟩ = some x1∧w.cell? ⟨g,2,none⟩ = some x2∧w.cell? ⟨g,3,none⟩ = some x3∧w.cell? ⟨g,4,none⟩ = some x4:=⟨(zbf h 0).trans rfl,(zbf h 1).trans rfl,(zbf h 2).trans rfl,(zbf h 3).trans rfl,(zbf h 4).trans rfl⟩
theorem zf2 {w : World} {g : Nat} {t : TypeId} {c : Array Value} (h : w.heap[g]? = some (.cells c t (0,0))) : w.frozen? ⟨g,0,none⟩ = false∧w.frozen? ⟨g,1,none⟩ = false:=⟨zap h 0,zap h 1⟩
theorem zf3 {w : World} {g : Nat} {t : TypeId} {c : Array Value} (h : w.heap[g]? = some (.cells c t (0,0))) : w.frozen? ⟨g,0,none⟩ = false∧w.frozen? ⟨g,1,none⟩ = false∧w.frozen? ⟨g,2,none⟩ = false:=⟨zap h 0,zap h 1,zap h 2⟩
theorem zf4 {w : World} {g : Nat} {t : TypeId} {c : Array Value} (h : w.heap[g]? = some (.cells c t (0,0))) : w.frozen? ⟨g,0,none⟩ = false∧w.frozen? ⟨g,1,none⟩ = false∧w.frozen? ⟨g,2,none⟩ = false∧w.frozen? ⟨g,3,none⟩ = false:=⟨zap h 0,zap h 1,zap h 2,zap h 3⟩
theorem zf5 {w : World} {g : Nat} {t : TypeId} {c : Array Value} (h : w.heap[g]? = some (.cells c t (0,0))) : w.frozen? ⟨g,0,none⟩ = false∧w.frozen? ⟨g,1,none⟩ = false∧w.frozen? ⟨g,2,none⟩ = false∧w.frozen? ⟨g,3,none⟩ = false∧w.frozen? ⟨g,4,none⟩ = false:=⟨zap h 0,zap h 1,zap h 2,zap h 3,zap h 4⟩
theorem yp1 {p q : Prop} (x : Aside0 q) (h : q→p:=by intro z_;(with_reducible repeat (first | apply Kd.R_alloc | apply Kd.R_drewN | apply Kd.R_drew));exact z_) : p:=h x.out
theorem yp2 {p q : Prop} (x : Aside0 q) (h : q→p:=by intro z_;(with_reducible repeat (first | refine blk_drewN ?_ _ | refine zdg ?_ | refine zdh ?_ _));exact z_) : p:=h x.out
theorem yp3 {p q : Prop} (x : Aside0 q) (h : q→p:=by intro z_;(with_reducible repeat (first | apply Kd.N_alloc | apply Kd.N_drewN | apply Kd.N_drew));exact z_) : p:=h x.out
theorem yp4 {p q : Prop} (x : Aside0 q) (h : q→p:=by intro z_;(with_reducible repeat (first | refine blk_drewN ?_ _ | refine zdg ?_ | refine zdh ?_ _));refine zaz (cs:=#[.int .i64 t199,.int .i64 t200,.int .u64 t201,.string t202,.slice none 0 0]) ?_ 4 _ rfl;(with_reducible repeat (first | refine blk_drewN ?_ _ | refine zdg ?_ | refine zdh ?_ _));refine zaz (cs:=#[.int .i64 t199,.int .i64 t200,.int .u64 t201,.string (⟨#[]⟩ : ByteArray),.slice none 0 0]) ?_ 3 _ rfl;(with_reducible repeat (first | refine blk_drewN ?_ _ | refine zdg ?_ | refine zdh ?_ _));refine zaz (cs:=#[.int .i64 t199,.int .i64 t200,.int .u64 0,.string (⟨#[]⟩ : ByteArray),.slice none 0 0]) ?_ 2 _ rfl;(with_reducible repeat (first | refine blk_drewN ?_ _ | refine zdg ?_ | refine zdh ?_ _));refine zaz (cs:=#[.int .i64 t199,.int .i64 0,.int .u64 0,.string (⟨#[]⟩ : ByteArray),.slice none 0 0]) ?_ 1 _ rfl;(with_reducible repeat (first | refine blk_drewN ?_ _ | refine zdg ?_ | refine zdh ?_ _));refine zaz (cs:=#[.int .i64 0,.int .i64 0,.int .u64 0,.string (⟨#[]⟩ : ByteArray),.slice none 0 0]) ?_ 0 _ rfl;(with_reducible repeat (first | refine blk_drewN ?_ _ | refine zdg ?_ | refine zdh ?_ _));exact z_) : p:=h x.out
theorem zA0 {p : Prop} (h : p) : Aside0 p:=⟨h⟩
theorem yzA {P : Program} {ops : Array Oper} {Q : Exit→Act→World→Prop} {md : Region.Mode} {S : World→Prop} {ds : List Nat} {i : Nat} {N : Option Tmp} {oi : Oper} {v : Value} {fuel : Nat} {l : Array Bool} {a : Act} {w : World} {a' : Act} (l' : Array Bool) (hc : PrintLast.anyB md ops l l' i = true) (h : PrintLast.wpAnyLast P md ops Q S ds fuel l' a' w) (hi : ops[i]? = some oi:=by exact rfl) (hN : oi.dst = N:=by exact rfl) (hy : Yields P ops oi v a:=by exact Or.inl ⟨by rfl,by intro w';go_simp;with_reducible rfl⟩) (hQ : ∀ c a w,Q (.panic c) (a.put oi.dst v) w→Q (.panic c) a w:=by exact fun _ _ _ h => h)  (ha : a.put N v = a':=by simp only [Act.put,za1,za2,za3,zc7,zdc];rfl) : PrintLast.wpAnyLast P md ops Q S ds (fuel + 1) l a w:=PrintLast.pure_ l' hi hN hc hQ hy ha h
theorem yzB {P : Program} {ops : Array Oper} {Q : Exit→Act→World→Prop} {md : Region.Mode} {S : World→Prop} {ds : List Nat} {i : Nat} {N : Option Tmp} {oi : Oper} {fuel : Nat} {l : Array Bool} {a : Act} {w : World} {a' : Act} (l' : Array Bool) (hc : PrintLast.anyB md ops l l' i = true) (h : PrintLast.wpAnyLast P md ops Q S ds fuel l' a' w) (hi : ops[i]? = some oi:=by exact rfl) (hN : oi.dst = N:=by exact rfl) (hy : Yields P ops oi undef a:=by exact Or.inr ⟨by rfl,rfl⟩) (hQ : ∀ c a w,Q (.panic c) (a.put oi.dst undef) w→Q (.panic c) a w:=by exact fun _ _ _ h => h)  (ha : a.put N undef = a':=by simp only [Act.put,za1,za2,za3,zc7,zdc];rfl) : PrintLast.wpAnyLast P md ops Q S ds (fuel + 1) l a w:=PrintLast.pure_ l' hi hN hc hQ hy ha h

theorem yb1 {p q : Prop} (h : p) (f : p→q:=by intro z_;(with_reducible repeat (first | refine blk_drewN ?_ _ | refine zdg ?_ | refine zdh ?_ _));exact z_) : q:=f h
theorem yb2 {p q : Prop} (h : p) (f : p→q:=by intro z_;(with_reducible repeat (first | apply Kd.R_alloc | apply Kd.R_drewN | apply Kd.R_drew));exact z_) : q:=f h
theorem yb3 {p q : Prop} (h : p) (f : p→q:=by intro z_;(with_reducible repeat (first | apply Kd.N_alloc | apply Kd.N_drewN | apply Kd.N_drew));exact z_) : q:=f h
theorem yr {α : Type} {a b : α} {P Q : Prop} (e : a = b) (H : P) (h : a = b→P→Q:=by intro e_ H;first | (rw [e_];with_reducible exact H) | (have H2_:=(Option.bind_some _ _).symm.trans H;rw [e_];with_reducible exact H2_) | (have H2_:=(Option.bind_some _ _).symm.trans H;with_reducible exact H2_) | with_reducible exact H | (rw [e_];exact H) | exact H) : Q:=h e H
theorem yq1 {P : Prop} (h : P:=by repeat (first | (with_reducible first | exact HK.out | apply zaf.set_ | apply zc6 | apply zc8 | apply zc9) | exact HK.out)) : P:=h
theorem yq2 {P : Prop} (h : P:=by repeat (first | (with_reducible first | exact HI0.out | apply zay.alloc | apply zay.drewN | apply zay.drew | apply zay.set_1 | apply zay.set_2) | exact HI0.out)) : P:=h
theorem yq3 {P : Prop} (h : P:=by first | (with_reducible assumption) | assumption) : P:=h
theorem yq4 {P : Prop} (h : P:=by first | (rw [zb8];exact Kd.foot_ne HR2.out (by omega) (by decide)) | (show (Addr.add _ _).block≠_;rw [zb8];exact Kd.foot_ne HR2.out (by omega) (by decide)) | exact Kd.foot_ne HR2.out (by omega) (by decide) | (dsimp only;exact Kd.foot_ne HR2.out (by omega) (by decide))) : P:=h
theorem yq5 {P : Prop} (h : P:=by repeat (first | (with_reducible first | exact HB.out | apply zbp | apply za5 | apply zbr | refine zba ?_ (zay.ge HI0.out)) | exact HB.out)) : P:=h
theorem yq6 {P : Prop} (h : P:=by first | rfl | (simp;done) | (simp [*];done)) : P:=h
theorem yq7 {P : Prop} (h : P:=by first | rfl | (simp [zdp,zdo] <;> rfl) | (simp [*,zdp,zdo] <;> rfl)) : P:=h
theorem yq8 {P : Prop} (h : P:=by repeat (first | (with_reducible first | exact HI0.out | apply zax.alloc | apply zax.drewN | apply zax.drew | apply zax.set_6 | apply zax.set_7 | apply zax.set_8) | exact HI0.out)) : P:=h
theorem yq9 {P : Prop} (h : P:=by repeat (first | (with_reducible first | exact HI0.out | apply zay.alloc | apply zay.drewN | apply zay.drew | apply zay.set_1 | apply zay.set_2 | refine zay.far ?_ NB0_342.out _ | refine zay.far ?_ NB0_343.out _) | exact HI0.out)) : P:=h
theorem yq10 {P : Prop} (h : P:=by repeat (first | (with_reducible first | exact HI0.out | apply zay.alloc | apply zay.drewN | apply zay.drew | apply zay.set_1 | apply zay.set_2 | refine zay.far ?_ NB0_342.out _ | refine zay.far ?_ NB0_343.out _ | refine zay.far ?_ NB0_366.out _) | exact HI0.out)) : P:=h
theorem yq11 {P : Prop} (h : P:=by repeat' first | with_reducible apply ih0 | with_reducible apply LeO.refl | with_reducible apply LeO.none | (with_reducible refine LeO.ite ?_ ?_) | (with_reducible refine LeO.bind ?_ (fun _ => ?_))) : P:=h
theorem yq12 {P : Prop} (h : P:=by rw [if_neg (show ¬ (false = true) by decide)] at H;exact H) : P:=h
theorem yq13 {P : Prop} (h : P:=by repeat (first | (with_reducible first | exact HI0.out | apply zay.alloc | apply zay.drewN | apply zay.drew | apply zay.set_1 | apply zay.set_2 | refine zay.far ?_ NB0_114.out _) | exact HI0.out)) : P:=h
theorem yq14 {P : Prop} (h : P:=by repeat (first | (with_reducible first | exact HI0.out | apply zax.alloc | apply zax.drewN | apply zax.drew | apply zax.set_6 | apply zax.set_7 | apply zax.set_8 | refine zax.far ?_ NB0_517.out _ | refine zax.far ?_ NB0_518.out _) | exact HI0.out)) : P:=h
theorem yq15 {P : Prop} (h : P:=by repeat (first | (with_reducible first | exact HK.out | apply zaf.set_ | apply zc6 | apply zc8 | apply zc9 | refine zct ?_ GW114.out _) | exact HK.out)) : P:=h
theorem yq16 {P : Prop} (h : P:=by repeat (first | (with_reducible first | exact HK.out | apply zaf.set_ | apply zc6 | apply zc8 | apply zc9 | refine zct ?_ GW342.out _ | refine zct ?_ GW343.out _) | exact HK.out)) : P:=h
theorem yq17 {P : Prop} (h : P:=by repeat (first | exact zdl.refl _ | apply zdl.step)) : P:=h
theorem yq18 {P : Prop} (h : P:=by repeat (first | (with_reducible first | exact HK.out | apply zaf.set_ | apply zc6 | apply zc8 | apply zc9 | refine zct ?_ GW517.out _ | refine zct ?_ GW518.out _) | exact HK.out)) : P:=h
theorem yq19 {P : Prop} (h : P:=by repeat (first | (with_reducible first | exact HB.out | apply zbp | apply za5 | apply zbr | refine zba ?_ (zay.ge HI0.out) | refine zba ?_ GE114.out) | exact HB.out)) : P:=h
theorem yq20 {P : Prop} (h : P:=by repeat (first | (with_reducible first | exact HB.out | apply zbp | apply za5 | apply zbr | refine zba ?_ (zay.ge HI0.out) | refine zba ?_ GE342.out | refine zba ?_ GE343.out) | exact HB.out)) : P:=h
theorem yq21 {P : Prop} (h : P:=by repeat (first | (with_reducible first | exact HB.out | apply zbp | apply za5 | apply zbr | refine zba ?_ (zax.ge HI0.out)) | exact HB.out)) : P:=h
theorem yq22 {P : Prop} (h : P:=by repeat (first | (with_reducible first | exact HK.out | apply zaf.set_ | apply zc6 | apply zc8 | apply zc9 | refine zct ?_ GW342.out _ | refine zct ?_ GW343.out _ | refine zct ?_ GW366.out _) | exact HK.out)) : P:=h
theorem yq23 {P : Prop} (h : P:=by repeat (first | (with_reducible first | exact HB.out | apply zbp | apply za5 | apply zbr | refine zba ?_ GE427.out) | exact HB.out)) : P:=h
theorem yq24 {P : Prop} (h : P:=by repeat (first | (with_reducible first | exact HI0.out | apply zax.alloc | apply zax.drewN | apply zax.drew | apply zax.set_6 | apply zax.set_7 | apply zax.set_8 | refine zax.far ?_ NB0_490.out _) | exact HI0.out)) : P:=h
theorem yq25 {P : Prop} (h : P:=by repeat' first | with_reducible apply ih0 | with_reducible apply ih1 | with_reducible apply ih2 | with_reducible apply ih3 | with_reducible apply LeO.refl | with_reducible apply LeO.none | (with_reducible refine LeO.ite ?_ ?_) | (with_reducible refine LeO.bind ?_ (fun _ => ?_))) : P:=h
theorem yq26 {P : Prop} (h : P:=by repeat (first | (with_reducible first | exact HB.out | apply zbp | apply za5 | apply zbr | refine zba ?_ GE422.out) | exact HB.out)) : P:=h
theorem yq27 {P : Prop} (h : P:=by repeat (first | (with_reducible first | exact HB.out | apply zbp | apply za5 | apply zbr | refine zba ?_ (zay.ge HI0.out) | refine zba ?_ GE342.out | refine zba ?_ GE343.out | refine zba ?_ GE366.out) | exact HB.out)) : P:=h
theorem yq28 {P : Prop} (h : P:=by repeat (first | (with_reducible first | exact HI0.out | apply zay.alloc | apply zay.drewN | apply zay.drew | apply zay.set_1 | apply zay.set_2 | refine zay.far ?_ NB0_153.out _ | refine zay.far ?_ NB0_172.out _) | exact HI0.out)) : P:=h
theorem yq29 {P : Prop} (h : P:=by repeat (first | (with_reducible first | exact HK.out | apply zaf.set_ | apply zc6 | apply zc8 | apply zc9 | refine zct ?_ GW153.out _ | refine zct ?_ GW172.out _) | exact HK.out)) : P:=h
theorem yq30 {P : Prop} (h : P:=by rw [hg];exact (zb7 (zs0 HB))) : P:=h
theorem yq31 {P : Prop} (h : P:=by repeat (first | (with_reducible first | exact HK.out | apply zaf.set_ | apply zc6 | apply zc8 | apply zc9 | refine zct ?_ GW153.out _ | refine zct ?_ GW172.out _ | refine zct ?_ GW193.out _) | exact HK.out)) : P:=h
theorem yq32 {P : Prop} (h : P:=by repeat (first | (with_reducible first | exact HI0.out | apply zay.alloc | apply zay.drewN | apply zay.drew | apply zay.set_1 | apply zay.set_2 | refine zay.far ?_ NB0_198.out _ | refine zay.far ?_ NB0_208.out _) | exact HI0.out)) : P:=h
theorem yq33 {P : Prop} (h : P:=by repeat (first | (with_reducible first | exact HK.out | apply zaf.set_ | apply zc6 | apply zc8 | apply zc9 | refine zct ?_ GW198.out _ | refine zct ?_ GW208.out _) | exact HK.out)) : P:=h
theorem yq34 {P : Prop} (h : P:=by repeat (first | (with_reducible first | exact HK.out | apply zaf.set_ | apply zc6 | apply zc8 | apply zc9 | refine zct ?_ GW490.out _) | exact HK.out)) : P:=h
theorem yq35 {P : Prop} (h : P:=by repeat (first | (with_reducible first | exact HI0.out | apply zay.alloc | apply zay.drewN | apply zay.drew | apply zay.set_1 | apply zay.set_2 | refine zay.far ?_ NB0_153.out _ | refine zay.far ?_ NB0_172.out _ | refine zay.far ?_ NB0_193.out _) | exact HI0.out)) : P:=h
theorem yq36 {P : Prop} (h : P:=by rw [if_pos rfl] at H;exact H) : P:=h
theorem yq37 {P : Prop} (h : P:=by repeat' first | with_reducible apply ih0 | with_reducible apply ih1 | with_reducible apply LeO.refl | with_reducible apply LeO.none | (with_reducible refine LeO.ite ?_ ?_) | (with_reducible refine LeO.bind ?_ (fun _ => ?_))) : P:=h
theorem yq38 {P : Prop} (h : P:=by repeat (first | (with_reducible first | exact HB.out | apply zbp | apply za5 | apply zbr) | exact HB.out)) : P:=h
theorem yq39 {P : Prop} (h : P:=by repeat (first | (with_reducible first | exact HB.out | apply zbp | apply za5 | apply zbr | refine zba ?_ (zay.ge HI0.out) | refine zba ?_ GE153.out | refine zba ?_ GE172.out) | exact HB.out)) : P:=h
theorem yq40 {P : Prop} (h : P:=by repeat (first | (with_reducible first | exact HI0.out | apply zax.alloc | apply zax.drewN | apply zax.drew | apply zax.set_6 | apply zax.set_7 | apply zax.set_8 | refine zax.far ?_ NB0_490.out _ | refine zax.far ?_ NB0_491.out _) | exact HI0.out)) : P:=h
theorem yq41 {P : Prop} (h : P:=by repeat' first | with_reducible apply ih0 | with_reducible apply ih1 | with_reducible apply ih2 | with_reducible apply ih3 | with_reducible apply ih4 | with_reducible apply ih5 | with_reducible apply ih6 | with_reducible apply ihm45 | apply ihm45 | with_reducible apply LeO.refl | with_reducible apply LeO.none | (with_reducible refine LeO.ite ?_ ?_) | (with_reducible refine LeO.bind ?_ (fun _ => ?_))) : P:=h
theorem yq42 {P : Prop} (h : P:=by repeat (first | (with_reducible first | exact HK.out | apply zaf.set_ | apply zc6 | apply zc8 | apply zc9 | refine zct ?_ GW558.out _) | exact HK.out)) : P:=h
theorem yq43 {P : Prop} (h : P:=by repeat (first | (with_reducible first | exact HK.out | apply zaf.set_ | apply zc6 | apply zc8 | apply zc9 | refine zct ?_ GW153.out _) | exact HK.out)) : P:=h
theorem yq44 {P : Prop} (h : P:=by first | exact Kd.R_nil _ _ _ _ _ | exact Kd.N_nil _ _ _ _ _ | exact Kd.V_nil _ _ _ _ _ | exact Kd.Q_nil _ _ _ _ _ | exact Kd.S_nil _ _ _ _ _) : P:=h
theorem yq45 {P : Prop} (h : P:=by repeat (first | (with_reducible first | exact HK.out | apply zaf.set_ | apply zc6 | apply zc8 | apply zc9 | refine zct ?_ GW198.out _ | refine zct ?_ GW208.out _ | refine zct ?_ GW223.out _) | exact HK.out)) : P:=h
theorem yq46 {P : Prop} (h : P:=by repeat (first | (with_reducible first | exact HB.out | apply zbp | apply za5 | apply zbr | refine zba ?_ GE762.out) | exact HB.out)) : P:=h
theorem yq47 {P : Prop} (h : P:=by repeat (first | (with_reducible first | exact HI0.out | apply zay.alloc | apply zay.drewN | apply zay.drew | apply zay.set_1 | apply zay.set_2 | refine zay.far ?_ NB0_153.out _) | exact HI0.out)) : P:=h
theorem yq48 {P : Prop} (h : P:=by repeat' first | with_reducible apply ih0 | with_reducible apply ih1 | with_reducible apply ih2 | with_reducible apply ih3 | with_reducible apply ih4 | with_reducible apply ih5 | with_reducible apply ih6 | with_reducible apply LeO.refl | with_reducible apply LeO.none | (with_reducible refine LeO.ite ?_ ?_) | (with_reducible refine LeO.bind ?_ (fun _ => ?_))) : P:=h
theorem yq49 {P : Prop} (h : P:=by repeat (first | (with_reducible first | exact HB.out | apply zbp | apply za5 | apply zbr | refine zba ?_ (zax.ge HI0.out) | refine zba ?_ GE490.out | refine zba ?_ GE491.out) | exact HB.out)) : P:=h
theorem yq50 {P : Prop} (h : P:=by repeat (first | (with_reducible first | exact HB.out | apply zbp | apply za5 | apply zbr | refine zba ?_ (zay.ge HI0.out) | refine zba ?_ GE198.out | refine zba ?_ GE208.out) | exact HB.out)) : P:=h
theorem yq51 {P : Prop} (h : P:=by repeat (first | (with_reducible first | exact HI0.out | apply zay.alloc | apply zay.drewN | apply zay.drew | apply zay.set_1 | apply zay.set_2 | refine zay.far ?_ NB0_198.out _ | refine zay.far ?_ NB0_208.out _ | refine zay.far ?_ NB0_223.out _) | exact HI0.out)) : P:=h
theorem yq52 {P : Prop} (h : P:=by repeat (first | (with_reducible first | exact HB.out | apply zbp | apply za5 | apply zbr | refine zba ?_ (zay.ge HI0.out) | refine zba ?_ GE153.out | refine zba ?_ GE172.out | refine zba ?_ GE193.out) | exact HB.out)) : P:=h
theorem yq53 {P : Prop} (h : P:=by repeat (first | (with_reducible first | exact HK.out | apply zaf.set_ | apply zc6 | apply zc8 | apply zc9 | refine zct ?_ GW490.out _ | refine zct ?_ GW491.out _) | exact HK.out)) : P:=h
theorem yq54 {P : Prop} (h : P:=by repeat' first | with_reducible apply ih0 | with_reducible apply ih1 | with_reducible apply ih2 | with_reducible apply LeO.refl | with_reducible apply LeO.none | (with_reducible refine LeO.ite ?_ ?_) | (with_reducible refine LeO.bind ?_ (fun _ => ?_))) : P:=h
theorem yq55 {P : Prop} (h : P:=by repeat (first | (with_reducible first | exact HK.out | apply zaf.set_ | apply zc6 | apply zc8 | apply zc9 | refine zct ?_ GW315.out _) | exact HK.out)) : P:=h
theorem yq56 {P : Prop} (h : P:=by repeat (first | (with_reducible first | exact HI0.out | apply zay.alloc | apply zay.drewN | apply zay.drew | apply zay.set_1 | apply zay.set_2 | refine zay.far ?_ NB0_315.out _) | exact HI0.out)) : P:=h
theorem yq57 {P : Prop} (h : P:=by repeat (first | (with_reducible first | exact HB.out | apply zbp | apply za5 | apply zbr | refine zba ?_ (zax.ge HI0.out) | refine zba ?_ GE517.out | refine zba ?_ GE518.out) | exact HB.out)) : P:=h
theorem yq58 {P : Prop} (h : P:=by repeat (first | (with_reducible first | exact HI0.out | apply zax.alloc | apply zax.drewN | apply zax.drew | apply zax.set_6 | apply zax.set_7 | apply zax.set_8 | refine zax.far ?_ NB0_558.out _) | exact HI0.out)) : P:=h
theorem yq59 {P : Prop} (h : P:=by repeat (first | (with_reducible first | exact HI0.out | apply zax.alloc | apply zax.drewN | apply zax.drew | apply zax.set_6 | apply zax.set_7 | apply zax.set_8 | refine zax.far ?_ NB0_517.out _) | exact HI0.out)) : P:=h
theorem yq60 {P : Prop} (h : P:=by repeat (first | (with_reducible first | exact HK.out | apply zaf.set_ | apply zc6 | apply zc8 | apply zc9 | refine zct ?_ GW198.out _ | refine zct ?_ GW208.out _ | refine zct ?_ GW223.out _ | refine zct ?_ GW235.out _) | exact HK.out)) : P:=h
theorem yq61 {P : Prop} (h : P:=by repeat (first | exact (Kd.C_below HR0_4.out HB.out) | (with_reducible refine Kd.C_alloc ?_ _) | (with_reducible refine Kd.C_drewN ?_ _) | (with_reducible refine Kd.C_drew ?_))) : P:=h
theorem yq62 {P : Prop} (h : P:=by repeat (first | (with_reducible first | exact HB.out | apply zbp | apply za5 | apply zbr | refine zba ?_ (zax.ge HI0.out) | refine zba ?_ GE558.out) | exact HB.out)) : P:=h
theorem yq63 {P : Prop} (h : P:=by first | exact Nat.ne_of_lt (Nat.lt_of_lt_of_le hlt516_3 GW491.out) | (rw [zb8];exact Nat.ne_of_lt (Nat.lt_of_lt_of_le hlt516_3 GW491.out)) | (show (Addr.add _ _).block≠_;rw [zb8];exact Nat.ne_of_lt (Nat.lt_of_lt_of_le hlt516_3 GW491.out)) | (dsimp only;exact Nat.ne_of_lt (Nat.lt_of_lt_of_le hlt516_3 GW491.out))) : P:=h
theorem yq64 {P : Prop} (h : P:=by first | exact Nat.ne_of_lt (Nat.lt_of_lt_of_le hlt516_2 GW491.out) | (rw [zb8];exact Nat.ne_of_lt (Nat.lt_of_lt_of_le hlt516_2 GW491.out)) | (show (Addr.add _ _).block≠_;rw [zb8];exact Nat.ne_of_lt (Nat.lt_of_lt_of_le hlt516_2 GW491.out)) | (dsimp only;exact Nat.ne_of_lt (Nat.lt_of_lt_of_le hlt516_2 GW491.out))) : P:=h
theorem yq65 {P : Prop} (h : P:=by first | exact Nat.ne_of_lt (Nat.lt_of_lt_of_le hlt516_1 GW491.out) | (rw [zb8];exact Nat.ne_of_lt (Nat.lt_of_lt_of_le hlt516_1 GW491.out)) | (show (Addr.add _ _).block≠_;rw [zb8];exact Nat.ne_of_lt (Nat.lt_of_lt_of_le hlt516_1 GW491.out)) | (dsimp only;exact Nat.ne_of_lt (Nat.lt_of_lt_of_le hlt516_1 GW491.out))) : P:=h
theorem yq66 {P : Prop} (h : P:=by first | exact Nat.ne_of_lt (Nat.lt_of_lt_of_le hlt516_0 GW491.out) | (rw [zb8];exact Nat.ne_of_lt (Nat.lt_of_lt_of_le hlt516_0 GW491.out)) | (show (Addr.add _ _).block≠_;rw [zb8];exact Nat.ne_of_lt (Nat.lt_of_lt_of_le hlt516_0 GW491.out)) | (dsimp only;exact Nat.ne_of_lt (Nat.lt_of_lt_of_le hlt516_0 GW491.out))) : P:=h
theorem yq67 {P : Prop} (h : P:=by first | exact Nat.ne_of_lt (Nat.lt_of_lt_of_le hlt515_3 GW491.out) | (rw [zb8];exact Nat.ne_of_lt (Nat.lt_of_lt_of_le hlt515_3 GW491.out)) | (show (Addr.add _ _).block≠_;rw [zb8];exact Nat.ne_of_lt (Nat.lt_of_lt_of_le hlt515_3 GW491.out)) | (dsimp only;exact Nat.ne_of_lt (Nat.lt_of_lt_of_le hlt515_3 GW491.out))) : P:=h
theorem yq68 {P : Prop} (h : P:=by first | exact Nat.ne_of_lt (Nat.lt_of_lt_of_le hlt515_2 GW491.out) | (rw [zb8];exact Nat.ne_of_lt (Nat.lt_of_lt_of_le hlt515_2 GW491.out)) | (show (Addr.add _ _).block≠_;rw [zb8];exact Nat.ne_of_lt (Nat.lt_of_lt_of_le hlt515_2 GW491.out)) | (dsimp only;exact Nat.ne_of_lt (Nat.lt_of_lt_of_le hlt515_2 GW491.out))) : P:=h
theorem yq69 {P : Prop} (h : P:=by first | exact Nat.ne_of_lt (Nat.lt_of_lt_of_le hlt515_1 GW491.out) | (rw [zb8];exact Nat.ne_of_lt (Nat.lt_of_lt_of_le hlt515_1 GW491.out)) | (show (Addr.add _ _).block≠_;rw [zb8];exact Nat.ne_of_lt (Nat.lt_of_lt_of_le hlt515_1 GW491.out)) | (dsimp only;exact Nat.ne_of_lt (Nat.lt_of_lt_of_le hlt515_1 GW491.out))) : P:=h
theorem yq70 {P : Prop} (h : P:=by first | exact Nat.ne_of_lt (Nat.lt_of_lt_of_le hlt515_0 GW491.out) | (rw [zb8];exact Nat.ne_of_lt (Nat.lt_of_lt_of_le hlt515_0 GW491.out)) | (show (Addr.add _ _).block≠_;rw [zb8];exact Nat.ne_of_lt (Nat.lt_of_lt_of_le hlt515_0 GW491.out)) | (dsimp only;exact Nat.ne_of_lt (Nat.lt_of_lt_of_le hlt515_0 GW491.out))) : P:=h
theorem yq71 {P : Prop} (h : P:=by first | exact Nat.ne_of_lt (Nat.lt_of_lt_of_le hlt514_3 GW491.out) | (rw [zb8];exact Nat.ne_of_lt (Nat.lt_of_lt_of_le hlt514_3 GW491.out)) | (show (Addr.add _ _).block≠_;rw [zb8];exact Nat.ne_of_lt (Nat.lt_of_lt_of_le hlt514_3 GW491.out)) | (dsimp only;exact Nat.ne_of_lt (Nat.lt_of_lt_of_le hlt514_3 GW491.out))) : P:=h
theorem yq72 {P : Prop} (h : P:=by first | exact Nat.ne_of_lt (Nat.lt_of_lt_of_le hlt514_2 GW491.out) | (rw [zb8];exact Nat.ne_of_lt (Nat.lt_of_lt_of_le hlt514_2 GW491.out)) | (show (Addr.add _ _).block≠_;rw [zb8];exact Nat.ne_of_lt (Nat.lt_of_lt_of_le hlt514_2 GW491.out)) | (dsimp only;exact Nat.ne_of_lt (Nat.lt_of_lt_of_le hlt514_2 GW491.out))) : P:=h
theorem yq73 {P : Prop} (h : P:=by first | exact Nat.ne_of_lt (Nat.lt_of_lt_of_le hlt514_1 GW491.out) | (rw [zb8];exact Nat.ne_of_lt (Nat.lt_of_lt_of_le hlt514_1 GW491.out)) | (show (Addr.add _ _).block≠_;rw [zb8];exact Nat.ne_of_lt (Nat.lt_of_lt_of_le hlt514_1 GW491.out)) | (dsimp only;exact Nat.ne_of_lt (Nat.lt_of_lt_of_le hlt514_1 GW491.out))) : P:=h
theorem yq74 {P : Prop} (h : P:=by first | exact Nat.ne_of_lt (Nat.lt_of_lt_of_le hlt514_0 GW491.out) | (rw [zb8];exact Nat.ne_of_lt (Nat.lt_of_lt_of_le hlt514_0 GW491.out)) | (show (Addr.add _ _).block≠_;rw [zb8];exact Nat.ne_of_lt (Nat.lt_of_lt_of_le hlt514_0 GW491.out)) | (dsimp only;exact Nat.ne_of_lt (Nat.lt_of_lt_of_le hlt514_0 GW491.out))) : P:=h
theorem yq75 {P : Prop} (h : P:=by first | exact Nat.ne_of_lt (Nat.lt_of_lt_of_le hlt505_3 GW491.out) | (rw [zb8];exact Nat.ne_of_lt (Nat.lt_of_lt_of_le hlt505_3 GW491.out)) | (show (Addr.add _ _).block≠_;rw [zb8];exact Nat.ne_of_lt (Nat.lt_of_lt_of_le hlt505_3 GW491.out)) | (dsimp only;exact Nat.ne_of_lt (Nat.lt_of_lt_of_le hlt505_3 GW491.out))) : P:=h
theorem yq76 {P : Prop} (h : P:=by first | exact Nat.ne_of_lt (Nat.lt_of_lt_of_le hlt505_2 GW491.out) | (rw [zb8];exact Nat.ne_of_lt (Nat.lt_of_lt_of_le hlt505_2 GW491.out)) | (show (Addr.add _ _).block≠_;rw [zb8];exact Nat.ne_of_lt (Nat.lt_of_lt_of_le hlt505_2 GW491.out)) | (dsimp only;exact Nat.ne_of_lt (Nat.lt_of_lt_of_le hlt505_2 GW491.out))) : P:=h
theorem yq77 {P : Prop} (h : P:=by first | exact Nat.ne_of_lt (Nat.lt_of_lt_of_le hlt505_1 GW491.out) | (rw [zb8];exact Nat.ne_of_lt (Nat.lt_of_lt_of_le hlt505_1 GW491.out)) | (show (Addr.add _ _).block≠_;rw [zb8];exact Nat.ne_of_lt (Nat.lt_of_lt_of_le hlt505_1 GW491.out)) | (dsimp only;exact Nat.ne_of_lt (Nat.lt_of_lt_of_le hlt505_1 GW491.out))) : P:=h
theorem yq78 {P : Prop} (h : P:=by first | exact Nat.ne_of_lt (Nat.lt_of_lt_of_le hlt505_0 GW491.out) | (rw [zb8];exact Nat.ne_of_lt (Nat.lt_of_lt_of_le hlt505_0 GW491.out)) | (show (Addr.add _ _).block≠_;rw [zb8];exact Nat.ne_of_lt (Nat.lt_of_lt_of_le hlt505_0 GW491.out)) | (dsimp only;exact Nat.ne_of_lt (Nat.lt_of_lt_of_le hlt505_0 GW491.out))) : P:=h
theorem yq79 {P : Prop} (h : P:=by first | exact Nat.ne_of_lt (Nat.lt_of_lt_of_le hlt504_3 GW491.out) | (rw [zb8];exact Nat.ne_of_lt (Nat.lt_of_lt_of_le hlt504_3 GW491.out)) | (show (Addr.add _ _).block≠_;rw [zb8];exact Nat.ne_of_lt (Nat.lt_of_lt_of_le hlt504_3 GW491.out)) | (dsimp only;exact Nat.ne_of_lt (Nat.lt_of_lt_of_le hlt504_3 GW491.out))) : P:=h
theorem yq80 {P : Prop} (h : P:=by first | exact Nat.ne_of_lt (Nat.lt_of_lt_of_le hlt504_2 GW491.out) | (rw [zb8];exact Nat.ne_of_lt (Nat.lt_of_lt_of_le hlt504_2 GW491.out)) | (show (Addr.add _ _).block≠_;rw [zb8];exact Nat.ne_of_lt (Nat.lt_of_lt_of_le hlt504_2 GW491.out)) | (dsimp only;exact Nat.ne_of_lt (Nat.lt_of_lt_of_le hlt504_2 GW491.out))) : P:=h
theorem yq81 {P : Prop} (h : P:=by first | exact Nat.ne_of_lt (Nat.lt_of_lt_of_le hlt504_1 GW491.out) | (rw [zb8];exact Nat.ne_of_lt (Nat.lt_of_lt_of_le hlt504_1 GW491.out)) | (show (Addr.add _ _).block≠_;rw [zb8];exact Nat.ne_of_lt (Nat.lt_of_lt_of_le hlt504_1 GW491.out)) | (dsimp only;exact Nat.ne_of_lt (Nat.lt_of_lt_of_le hlt504_1 GW491.out))) : P:=h
theorem yq82 {P : Prop} (h : P:=by first | exact Nat.ne_of_lt (Nat.lt_of_lt_of_le hlt504_0 GW491.out) | (rw [zb8];exact Nat.ne_of_lt (Nat.lt_of_lt_of_le hlt504_0 GW491.out)) | (show (Addr.add _ _).block≠_;rw [zb8];exact Nat.ne_of_lt (Nat.lt_of_lt_of_le hlt504_0 GW491.out)) | (dsimp only;exact Nat.ne_of_lt (Nat.lt_of_lt_of_le hlt504_0 GW491.out))) : P:=h
theorem yq83 {P : Prop} (h : P:=by repeat (first | (with_reducible first | exact HB.out | apply zbp | apply za5 | apply zbr | refine zba ?_ GE575.out) | exact HB.out)) : P:=h
theorem yq84 {P : Prop} (h : P:=by repeat (first | (with_reducible first | exact HI0.out | apply zay.alloc | apply zay.drewN | apply zay.drew | apply zay.set_1 | apply zay.set_2 | refine zay.far ?_ NB0_198.out _ | refine zay.far ?_ NB0_208.out _ | refine zay.far ?_ NB0_223.out _ | refine zay.far ?_ NB0_235.out _) | exact HI0.out)) : P:=h
theorem yq85 {P : Prop} (h : P:=by repeat (first | (with_reducible first | exact HK.out | apply zaf.set_ | apply zc6 | apply zc8 | apply zc9 | refine zct ?_ GW517.out _) | exact HK.out)) : P:=h
theorem yq86 {P : Prop} (h : P:=by repeat (first | (with_reducible first | exact HK.out | apply zaf.set_ | apply zc6 | apply zc8 | apply zc9 | refine zct ?_ GW198.out _) | exact HK.out)) : P:=h
theorem yq87 {P : Prop} (h : P:=by repeat (first | (with_reducible first | exact HK.out | apply zaf.set_ | apply zc6 | apply zc8 | apply zc9 | refine zct ?_ GW315.out _ | refine zct ?_ GW330.out _) | exact HK.out)) : P:=h
theorem yq88 {P : Prop} (h : P:=by first | exact zs1 HB GE653 | exact zs0 HB) : P:=h
theorem yq89 {P : Prop} (h : P:=by repeat (first | (with_reducible first | exact HI0.out | apply zay.alloc | apply zay.drewN | apply zay.drew | apply zay.set_1 | apply zay.set_2 | refine zay.far ?_ NB0_198.out _) | exact HI0.out)) : P:=h
theorem yq90 {P : Prop} (h : P:=by repeat (first | (with_reducible first | exact HI0.out | apply zay.alloc | apply zay.drewN | apply zay.drew | apply zay.set_1 | apply zay.set_2 | refine zay.far ?_ NB0_315.out _ | refine zay.far ?_ NB0_330.out _) | exact HI0.out)) : P:=h
theorem yq91 {P : Prop} (h : P:=by rw [hg];exact Nat.ne_of_lt (zcs (g:=gb483) (o:=.cells #[.int .i64 1,.int .i64 a1_1,.bool false,.int .u64 a1_3] 155 (0,0)) (zb BK483))) : P:=h
theorem yq92 {P : Prop} (h : P:=by rw [hg];exact Nat.ne_of_gt (zcs (g:=gb483) (o:=.cells #[.int .i64 1,.int .i64 a1_1,.bool false,.int .u64 a1_3] 155 (0,0)) (zb BK483))) : P:=h
theorem yq93 {P : Prop} (h : P:=by first | exact zs1 HB GE762 | exact zs0 HB) : P:=h
theorem yq94 {P : Prop} (h : P:=by rw [← hq_];exact (by first | exact zs1 HB GE397 | exact zs0 HB)) : P:=h
theorem yq95 {P : Prop} (h : P:=by have:=HK1.out;omega) : P:=h
theorem yq96 {P : Prop} (h : P:=by repeat (first | (with_reducible first | exact HB.out | apply zbp | apply za5 | apply zbr | refine zba ?_ (zax.ge HI0.out) | refine zba ?_ GE490.out) | exact HB.out)) : P:=h
theorem yq97 {P : Prop} (h : P:=by repeat (first | (with_reducible first | exact HB.out | apply zbp | apply za5 | apply zbr | refine zba ?_ (zay.ge HI0.out) | refine zba ?_ GE315.out) | exact HB.out)) : P:=h
theorem yq98 {P : Prop} (h : P:=by repeat (first | (with_reducible first | exact HB.out | apply zbp | apply za5 | apply zbr | refine zba ?_ (zay.ge HI0.out) | refine zba ?_ GE153.out) | exact HB.out)) : P:=h
theorem yq99 {P : Prop} (h : P:=by refine yb1 ?_;refine zaz (cs:=#[.int .i64 t407,.string t408,.int .u64 t409,.int .i64 t410]) ?_ 3 _ rfl;refine yb1 ?_;refine zaz (cs:=#[.int .i64 t407,.string t408,.int .u64 t409,.int .i64 0]) ?_ 3 _ rfl;refine yb1 ?_;refine zaz (cs:=#[.int .i64 t407,.string t408,.int .u64 0,.int .i64 0]) ?_ 2 _ rfl;refine yb1 ?_;refine zaz (cs:=#[.int .i64 t407,.string (⟨#[]⟩ : ByteArray),.int .u64 0,.int .i64 0]) ?_ 1 _ rfl;refine yb1 ?_;refine zaz (cs:=#[.int .i64 0,.string (⟨#[]⟩ : ByteArray),.int .u64 0,.int .i64 0]) ?_ 0 _ rfl;refine yb1 ?_;exact BK413.out) : P:=h
theorem yq100 {P : Prop} (h : P:=by repeat (first | (with_reducible first | exact HB.out | apply zbp | apply za5 | apply zbr | refine zba ?_ (zay.ge HI0.out) | refine zba ?_ GE198.out | refine zba ?_ GE208.out | refine zba ?_ GE223.out | refine zba ?_ GE235.out) | exact HB.out)) : P:=h
theorem yq101 {P : Prop} (h : P:=by have:=HK1.out;first | omega | exact Nat.le_refl _) : P:=h
theorem yq102 {P : Prop} (h : P:=by repeat (first | (with_reducible first | exact HB.out | apply zbp | apply za5 | apply zbr | refine zba ?_ (zay.ge HI0.out) | refine zba ?_ GE198.out | refine zba ?_ GE208.out | refine zba ?_ GE223.out) | exact HB.out)) : P:=h
theorem yq103 {P : Prop} (h : P:=by rw [hg];exact Nat.ne_of_lt (zcs (g:=gb517) (o:=.cells #[.int .i64 a1_0,.int .i64 a1_1,.int .u64 a1_2,.string a1_3,.slice A1_4 l1_4.length c1_4] 117 (0,0)) (zb BK517))) : P:=h
theorem yq104 {P : Prop} (h : P:=by rw [hg];exact Nat.ne_of_lt (zcs (g:=gb490) (o:=.cells #[.int .i64 a1_0,.int .i64 a1_1,.int .u64 a1_2,.string a1_3,.slice A1_4 l1_4.length c1_4] 117 (0,0)) (zb BK490))) : P:=h
theorem yq105 {P : Prop} (h : P:=by rw [hg];exact Nat.ne_of_gt (zcs (g:=gb517) (o:=.cells #[.int .i64 a1_0,.int .i64 a1_1,.int .u64 a1_2,.string a1_3,.slice A1_4 l1_4.length c1_4] 117 (0,0)) (zb BK517))) : P:=h
theorem yq106 {P : Prop} (h : P:=by rw [hg];exact Nat.ne_of_gt (zcs (g:=gb490) (o:=.cells #[.int .i64 a1_0,.int .i64 a1_1,.int .u64 a1_2,.string a1_3,.slice A1_4 l1_4.length c1_4] 117 (0,0)) (zb BK490))) : P:=h
theorem yq107 {P : Prop} (h : P:=by repeat (first | exact (Kd.C_below HR0_2.out HB.out) | (with_reducible refine Kd.C_alloc ?_ _) | (with_reducible refine Kd.C_drewN ?_ _) | (with_reducible refine Kd.C_drew ?_))) : P:=h
theorem yq108 {P : Prop} (h : P:=by first | exact zs3 HB GE483 GE484 GE485 | exact zs2 HB GE483 GE484 | exact zs1 HB GE483 | exact zs0 HB) : P:=h
theorem yq109 {P : Prop} (h : P:=by repeat (first | (with_reducible first | exact HB.out | apply zbp | apply za5 | apply zbr | refine zba ?_ GE421.out) | exact HB.out)) : P:=h
theorem yq110 {P : Prop} (h : P:=by first | (rw [zb8];exact hn467_4) | (show (Addr.add _ _).block≠_;rw [zb8];exact hn467_4) | exact hn467_4) : P:=h
theorem yq111 {P : Prop} (h : P:=by first | (rw [zb8];exact hn467_3) | (show (Addr.add _ _).block≠_;rw [zb8];exact hn467_3) | exact hn467_3) : P:=h
theorem yq112 {P : Prop} (h : P:=by first | (rw [zb8];exact hn467_2) | (show (Addr.add _ _).block≠_;rw [zb8];exact hn467_2) | exact hn467_2) : P:=h
theorem yq113 {P : Prop} (h : P:=by first | (rw [zb8];exact hn467_1) | (show (Addr.add _ _).block≠_;rw [zb8];exact hn467_1) | exact hn467_1) : P:=h
theorem yq114 {P : Prop} (h : P:=by first | (rw [zb8];exact hn467_0) | (show (Addr.add _ _).block≠_;rw [zb8];exact hn467_0) | exact hn467_0) : P:=h
theorem yq115 {P : Prop} (h : P:=by repeat (first | (with_reducible first | exact HB.out | apply zbp | apply za5 | apply zbr | refine zba ?_ (zay.ge HI0.out) | refine zba ?_ GE315.out | refine zba ?_ GE330.out) | exact HB.out)) : P:=h
theorem yq116 {P : Prop} (h : P:=by refine yb1 ?_;refine zaz (cs:=#[.string t361,.int .i64 0,.int .i64 0,.int .i64 0]) ?_ 3 _ rfl;refine yb1 ?_;refine zaz (cs:=#[.string t361,.int .i64 0,.int .i64 0,.int .i64 0]) ?_ 2 _ rfl;refine yb1 ?_;refine zaz (cs:=#[.string t361,.int .i64 0,.int .i64 0,.int .i64 0]) ?_ 1 _ rfl;refine yb1 ?_;refine zaz (cs:=#[.string (⟨#[]⟩ : ByteArray),.int .i64 0,.int .i64 0,.int .i64 0]) ?_ 0 _ rfl;refine yb1 ?_;exact BK366.out) : P:=h
theorem yq117 {P : Prop} (h : P:=by refine yb1 ?_;refine zaz (cs:=#[.int .i64 t536,.int .i64 t537,.bool t538,.int .u64 0]) ?_ 3 _ rfl;refine yb1 ?_;refine zaz (cs:=#[.int .i64 t536,.int .i64 t537,.bool false,.int .u64 0]) ?_ 2 _ rfl;refine yb1 ?_;refine zaz (cs:=#[.int .i64 t536,.int .i64 0,.bool false,.int .u64 0]) ?_ 1 _ rfl;refine yb1 ?_;refine zaz (cs:=#[.int .i64 0,.int .i64 0,.bool false,.int .u64 0]) ?_ 0 _ rfl;refine yb1 ?_;exact BK544.out) : P:=h
theorem yq118 {P : Prop} (h : P:=by simp only [List.length_append,Array.length_toList,szd,ByteArray.size_append,szl,sza,List.size_toArray,List.length_cons,List.length_nil];omega) : P:=h
theorem yq119 {P : Prop} (h : P:=by first | exact zs1 HB GE451 | exact zs0 HB) : P:=h
theorem yq120 {P : Prop} (h : P:=by rw [hg];exact Nat.ne_of_lt (zcs (g:=gb484) (o:=.cells #[.int .i64 1,.int .i64 a2_1,.bool a2_2,.int .u64 a2_3] 155 (0,0)) (zb BK484))) : P:=h
theorem yq121 {P : Prop} (h : P:=by rw [hg];exact Nat.ne_of_gt (zcs (g:=gb484) (o:=.cells #[.int .i64 1,.int .i64 a2_1,.bool a2_2,.int .u64 a2_3] 155 (0,0)) (zb BK484))) : P:=h
theorem yq122 {P : Prop} (h : P:=by repeat (first | (with_reducible first | exact HI0.out | apply zay.alloc | apply zay.drewN | apply zay.drew | apply zay.set_1 | apply zay.set_2 | refine zay.far ?_ NB0_342.out _) | exact HI0.out)) : P:=h
theorem yq123 {P : Prop} (h : P:=by refine yb3 ?_;exact Kd.N_mono (Kd.N_far (p:=⟨gb653,2,none⟩) (Kd.N_far (p:=⟨gb653,1,none⟩) (Kd.N_far (p:=⟨gb653,0,none⟩) (Kd.N_mono HO650.out (fun k_ hk => (⟨hk,hk.2⟩ : _∧k_≠gb653))) (fun _ hk => hk.2) (.slice Ao7 t642.length co7)) (fun _ hk => hk.2) (.slice Ao9 t645.length co9)) (fun _ hk => hk.2) (.slice Ao10 t648.length co10)) (fun _ hk => ⟨hk.1.1.1,⟨hk.1.1.2,hk.1.2⟩⟩)) : P:=h
theorem yq124 {P : Prop} (h : P:=by repeat (first | (with_reducible first | exact HB.out | apply zbp | apply za5 | apply zbr | refine zba ?_ GE594.out | refine zba ?_ GE599.out) | exact HB.out)) : P:=h
theorem yq125 {P : Prop} (h : P:=by refine yb1 ?_;refine zaz (cs:=#[.slice Ao7 t642.length co7,.slice Ao9 t645.length co9,.slice none 0 0]) ?_ 2 _ rfl;refine yb1 ?_;refine zaz (cs:=#[.slice Ao7 t642.length co7,.slice none 0 0,.slice none 0 0]) ?_ 1 _ rfl;refine yb1 ?_;refine zaz (cs:=#[.slice none 0 0,.slice none 0 0,.slice none 0 0]) ?_ 0 _ rfl;refine yb1 ?_;exact BK653.out) : P:=h
theorem yq126 {P : Prop} (h : P:=by repeat (first | (with_reducible first | exact HK.out | apply zaf.set_ | apply zc6 | apply zc8 | apply zc9 | refine zct ?_ GW544.out _) | exact HK.out)) : P:=h
theorem yq127 {P : Prop} (h : P:=by repeat (first | (with_reducible first | exact HK.out | apply zaf.set_ | apply zc6 | apply zc8 | apply zc9 | refine zct ?_ GW342.out _) | exact HK.out)) : P:=h
theorem yq128 {P : Prop} (h : P:=by first | (rw [zb8];exact hn113_0) | (show (Addr.add _ _).block≠_;rw [zb8];exact hn113_0) | exact hn113_0) : P:=h
theorem yq129 {P : Prop} (h : P:=by have:=World.block_lt_of_cell? _ _ hx467_0;first | rwa [zb8] at this | exact this) : P:=h
theorem yq130 {P : Prop} (h : P:=by refine yb2 ?_;exact Kd.R_mono (Kd.R_far (p:=⟨gb653,2,none⟩) (Kd.R_far (p:=⟨gb653,1,none⟩) (Kd.R_far (p:=⟨gb653,0,none⟩) (Kd.R_types HO647.out BK653.out (by decide)) (fun _ hk => hk.2) (.slice Ao7 t642.length co7)) (fun _ hk => hk.2) (.slice Ao9 t645.length co9)) (fun _ hk => hk.2) (.slice Ao10 t648.length co10)) (fun _ hk => trivial)) : P:=h
theorem yq131 {P : Prop} (h : P:=by refine yb2 ?_;exact Kd.R_mono (Kd.R_far (p:=⟨gb653,2,none⟩) (Kd.R_far (p:=⟨gb653,1,none⟩) (Kd.R_far (p:=⟨gb653,0,none⟩) (Kd.R_types HO644.out BK653.out (by decide)) (fun _ hk => hk.2) (.slice Ao7 t642.length co7)) (fun _ hk => hk.2) (.slice Ao9 t645.length co9)) (fun _ hk => hk.2) (.slice Ao10 t648.length co10)) (fun _ hk => trivial)) : P:=h
theorem yq132 {P : Prop} (h : P:=by rw [hg];exact Nat.ne_of_lt (zcs (g:=gb198) (o:=.cells #[.int .i64 0,.int .i64 0,.int .u64 0,.string (⟨#[]⟩ : ByteArray),.slice none 0 0] 117 (0,0)) (zb BK198))) : P:=h
theorem yq133 {P : Prop} (h : P:=by rw [hg];exact Nat.ne_of_gt (zcs (g:=gb198) (o:=.cells #[.int .i64 0,.int .i64 0,.int .u64 0,.string (⟨#[]⟩ : ByteArray),.slice none 0 0] 117 (0,0)) (zb BK198))) : P:=h
theorem yq134 {P : Prop} (h : P:=by first | exact zs2 HB GE483 GE484 | exact zs1 HB GE483 | exact zs0 HB) : P:=h
theorem yq135 {P : Prop} (h : P:=by repeat (first | (with_reducible first | exact HB.out | apply zbp | apply za5 | apply zbr | refine zba ?_ GE594.out) | exact HB.out)) : P:=h
theorem yq136 {P : Prop} (h : P:=by have:=HJ2.out;have:=HJ9.out;have:=HJ14.out;have:=HJ18.out;have:=HJ30.out;have:=HK6.out;omega) : P:=h
theorem yq137 {P : Prop} (h : P:=by have:=HJ2.out;have:=HJ9.out;have:=HJ14.out;have:=HJ18.out;first | omega | exact Nat.le_refl _) : P:=h
theorem yq138 {P : Prop} (h : P:=by repeat' first | with_reducible apply ih0 | with_reducible apply ih1 | with_reducible apply ih2 | with_reducible apply ihm101 | apply ihm101 | with_reducible apply LeO.refl | with_reducible apply LeO.none | (with_reducible refine LeO.ite ?_ ?_) | (with_reducible refine LeO.bind ?_ (fun _ => ?_))) : P:=h
theorem yq139 {P : Prop} (h : P:=by rw [← hq_];exact (zb BK397)) : P:=h
theorem yq140 {P : Prop} (h : P:=by refine yb1 ?_;refine zbv ?_ NB198_208.out _;refine yb1 ?_;refine zbv ?_ NB198_208.out _;refine yb1 ?_;refine zbv ?_ NB198_208.out _;refine yb1 ?_;refine zbv ?_ NB198_208.out _;refine yb1 ?_;refine zbv ?_ NB198_208.out _;refine yb1 ?_;exact BK198.out) : P:=h
theorem yq141 {P : Prop} (h : P:=by refine yb1 ?_;refine zbv ?_ NB153_172.out _;refine yb1 ?_;refine zbv ?_ NB153_172.out _;refine yb1 ?_;refine zbv ?_ NB153_172.out _;refine yb1 ?_;refine zbv ?_ NB153_172.out _;refine yb1 ?_;refine zbv ?_ NB153_172.out _;refine yb1 ?_;exact BK153.out) : P:=h
theorem yq142 {P : Prop} (h : P:=by first | exact zs1 HB GE475 | exact zs0 HB) : P:=h
theorem yq143 {P : Prop} (h : P:=by first | exact zs1 HB GE427 | exact zs0 HB) : P:=h
theorem yq144 {P : Prop} (h : P:=by repeat (first | (with_reducible first | exact HB.out | apply zbp | apply za5 | apply zbr | refine zba ?_ (zax.ge HI0.out) | refine zba ?_ GE517.out | refine zba ?_ GE518.out | refine zba ?_ GE534.out) | exact HB.out)) : P:=h
theorem yq145 {P : Prop} (h : P:=by repeat' first | with_reducible apply ih0 | with_reducible apply ih1 | with_reducible apply ihm104 | apply ihm104 | with_reducible apply LeO.refl | with_reducible apply LeO.none | (with_reducible refine LeO.ite ?_ ?_) | (with_reducible refine LeO.bind ?_ (fun _ => ?_))) : P:=h
theorem yq146 {P : Prop} (h : P:=by repeat' first | with_reducible apply ih0 | with_reducible apply ih1 | with_reducible apply ihm85 | apply ihm85 | with_reducible apply LeO.refl | with_reducible apply LeO.none | (with_reducible refine LeO.ite ?_ ?_) | (with_reducible refine LeO.bind ?_ (fun _ => ?_))) : P:=h
theorem yq147 {P : Prop} (h : P:=by repeat' first | with_reducible apply ih0 | with_reducible apply ih1 | with_reducible apply ihm74 | apply ihm74 | with_reducible apply LeO.refl | with_reducible apply LeO.none | (with_reducible refine LeO.ite ?_ ?_) | (with_reducible refine LeO.bind ?_ (fun _ => ?_))) : P:=h
theorem yq148 {P : Prop} (h : P:=by repeat' first | with_reducible apply ih0 | with_reducible apply ih1 | with_reducible apply ihm64 | apply ihm64 | with_reducible apply LeO.refl | with_reducible apply LeO.none | (with_reducible refine LeO.ite ?_ ?_) | (with_reducible refine LeO.bind ?_ (fun _ => ?_))) : P:=h
theorem yq149 {P : Prop} (h : P:=by repeat' first | with_reducible apply ih0 | with_reducible apply ih1 | with_reducible apply ihm63 | apply ihm63 | with_reducible apply LeO.refl | with_reducible apply LeO.none | (with_reducible refine LeO.ite ?_ ?_) | (with_reducible refine LeO.bind ?_ (fun _ => ?_))) : P:=h
theorem yq150 {P : Prop} (h : P:=by have:=HJ2.out;have:=HJ10.out;have:=HJ14.out;first | omega | exact Nat.le_refl _) : P:=h
theorem yq151 {P : Prop} (h : P:=by have:=HJ2.out;have:=HJ9.out;have:=HJ14.out;first | omega | exact Nat.le_refl _) : P:=h
theorem yq152 {P : Prop} (h : P:=by repeat (first | (with_reducible first | exact HK.out | apply zaf.set_ | apply zc6 | apply zc8 | apply zc9 | refine zct ?_ GW517.out _ | refine zct ?_ GW518.out _ | refine zct ?_ GW534.out _) | exact HK.out)) : P:=h
theorem yq153 {P : Prop} (h : P:=by repeat (first | (with_reducible first | exact HI0.out | apply zay.alloc | apply zay.drewN | apply zay.drew | apply zay.set_1 | apply zay.set_2 | refine zay.far ?_ NB0_114.out _ | refine zay.far ?_ NB0_138.out _) | exact HI0.out)) : P:=h
theorem yq154 {P : Prop} (h : P:=by repeat (first | (with_reducible first | exact HB.out | apply zbp | apply za5 | apply zbr | refine zba ?_ (zay.ge HI0.out) | refine zba ?_ GE114.out | refine zba ?_ GE138.out) | exact HB.out)) : P:=h
theorem yq155 {P : Prop} (h : P:=by first | exact zs1 HB GE594 | exact zs0 HB) : P:=h
theorem yq156 {P : Prop} (h : P:=by repeat (first | (with_reducible first | exact HI0.out | apply zax.alloc | apply zax.drewN | apply zax.drew | apply zax.set_6 | apply zax.set_7 | apply zax.set_8 | refine zax.far ?_ NB0_544.out _) | exact HI0.out)) : P:=h
theorem yq157 {P : Prop} (h : P:=by refine yb3 ?_;exact Kd.N_mono HO_3.out (fun _ hk => ⟨hk.1.1.1.1,hk.1.1.1.2⟩)) : P:=h
theorem yq158 {P : Prop} (h : P:=by refine yb1 ?_;refine zbv ?_ NB343_366.out _;refine yb1 ?_;refine zbv ?_ NB343_366.out _;refine yb1 ?_;refine zbv ?_ NB343_366.out _;refine yb1 ?_;refine zbv ?_ NB343_366.out _;refine yb1 ?_;exact BK343.out) : P:=h
theorem yq159 {P : Prop} (h : P:=by refine yb1 ?_;refine zbv ?_ NB342_366.out _;refine yb1 ?_;refine zbv ?_ NB342_366.out _;refine yb1 ?_;refine zbv ?_ NB342_366.out _;refine yb1 ?_;refine zbv ?_ NB342_366.out _;refine yb1 ?_;exact BK342.out) : P:=h
theorem yq160 {P : Prop} (h : P:=by (try simp only [hl13_22]);refine yb2 ?_;exact HO_14.out) : P:=h
theorem yq161 {P : Prop} (h : P:=by (try simp only [hl13_22]);refine yb2 ?_;exact HO_13.out) : P:=h
theorem yq162 {P : Prop} (h : P:=by (try simp only [hl13_22]);refine yb2 ?_;exact HO_10.out) : P:=h
theorem yq163 {P : Prop} (h : P:=by (try simp only [hl13_22]);refine yb1 ?_;exact BK762.out) : P:=h
theorem yq164 {P : Prop} (h : P:=by rw [hg];exact (zb7 (by first | exact zs1 HB GE483 | exact zs0 HB))) : P:=h
theorem yq165 {P : Prop} (h : P:=by (try simp only [hl13_22]);refine yb2 ?_;exact HO_9.out) : P:=h
theorem yq166 {P : Prop} (h : P:=by repeat (first | (with_reducible first | exact HK.out | apply zaf.set_ | apply zc6 | apply zc8 | apply zc9 | refine zct ?_ GW114.out _ | refine zct ?_ GW138.out _) | exact HK.out)) : P:=h
theorem yq167 {P : Prop} (h : P:=by have:=HJ2.out;have:=HJ10.out;have:=HJ14.out;have:=HJ24.out;first | omega | exact Nat.le_refl _) : P:=h
theorem yq168 {P : Prop} (h : P:=by repeat (first | (with_reducible first | exact HI0.out | apply zay.alloc | apply zay.drewN | apply zay.drew | apply zay.set_1 | apply zay.set_2 | refine zay.far ?_ NB0_109.out _) | exact HI0.out)) : P:=h
theorem yq169 {P : Prop} (h : P:=by repeat (first | (with_reducible first | exact HB.out | apply zbp | apply za5 | apply zbr | refine zba ?_ (zax.ge HI0.out) | refine zba ?_ GE544.out) | exact HB.out)) : P:=h
theorem yq170 {P : Prop} (h : P:=by repeat (first | (with_reducible first | exact HB.out | apply zbp | apply za5 | apply zbr | refine zba ?_ (zax.ge HI0.out) | refine zba ?_ GE517.out) | exact HB.out)) : P:=h
theorem yq171 {P : Prop} (h : P:=by repeat (first | (with_reducible first | exact HB.out | apply zbp | apply za5 | apply zbr | refine zba ?_ (zay.ge HI0.out) | refine zba ?_ GE198.out) | exact HB.out)) : P:=h
theorem yq172 {P : Prop} (h : P:=by repeat (first | (with_reducible first | exact HB.out | apply zbp | apply za5 | apply zbr | refine zba ?_ (zay.ge HI0.out) | refine zba ?_ GE109.out) | exact HB.out)) : P:=h
theorem yq173 {P : Prop} (h : P:=by first | exact zs2 HB GE594 GE599 | exact zs1 HB GE594 | exact zs0 HB) : P:=h
theorem yq174 {P : Prop} (h : P:=by rw [← add_field _ _ 3 (by omega)];exact hc 3 _ rfl) : P:=h
theorem yq175 {P : Prop} (h : P:=by rw [← add_field _ _ 2 (by omega)];exact hc 2 _ rfl) : P:=h
theorem yq176 {P : Prop} (h : P:=by rw [← add_field _ _ 1 (by omega)];exact hc 1 _ rfl) : P:=h
theorem yq177 {P : Prop} (h : P:=by first | exact zs1 HB GE447 | exact zs0 HB) : P:=h
theorem yq178 {P : Prop} (h : P:=by repeat (first | (with_reducible first | exact HB.out | apply zbp | apply za5 | apply zbr | refine zba ?_ GE469.out | refine zba ?_ GE471.out) | exact HB.out)) : P:=h
theorem yq179 {P : Prop} (h : P:=by rw [sz];omega) : P:=h
theorem yq180 {P : Prop} (h : P:=by rw [hg];exact Nat.ne_of_lt (zcs (g:=gb208) (o:=.cells #[.int .i64 t199,.int .i64 t200,.int .u64 t201,.string t202,.slice Ao10 t203.length co10] 117 (0,0)) (zb BK208))) : P:=h
theorem yq181 {P : Prop} (h : P:=by rw [hg];exact Nat.ne_of_gt (zcs (g:=gb208) (o:=.cells #[.int .i64 t199,.int .i64 t200,.int .u64 t201,.string t202,.slice Ao10 t203.length co10] 117 (0,0)) (zb BK208))) : P:=h
theorem yq182 {P : Prop} (h : P:=by repeat (first | (with_reducible first | exact HK.out | apply zaf.set_ | apply zc6 | apply zc8 | apply zc9 | refine zct ?_ GW109.out _) | exact HK.out)) : P:=h
theorem yq183 {P : Prop} (h : P:=by repeat (first | exact (Kd.C_below HR0_3.out HB.out) | (with_reducible refine Kd.C_alloc ?_ _) | (with_reducible refine Kd.C_drewN ?_ _) | (with_reducible refine Kd.C_drew ?_))) : P:=h
theorem yq184 {P : Prop} (h : P:=by rw [hg];exact Nat.ne_of_lt (zcs (g:=gb153) (o:=.cells #[.int .i64 0,.int .i64 0,.int .u64 0,.string (⟨#[]⟩ : ByteArray),.slice none 0 0] 117 (0,0)) (zb BK153))) : P:=h
theorem yq185 {P : Prop} (h : P:=by rw [hg];exact Nat.ne_of_gt (zcs (g:=gb153) (o:=.cells #[.int .i64 0,.int .i64 0,.int .u64 0,.string (⟨#[]⟩ : ByteArray),.slice none 0 0] 117 (0,0)) (zb BK153))) : P:=h
theorem yq186 {P : Prop} (h : P:=by simp only [List.length_append,Array.length_toList,szd,ByteArray.size_append,szl,sza,List.size_toArray,List.length_cons,List.length_nil,Array.length_toList];omega) : P:=h
theorem yq187 {P : Prop} (h : P:=by repeat (first | (with_reducible first | exact HB.out | apply zbp | apply za5 | apply zbr | refine zba ?_ GE653.out) | exact HB.out)) : P:=h
theorem yq188 {P : Prop} (h : P:=by repeat (first | (with_reducible first | exact HB.out | apply zbp | apply za5 | apply zbr | refine zba ?_ GE582.out) | exact HB.out)) : P:=h
theorem yq189 {P : Prop} (h : P:=by repeat (first | (with_reducible first | exact HB.out | apply zbp | apply za5 | apply zbr | refine zba ?_ GE475.out) | exact HB.out)) : P:=h
theorem yq190 {P : Prop} (h : P:=by repeat (first | (with_reducible first | exact HB.out | apply zbp | apply za5 | apply zbr | refine zba ?_ GE469.out) | exact HB.out)) : P:=h
theorem yq191 {P : Prop} (h : P:=by first | exact zs1 HB GE469 | exact zs0 HB) : P:=h
theorem yq192 {P : Prop} (h : P:=by first | exact zs1 HB GE422 | exact zs0 HB) : P:=h
theorem yq193 {P : Prop} (h : P:=by have:=HJ2.out;first | omega | exact Nat.le_refl _) : P:=h
theorem yq194 {P : Prop} (h : P:=by first | exact zs4 HB GE483 GE484 GE485 GE489 | exact zs3 HB GE483 GE484 GE485 | exact zs2 HB GE483 GE484 | exact zs1 HB GE483 | exact zs0 HB) : P:=h
theorem yq195 {P : Prop} (h : P:=by rw [hg];exact Nat.ne_of_lt (zcs (g:=gb518) (o:=.cells #[.int .i64 0,.int .i64 0,.bool false,.int .u64 0] 155 (0,0)) (zb BK518))) : P:=h
theorem yq196 {P : Prop} (h : P:=by rw [hg];exact Nat.ne_of_lt (zcs (g:=gb485) (o:=.cells #[.int .i64 0,.int .i64 0,.bool false,.int .u64 0] 155 (0,0)) (zb BK485))) : P:=h
theorem yq197 {P : Prop} (h : P:=by rw [hg];exact Nat.ne_of_gt (zcs (g:=gb518) (o:=.cells #[.int .i64 0,.int .i64 0,.bool false,.int .u64 0] 155 (0,0)) (zb BK518))) : P:=h
theorem yq198 {P : Prop} (h : P:=by rw [hg];exact Nat.ne_of_gt (zcs (g:=gb485) (o:=.cells #[.int .i64 0,.int .i64 0,.bool false,.int .u64 0] 155 (0,0)) (zb BK485))) : P:=h
theorem yq199 {P : Prop} (h : P:=by have:=HJ2.out;have:=HJ10.out;first | omega | exact Nat.le_refl _) : P:=h
theorem yq200 {P : Prop} (h : P:=by rw [hg];exact Nat.ne_of_lt (zcs (g:=gb342) (o:=.cells #[.slice none 0 0,.slice none 0 0,.slice none 0 0] 33 (0,0)) (zb BK342))) : P:=h
theorem yq201 {P : Prop} (h : P:=by rw [hg];exact Nat.ne_of_gt (zcs (g:=gb342) (o:=.cells #[.slice none 0 0,.slice none 0 0,.slice none 0 0] 33 (0,0)) (zb BK342))) : P:=h
theorem yq202 {P : Prop} (h : P:=by repeat (first | (with_reducible first | exact HB3.out | apply zbp | apply za5 | apply zbr) | exact HB3.out)) : P:=h
theorem yq203 {P : Prop} (h : P:=by first | exact zs1 HB GE442 | exact zs0 HB) : P:=h
theorem yq204 {P : Prop} (h : P:=by repeat (first | (with_reducible first | exact HB2.out | apply zbr | apply zbp) | exact HB2.out)) : P:=h
theorem yq205 {P : Prop} (h : P:=by repeat (first | (with_reducible first | exact HB0.out | apply zbr | apply zbp) | exact HB0.out)) : P:=h
theorem yq206 {P : Prop} (h : P:=by have:=HJ2.out;have:=HJ10.out;have:=HJ14.out;have:=HJ24.out;have:=HJ33.out;have:=HK6.out;omega) : P:=h
theorem yq207 {P : Prop} (h : P:=by refine yb3 ?_;exact Kd.N_mono HO197.out (fun _ hk => ⟨hk.1,⟨hk.2.2.2.2,⟨hk.2.1,⟨hk.2.2.1,hk.2.2.2.1⟩⟩⟩⟩)) : P:=h
theorem zd1 {P : Prop} (h : P:=by rw [hg];exact (zbo (w:=w) (g:=g) (row:=none) yq1)) : P:=h
theorem yq209 {P : Prop} (h : P:=by first | omega | exact Nat.le_refl _) : P:=h
theorem yq210 {P : Prop} (h : P:=by rw [hg];exact (zbo (w:=w) (g:=g) (row:=none) yq34)) : P:=h
theorem yq211 {P : Prop} (h : P:=by first | exact zs1 HB GE397 | exact zs0 HB) : P:=h
theorem yq212 {P : Prop} (h : P:=by rw [hg];exact (zbo (w:=w) (g:=g) (row:=none) yq85)) : P:=h
theorem yq213 {P : Prop} (h : P:=by rw [hg];exact (zbo (w:=w) (g:=g) (row:=none) yq18)) : P:=h
end Go.Proofs.YtkgdhdjkpnalmaaGreatDoorW.PrintWords
end
