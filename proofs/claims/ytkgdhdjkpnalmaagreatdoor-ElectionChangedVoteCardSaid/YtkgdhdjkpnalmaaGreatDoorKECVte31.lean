/- What is proved here: a part of the proof of ElectionChangedVote: Ers. No conditions beside those that each theorem states. -/
import Derived.Test.YtkgdhdjkpnalmaaGreatDoorKECVte29
import Derived.Test.YtkgdhdjkpnalmaaGreatDoorKECVte30
import Derived.Test.YtkgdhdjkpnalmaaGreatDoorKECVte3
set_option linter.unusedVariables false
set_option linter.unusedSimpArgs false
section
namespace Go.Proofs.YtkgdhdjkpnalmaaGreatDoor.P
open Go.RowKit Go.Proofs.YtkgdhdjkpnalmaaGreatDoorW.PrintWords Go.Proofs.YtkgdhdjkpnalmaaGreatDoorW.PrintLast Go.Proofs.YtkgdhdjkpnalmaaGreatDoorW.PrintMore
def Oth30 (w w' : World) : Prop:=∀ (k : Nat) (cells : Array Value) (t : TypeId) (fz : Nat × Nat),w.heap[k]? = some (Obj.cells cells t fz)→t≠9→t≠37→t≠82→w'.heap[k]? = w.heap[k]?
theorem Oth30.trans {w W W' : World} (h : Oth30 w W) (h' : Oth30 W W') : Oth30 w W':=fun k cells t fz hk h1 h2 h3 => by
 have e:=h k cells t fz hk h1 h2 h3;exact (h' k cells t fz (e.trans hk) h1 h2 h3).trans e
theorem Oth30.of_below {w W : World} (h : Below w.heap.size w W) : Oth30 w W:=fun k cells t fz hk _ _ _ => h.block k (zcs hk)
theorem Oth30.of_grown {w W : World} {v : Value} {α : Type} {d : Kd α} {e base : Nat} {ok : Nat→Prop} {xs : List α} (hr : d.R e w base ok v xs) (he : e = 9 ∨ e = 37) (hg : w.grownBy W v.ownBlock) : Oth30 w W:=fun k cells t fz hk h1 h2 h3 => by
 refine hg.block k (zcs hk) (fun hv => ?_);obtain ⟨inner,ho⟩:=Kd.R_own hr;obtain ⟨cells',hc'⟩:=own_typed ho k hv.symm;rw [hk] at hc'
 injection hc' with hc'
 injection hc' with _ e2
 rcases he with he | he
 ·exact h1 (e2.trans he)
 ·exact h2 (e2.trans he)
theorem Oth30.set {w : World} {g : Nat} {cs : Array Value} (hg : w.heap[g]? = some (.cells cs 82 (0,0))) (j : Nat) (u : Value) : Oth30 w (w.setCell ⟨g,j,none⟩ u):=fun k cells t fz hk _ _ h3 => by
 refine Below.heap_setCell w _ _ k (fun hkg => ?_);have hkg' : k = g:=hkg;subst hkg';rw [hk] at hg
 injection hg with hg
 injection hg with _ e2
 exact h3 e2
def StIn (w0 : World) (w : World) (g : Nat) (ns : List ByteArray) (vs : List Int) : Prop :=
 ∃ A a B b,w.heap[g]? = some (.cells #[.slice A ns.length a,.slice B vs.length b,.slice none 0 0,.slice none 0 0,.slice none 0 0] 82 (0,0))∧w0.heap.size≤g∧Kd.R Kd.string 9 w w0.heap.size (fun _ => True) (.slice A ns.length a) ns∧Kd.R (Kd.int .u64) 37 w w0.heap.size (fun _ => True) (.slice B vs.length b) vs
structure Fx (g : Nat) (w0 w W : World) (cs : Array Value) (ns : List ByteArray) (vs : List Int) (v1 v2 : Value) : Prop where
 hg : W.heap[g]? = some (.cells cs 82 (0,0))
 r1 : Kd.R Kd.string 9 W w0.heap.size (fun _ => True) v1 ns
 r2 : Kd.R (Kd.int .u64) 37 W w0.heap.size (fun _ => True) v2 vs
 hb : Below w0.heap.size w0 W
 ho : Oth30 w W
theorem Fx.alloc {g : Nat} {w0 w W : World} {cs : Array Value} {ns : List ByteArray} {vs : List Int} {v1 v2 : Value} (h : Fx g w0 w W cs ns vs v1 v2) (o : Obj) : Fx g w0 w (W.alloc o) cs ns vs v1 v2 :=
 ⟨zdh h.hg o,Kd.R_alloc h.r1 o,Kd.R_alloc h.r2 o,zbp h.hb o,h.ho.trans (Oth30.of_below (zbp (Below.refl _ W) o))⟩
theorem Fx.app1 {g : Nat} {w0 w W W' : World} {cs : Array Value} {ns ns' : List ByteArray} {vs : List Int} {v1 v2 v1' : Value} (h : Fx g w0 w W cs ns vs v1 v2) (hr : Kd.R Kd.string 9 W' w0.heap.size (fun _ => True) v1' ns') (hb : Below w0.heap.size w0 W') (hg : W.grownBy W' v1.ownBlock) : Fx g w0 w W' cs ns' vs v1' v2 :=
 ⟨zdf h.hg hg (Kd.R_ne h.r1 h.hg (by decide)),hr,Kd.R_over' h.r2 (fun k hk => (by obtain ⟨inner,ho⟩:=Kd.R_own h.r1;exact own_typed ho k hk)) (by intro q hq;simp [Kd.int,Kd.scalar] at hq;subst hq;decide) hg,hb,h.ho.trans (Oth30.of_grown h.r1 (.inl rfl) hg)⟩
theorem Fx.app2 {g : Nat} {w0 w W W' : World} {cs : Array Value} {ns : List ByteArray} {vs vs' : List Int} {v1 v2 v2' : Value} (h : Fx g w0 w W cs ns vs v1 v2) (hr : Kd.R (Kd.int .u64) 37 W' w0.heap.size (fun _ => True) v2' vs') (hb : Below w0.heap.size w0 W') (hg : W.grownBy W' v2.ownBlock) : Fx g w0 w W' cs ns vs' v1 v2' :=
 ⟨zdf h.hg hg (Kd.R_ne h.r2 h.hg (by decide)),Kd.R_over' h.r1 (fun k hk => (by obtain ⟨inner,ho⟩:=Kd.R_own h.r2;exact own_typed ho k hk)) (by intro q hq;simp [Kd.string,Kd.scalar] at hq;subst hq;decide) hg,hr,hb,h.ho.trans (Oth30.of_grown h.r2 (.inr rfl) hg)⟩
theorem box_reads {α : Type} {R : α→List Value→Prop} {W : World} {b : Nat} {t : TypeId} {u : Value} {p : α} (h : W.heap[b]? = some (.cells #[u] t (0,0))) (hR : R p [u]) : zdy R 1 W (some ⟨b,0,none⟩) 1 [p]:=by
 refine ⟨rfl,by decide,fun _ => ⟨_,rfl,?_⟩⟩;intro j q hj
 rcases j with _ | j
 ·simp at hj
  subst hj;refine ⟨[u],rfl,hR,?_⟩;intro i v hi
  rcases i with _ | i
  ·simp at hi
   subst hi;exact (zbf h 0).trans rfl
  ·simp at hi
 ·simp at hj
theorem box_grown {α : Type} {d : Kd α} {e base : Nat} {ok : Nat→Prop} {xs : List α} {W W' : World} {v : Value} {b : Nat} {u : Value} {t : TypeId} (h : W.heap[b]? = some (.cells #[u] t (0,0))) (hr : d.R e W base ok v xs) (he : e≠t) (hg : W.grownBy W' v.ownBlock) : W'.heap[b]? = some (.cells #[u] t (0,0)):=zdf h hg (Kd.R_ne hr h he)
theorem Fx.done {g : Nat} {w0 w W : World} {u1 u2 : Value} {ns : List ByteArray} {vs : List Int} {A B : Option Addr} {a b n m : Nat} (h : Fx g w0 w W #[u1,u2,.slice none 0 0,.slice none 0 0,.slice none 0 0] ns vs (.slice A n a) (.slice B m b)) (hgb : w0.heap.size≤g) :
  StIn w0 ((W.setCell ⟨g,0,none⟩ (.slice A n a)).setCell ⟨g,1,none⟩ (.slice B m b)) g ns vs∧Below w0.heap.size w0 ((W.setCell ⟨g,0,none⟩ (.slice A n a)).setCell ⟨g,1,none⟩ (.slice B m b))∧Oth30 w ((W.setCell ⟨g,0,none⟩ (.slice A n a)).setCell ⟨g,1,none⟩ (.slice B m b)):=by
 have q1:=zds h.hg 0 (.slice A n a);have q2:=zds q1 1 (.slice B m b);obtain ⟨rfl,_,_⟩:=Kd.R_reads' h.r1;obtain ⟨rfl,_,_⟩:=Kd.R_reads' h.r2
 have n1 : ∀ q,q ∈ 9 :: Kd.string.E→q≠82:=by intro q hq;simp [Kd.string,Kd.scalar] at hq;subst hq;decide
 have n2 : ∀ q,q ∈ 37 :: (Kd.int .u64).E→q≠82:=by intro q hq;simp [Kd.int,Kd.scalar] at hq;subst hq;decide
 exact ⟨⟨A,a,B,b,by simpa using q2,hgb,Kd.R_set (Kd.R_set h.r1 h.hg n1 _ _) q1 n1 _ _,Kd.R_set (Kd.R_set h.r2 h.hg n2 _ _) q1 n2 _ _⟩,zba (zba h.hb hgb) hgb,h.ho.trans ((Oth30.set h.hg _ _).trans (Oth30.set q1 _ _))⟩
set_option maxHeartbeats 4000000 in
set_option maxRecDepth 100000 in
theorem set_calls (g k : Nat) (ns : List ByteArray) (vs : List Int) (s : ByteArray) (x : Int) (w0 w : World) (hS : StIn w0 w g ns vs) (hB : Below w0.heap.size w0 w) (hf : zbw.f k ns s = some (-1)) (hl : ns.length < 1000) (hl' : vs.length < 1000) :
  Calls Tryz.prog 33 #[.pointer (some ⟨g,0,none⟩),.string s,.int .u64 x] w fun e w' => e = .returned (.tuple #[])∧StIn w0 w' g (ns ++ [s]) (vs ++ [x])∧Below w0.heap.size w0 w'∧Oth30 w w':=by
 obtain ⟨A,a,B,b,HG,hgb,h3,h4⟩:=hS;have z0 : w.cell? ⟨g,0,none⟩ = some (.slice A ns.length a):=(zbf HG 0).trans rfl;have h5:=Kd.R_reads' h3
 have HF : Fx g w0 w w #[.slice A ns.length a,.slice B vs.length b,.slice none 0 0,.slice none 0 0,.slice none 0 0] ns vs (.slice A ns.length a) (.slice B vs.length b):=⟨HG,h3,h4,hB,fun _ _ _ _ _ _ _ _ => rfl⟩
 clear HG h3 h4 hB;go_enter Tryz.func33,Tryz.ntmps33
 go_wp2_with fail
 refine (zbw.calls k A a ns s (-1) w h5.2.2 h5.2.1 hf).mono ?_;rintro e w1 ⟨rfl,hd⟩;obtain ⟨n1,rfl⟩:=hd.out
 replace HF : Fx g w0 w (w.drewN n1).drew _ ns vs _ _:=⟨HF.hg,Kd.R_drew (Kd.R_drewN HF.r1 n1),Kd.R_drew (Kd.R_drewN HF.r2 n1),zbr (za5 HF.hb n1),fun _ _ _ _ _ _ _ _ => rfl⟩
 clear z0 hd;generalize w.drewN n1 = w1 at *
 go_upto_region 2 with (fail)
 have mixed : Tryz.prog.follows .mixedOrders = true:=by kernel_rfl
 refine zd9 (fun w' => w'.heap[g]? = some (.cells #[.slice A ns.length a,.slice B vs.length b,.slice none 0 0,.slice none 0 0,.slice none 0 0] 82 (0,0))) (fun j => decide (16≤j)) 22 rfl mixed ?_;generalize w1.drew = W at *;clear mixed h5 hf;refine zbz (i:=0) (v:=?v1) rfl (by kernel_rfl) (by kernel_rfl) (by kernel_rfl) (fun _ _ _ h => h) (Or.inl ⟨by rfl,?hy1⟩) ?hr1
 case hy1 => (intro w' _;(try go_simp);(try (with_reducible rfl)))
 (try simp only [Act.put,za1,za2,za3]);refine zbz (i:=2) (v:=?v2) rfl (by kernel_rfl) (by kernel_rfl) (by kernel_rfl) (fun _ _ _ h => h) (Or.inl ⟨by rfl,?hy2⟩) ?hr2
 case hy2 => (intro w' _;(try go_simp);(try (with_reducible rfl)))
 (try simp only [Act.put,za1,za2,za3]);refine zbz (i:=3) (v:=?v3) rfl (by kernel_rfl) (by kernel_rfl) (by kernel_rfl) (fun _ _ _ h => h) (Or.inl ⟨by rfl,?hy3⟩) ?hr3
 case hy3 => (intro w' _;(try go_simp);(try (with_reducible rfl)))
 (try simp only [Act.put,za1,za2,za3]);refine zbz (i:=4) (v:=?v4) rfl (by kernel_rfl) (by kernel_rfl) (by kernel_rfl) (fun _ _ _ h => h) (Or.inl ⟨by rfl,?hy4⟩) ?hr4
 case hy4 => (intro w' _;(try go_simp);(try (with_reducible rfl)))
 (try simp only [Act.put,za1,za2,za3]);refine zdt (i:=5) (v:=?v5) rfl (by kernel_rfl) (by kernel_rfl) (by kernel_rfl) (by kernel_rfl) (fun _ _ _ h => h) (Or.inl ⟨by rfl,?hy5⟩) HF.hg ?hr5
 case hy5 => (intro w' hw';have y0':=(zbf hw' 0).trans rfl;have y1':=(zbf hw' 1).trans rfl;(try go_simp);(try (with_reducible rfl)))
 (try simp only [Act.put,za1,za2,za3]);refine zbz (i:=6) (v:=?v6) rfl (by kernel_rfl) (by kernel_rfl) (by kernel_rfl) (fun _ _ _ h => h) (Or.inl ⟨by rfl,?hy6⟩) ?hr6
 case hy6 => (intro w' _;(try go_simp);(try (with_reducible rfl)))
 (try simp only [Act.put,za1,za2,za3]);refine zbz (i:=9) (v:=?v7) rfl (by kernel_rfl) (by kernel_rfl) (by kernel_rfl) (fun _ _ _ h => h) (Or.inl ⟨by rfl,?hy7⟩) ?hr7
 case hy7 => (intro w' _;(try go_simp);(try (with_reducible rfl)))
 (try simp only [Act.put,za1,za2,za3]);refine zbz (i:=10) (v:=?v8) rfl (by kernel_rfl) (by kernel_rfl) (by kernel_rfl) (fun _ _ _ h => h) (Or.inl ⟨by rfl,?hy8⟩) ?hr8
 case hy8 => (intro w' _;(try go_simp);(try (with_reducible rfl)))
 (try simp only [Act.put,za1,za2,za3]);refine zbz (i:=11) (v:=?v9) rfl (by kernel_rfl) (by kernel_rfl) (by kernel_rfl) (fun _ _ _ h => h) (Or.inl ⟨by rfl,?hy9⟩) ?hr9
 case hy9 => (intro w' _;(try go_simp);(try (with_reducible rfl)))
 (try simp only [Act.put,za1,za2,za3]);refine zdt (i:=12) (v:=?v10) rfl (by kernel_rfl) (by kernel_rfl) (by kernel_rfl) (by kernel_rfl) (fun _ _ _ h => h) (Or.inl ⟨by rfl,?hy10⟩) HF.hg ?hr10
 case hy10 => (intro w' hw';have y0':=(zbf hw' 0).trans rfl;have y1':=(zbf hw' 1).trans rfl;(try go_simp);(try (with_reducible rfl)))
 (try simp only [Act.put,za1,za2,za3]);refine zbz (i:=13) (v:=?v11) rfl (by kernel_rfl) (by kernel_rfl) (by kernel_rfl) (fun _ _ _ h => h) (Or.inl ⟨by rfl,?hy11⟩) ?hr11
 case hy11 => (intro w' _;(try go_simp);(try (with_reducible rfl)))
 (try simp only [Act.put,za1,za2,za3]);refine zbz (i:=1) (v:=?v12) rfl (by kernel_rfl) (by kernel_rfl) (by kernel_rfl) (fun _ _ _ h => h) (Or.inl ⟨by rfl,?hy12⟩) ?hr12
 case hy12 => (intro w' _;(try go_simp);(try (with_reducible rfl)))
 (try simp only [Act.put,za1,za2,za3]);refine wpAnyE_two (i:=7) (j:=14) (by kernel_rfl) rfl rfl (fun K hK => ?h7) (fun K hK => ?h14)
 case h7 =>
  go_simp;refine hK.out _ _ (fun _ _ => zdh HF.hg _) ?_;clear hK K;replace HF:=HF.alloc (Obj.cells #[(.string s)] 9);have hb1:=blk_new W (Obj.cells #[(.string s)] 9)
  revert HF hb1
  generalize W.alloc (Obj.cells #[(.string s)] 9) = W1,W.heap.size = b1;intro HF hb1;refine wpAnyE_two (i:=8) (j:=14) (by kernel_rfl) rfl rfl (fun K hK => ?h8) (fun K hK => ?h14b)
  case h8 =>
   refine Kd.R_append_rows_step Kd.string (Rr:=fun p cs => cs = [.string p]) (w0:=w0) w0.heap.size (by rfl) (.tmp 20) (.tmp 22) 80 9 (.string ⟨#[]⟩) 16 rfl Tryz.underlying80 info9 rfl (by decide) (by omega) _ ns [s] (some ⟨b1,0,none⟩) 1 1 (fun _ => True) (fun _ => False) rfl rfl HF.r1 (box_reads hb1 rfl) (fun _ _ h => h) (fun _ h => h.elim) (fun _ _ => trivial) HF.hb HF.hb.size (by omega) ?_;intro v1 W2 hR hB hG _;obtain ⟨A',a',rfl⟩:=Kd.R_slice hR;(try simp only [Act.put,za1,za2,za3]);have HF':=HF.app1 hR hB hG;refine hK.out _ _ (fun _ _ => HF'.hg) ?_;clear hK K hR hB hG HF;have HF:=HF';clear HF';refine zdb (i:=14) (by kernel_rfl) rfl (fun K hK => ?_);go_simp;refine hK.out _ _ (fun _ _ => zdh HF.hg _) ?_;clear hK K;replace HF:=HF.alloc (Obj.cells #[(.int .u64 x)] 37);have hb2:=blk_new W2 (Obj.cells #[(.int .u64 x)] 37)
   revert HF hb2
   generalize W2.alloc (Obj.cells #[(.int .u64 x)] 37) = W3,W2.heap.size = b2;intro HF hb2;refine zdb (i:=15) (by kernel_rfl) rfl (fun K hK => ?_);refine Kd.R_append_rows_step (Kd.int .u64) (Rr:=fun p cs => cs = [.int .u64 p]) (w0:=w0) w0.heap.size (by rfl) (.tmp 27) (.tmp 29) 23 37 (.int .u64 0) 8 rfl Tryz.underlying23 info37 rfl (by decide) (by omega) _ vs [x] (some ⟨b2,0,none⟩) 1 1 (fun _ => True) (fun _ => False) rfl rfl HF.r2 (box_reads hb2 rfl) (fun _ _ h => h) (fun _ h => h.elim) (fun _ _ => trivial) HF.hb HF.hb.size (by omega) ?_;intro v1 W4 hR hB hG _;obtain ⟨B',b',rfl⟩:=Kd.R_slice hR;(try simp only [Act.put,za1,za2,za3]);have HF':=HF.app2 hR hB hG;refine hK.out _ _ (fun _ _ => HF'.hg) ?_;clear hK K hR hB hG HF;have HF:=HF';clear HF';refine zbz (i:=16) (v:=?v13) rfl (by kernel_rfl) (by kernel_rfl) (by kernel_rfl) (fun _ _ _ h => h) (Or.inl ⟨by rfl,?hy13⟩) ?hr13
   case hy13 => (intro w' _;(try go_simp);(try (with_reducible rfl)))
   (try simp only [Act.put,za1,za2,za3]);refine zbz (i:=17) (v:=?v14) rfl (by kernel_rfl) (by kernel_rfl) (by kernel_rfl) (fun _ _ _ h => h) (Or.inl ⟨by rfl,?hy14⟩) ?hr14
   case hy14 => (intro w' _;(try go_simp);(try (with_reducible rfl)))
   (try simp only [Act.put,za1,za2,za3]);have z0:=(zbf HF.hg 0).trans rfl;have z1:=(zbf HF.hg 1).trans rfl;have f0:=zap HF.hg 0;have f1:=zap HF.hg 1;refine zdb (i:=18) (by kernel_rfl) rfl (fun K hK => ?_);go_simp;refine hK.out _ _ (fun h => absurd h (by decide)) ?_;clear hK K;refine zbz (i:=19) (v:=?v15) rfl (by kernel_rfl) (by kernel_rfl) (by kernel_rfl) (fun _ _ _ h => h) (Or.inl ⟨by rfl,?hy15⟩) ?hr15
   case hy15 => (intro w' _;(try go_simp);(try (with_reducible rfl)))
   (try simp only [Act.put,za1,za2,za3]);refine zbz (i:=20) (v:=?v16) rfl (by kernel_rfl) (by kernel_rfl) (by kernel_rfl) (fun _ _ _ h => h) (Or.inl ⟨by rfl,?hy16⟩) ?hr16
   case hy16 => (intro w' _;(try go_simp);(try (with_reducible rfl)))
   (try simp only [Act.put,za1,za2,za3]);refine zdb (i:=21) (by kernel_rfl) rfl (fun K hK => ?_);go_simp;refine hK.out _ _ (fun h => absurd h (by decide)) ?_;clear hK K;refine zeb (by kernel_rfl) ?_ _;go_wp2;refine bodyPost_ret (results_none rfl _ _ _) rfl ?_;have q:=HF.done hgb;simp only [List.length_append,List.length_cons,List.length_nil,Nat.zero_add] at q;exact ⟨rfl,q⟩
  case h14b =>
   go_simp;refine hK.out _ _ (fun _ _ => zdh HF.hg _) ?_;clear hK K;replace HF:=HF.alloc (Obj.cells #[(.int .u64 x)] 37);have hb2:=blk_new W1 (Obj.cells #[(.int .u64 x)] 37);replace hb1:=zdh hb1 (Obj.cells #[(.int .u64 x)] 37)
   revert HF hb2 hb1
   generalize W1.alloc (Obj.cells #[(.int .u64 x)] 37) = W5,W1.heap.size = b2;intro HF hb2 hb1;refine zdb (i:=8) (by kernel_rfl) rfl (fun K hK => ?_);refine Kd.R_append_rows_step Kd.string (Rr:=fun p cs => cs = [.string p]) (w0:=w0) w0.heap.size (by rfl) (.tmp 20) (.tmp 22) 80 9 (.string ⟨#[]⟩) 16 rfl Tryz.underlying80 info9 rfl (by decide) (by omega) _ ns [s] (some ⟨b1,0,none⟩) 1 1 (fun _ => True) (fun _ => False) rfl rfl HF.r1 (box_reads hb1 rfl) (fun _ _ h => h) (fun _ h => h.elim) (fun _ _ => trivial) HF.hb HF.hb.size (by omega) ?_;intro v1 W6 hR hB hG _;obtain ⟨A',a',rfl⟩:=Kd.R_slice hR;(try simp only [Act.put,za1,za2,za3]);have HF':=HF.app1 hR hB hG;replace hb2:=box_grown hb2 HF.r1 (by decide) hG;refine hK.out _ _ (fun _ _ => HF'.hg) ?_;clear hK K hR hB hG HF;have HF:=HF';clear HF';refine zdb (i:=15) (by kernel_rfl) rfl (fun K hK => ?_);refine Kd.R_append_rows_step (Kd.int .u64) (Rr:=fun p cs => cs = [.int .u64 p]) (w0:=w0) w0.heap.size (by rfl) (.tmp 27) (.tmp 29) 23 37 (.int .u64 0) 8 rfl Tryz.underlying23 info37 rfl (by decide) (by omega) _ vs [x] (some ⟨b2,0,none⟩) 1 1 (fun _ => True) (fun _ => False) rfl rfl HF.r2 (box_reads hb2 rfl) (fun _ _ h => h) (fun _ h => h.elim) (fun _ _ => trivial) HF.hb HF.hb.size (by omega) ?_;intro v1 W7 hR hB hG _;obtain ⟨B',b',rfl⟩:=Kd.R_slice hR;(try simp only [Act.put,za1,za2,za3]);have HF':=HF.app2 hR hB hG;refine hK.out _ _ (fun _ _ => HF'.hg) ?_;clear hK K hR hB hG HF;have HF:=HF';clear HF';refine zbz (i:=16) (v:=?v17) rfl (by kernel_rfl) (by kernel_rfl) (by kernel_rfl) (fun _ _ _ h => h) (Or.inl ⟨by rfl,?hy17⟩) ?hr17
   case hy17 => (intro w' _;(try go_simp);(try (with_reducible rfl)))
   (try simp only [Act.put,za1,za2,za3]);refine zbz (i:=17) (v:=?v18) rfl (by kernel_rfl) (by kernel_rfl) (by kernel_rfl) (fun _ _ _ h => h) (Or.inl ⟨by rfl,?hy18⟩) ?hr18
   case hy18 => (intro w' _;(try go_simp);(try (with_reducible rfl)))
   (try simp only [Act.put,za1,za2,za3]);have z0:=(zbf HF.hg 0).trans rfl;have z1:=(zbf HF.hg 1).trans rfl;have f0:=zap HF.hg 0;have f1:=zap HF.hg 1;refine zdb (i:=18) (by kernel_rfl) rfl (fun K hK => ?_);go_simp;refine hK.out _ _ (fun h => absurd h (by decide)) ?_;clear hK K;refine zbz (i:=19) (v:=?v19) rfl (by kernel_rfl) (by kernel_rfl) (by kernel_rfl) (fun _ _ _ h => h) (Or.inl ⟨by rfl,?hy19⟩) ?hr19
   case hy19 => (intro w' _;(try go_simp);(try (with_reducible rfl)))
   (try simp only [Act.put,za1,za2,za3]);refine zbz (i:=20) (v:=?v20) rfl (by kernel_rfl) (by kernel_rfl) (by kernel_rfl) (fun _ _ _ h => h) (Or.inl ⟨by rfl,?hy20⟩) ?hr20
   case hy20 => (intro w' _;(try go_simp);(try (with_reducible rfl)))
   (try simp only [Act.put,za1,za2,za3]);refine zdb (i:=21) (by kernel_rfl) rfl (fun K hK => ?_);go_simp;refine hK.out _ _ (fun h => absurd h (by decide)) ?_;clear hK K;refine zeb (by kernel_rfl) ?_ _;go_wp2;refine bodyPost_ret (results_none rfl _ _ _) rfl ?_;have q:=HF.done hgb;simp only [List.length_append,List.length_cons,List.length_nil,Nat.zero_add] at q;exact ⟨rfl,q⟩
 case h14 =>
  go_simp;refine hK.out _ _ (fun _ _ => zdh HF.hg _) ?_;clear hK K;replace HF:=HF.alloc (Obj.cells #[(.int .u64 x)] 37);have hb2:=blk_new W (Obj.cells #[(.int .u64 x)] 37)
  revert HF hb2
  generalize W.alloc (Obj.cells #[(.int .u64 x)] 37) = W8,W.heap.size = b2;intro HF hb2;refine zdb (i:=7) (by kernel_rfl) rfl (fun K hK => ?_);go_simp;refine hK.out _ _ (fun _ _ => zdh HF.hg _) ?_;clear hK K;replace HF:=HF.alloc (Obj.cells #[(.string s)] 9);have hb1:=blk_new W8 (Obj.cells #[(.string s)] 9);replace hb2:=zdh hb2 (Obj.cells #[(.string s)] 9)
  revert HF hb1 hb2
  generalize W8.alloc (Obj.cells #[(.string s)] 9) = W9,W8.heap.size = b1;intro HF hb1 hb2;refine zdb (i:=8) (by kernel_rfl) rfl (fun K hK => ?_);refine Kd.R_append_rows_step Kd.string (Rr:=fun p cs => cs = [.string p]) (w0:=w0) w0.heap.size (by rfl) (.tmp 20) (.tmp 22) 80 9 (.string ⟨#[]⟩) 16 rfl Tryz.underlying80 info9 rfl (by decide) (by omega) _ ns [s] (some ⟨b1,0,none⟩) 1 1 (fun _ => True) (fun _ => False) rfl rfl HF.r1 (box_reads hb1 rfl) (fun _ _ h => h) (fun _ h => h.elim) (fun _ _ => trivial) HF.hb HF.hb.size (by omega) ?_;intro v1 W10 hR hB hG _;obtain ⟨A',a',rfl⟩:=Kd.R_slice hR;(try simp only [Act.put,za1,za2,za3]);have HF':=HF.app1 hR hB hG;replace hb2:=box_grown hb2 HF.r1 (by decide) hG;refine hK.out _ _ (fun _ _ => HF'.hg) ?_;clear hK K hR hB hG HF;have HF:=HF';clear HF';refine zdb (i:=15) (by kernel_rfl) rfl (fun K hK => ?_);refine Kd.R_append_rows_step (Kd.int .u64) (Rr:=fun p cs => cs = [.int .u64 p]) (w0:=w0) w0.heap.size (by rfl) (.tmp 27) (.tmp 29) 23 37 (.int .u64 0) 8 rfl Tryz.underlying23 info37 rfl (by decide) (by omega) _ vs [x] (some ⟨b2,0,none⟩) 1 1 (fun _ => True) (fun _ => False) rfl rfl HF.r2 (box_reads hb2 rfl) (fun _ _ h => h) (fun _ h => h.elim) (fun _ _ => trivial) HF.hb HF.hb.size (by omega) ?_;intro v1 W11 hR hB hG _;obtain ⟨B',b',rfl⟩:=Kd.R_slice hR;(try simp only [Act.put,za1,za2,za3]);have HF':=HF.app2 hR hB hG;refine hK.out _ _ (fun _ _ => HF'.hg) ?_;clear hK K hR hB hG HF;have HF:=HF';clear HF';refine zbz (i:=16) (v:=?v21) rfl (by kernel_rfl) (by kernel_rfl) (by kernel_rfl) (fun _ _ _ h => h) (Or.inl ⟨by rfl,?hy21⟩) ?hr21
  case hy21 => (intro w' _;(try go_simp);(try (with_reducible rfl)))
  (try simp only [Act.put,za1,za2,za3]);refine zbz (i:=17) (v:=?v22) rfl (by kernel_rfl) (by kernel_rfl) (by kernel_rfl) (fun _ _ _ h => h) (Or.inl ⟨by rfl,?hy22⟩) ?hr22
  case hy22 => (intro w' _;(try go_simp);(try (with_reducible rfl)))
  (try simp only [Act.put,za1,za2,za3]);have z0:=(zbf HF.hg 0).trans rfl;have z1:=(zbf HF.hg 1).trans rfl;have f0:=zap HF.hg 0;have f1:=zap HF.hg 1;refine zdb (i:=18) (by kernel_rfl) rfl (fun K hK => ?_);go_simp;refine hK.out _ _ (fun h => absurd h (by decide)) ?_;clear hK K;refine zbz (i:=19) (v:=?v23) rfl (by kernel_rfl) (by kernel_rfl) (by kernel_rfl) (fun _ _ _ h => h) (Or.inl ⟨by rfl,?hy23⟩) ?hr23
  case hy23 => (intro w' _;(try go_simp);(try (with_reducible rfl)))
  (try simp only [Act.put,za1,za2,za3]);refine zbz (i:=20) (v:=?v24) rfl (by kernel_rfl) (by kernel_rfl) (by kernel_rfl) (fun _ _ _ h => h) (Or.inl ⟨by rfl,?hy24⟩) ?hr24
  case hy24 => (intro w' _;(try go_simp);(try (with_reducible rfl)))
  (try simp only [Act.put,za1,za2,za3]);refine zdb (i:=21) (by kernel_rfl) rfl (fun K hK => ?_);go_simp;refine hK.out _ _ (fun h => absurd h (by decide)) ?_;clear hK K;refine zeb (by kernel_rfl) ?_ _;go_wp2;refine bodyPost_ret (results_none rfl _ _ _) rfl ?_;have q:=HF.done hgb;simp only [List.length_append,List.length_cons,List.length_nil,Nat.zero_add] at q;exact ⟨rfl,q⟩
end Go.Proofs.YtkgdhdjkpnalmaaGreatDoor.P
end
