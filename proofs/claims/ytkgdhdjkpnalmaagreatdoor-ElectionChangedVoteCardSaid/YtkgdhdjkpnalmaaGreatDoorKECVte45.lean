/- What is proved here: a part of the proof of ElectionChangedVote: Elb, Elx, Eas, Eaw. No conditions beside those that each theorem states. -/
import Derived.Test.YtkgdhdjkpnalmaaGreatDoorKECVte9
import Derived.Test.YtkgdhdjkpnalmaaGreatDoorKECVte29
import Derived.Test.YtkgdhdjkpnalmaaGreatDoorKECVte18
import Derived.Test.YtkgdhdjkpnalmaaGreatDoorKECVte44
import Derived.KernelRfl
set_option linter.unusedVariables false
set_option linter.unusedSimpArgs false
section
namespace Go.Proofs.YtkgdhdjkpnalmaaGreatDoor.P
open Go.RowKit Go.Proofs.YtkgdhdjkpnalmaaGreatDoorW.PrintWords Go.Proofs.YtkgdhdjkpnalmaaGreatDoorW.PrintLast Go.Proofs.YtkgdhdjkpnalmaaGreatDoorW.PrintMore
theorem bt_nat (b : List UInt8) (i : Nat) (h : i < b.length) : bt ⟨b.toArray⟩ (i : Int) = (b[i].toNat : Int):=by
 have hs : ((i : Int)).toNat < (ByteArray.mk b.toArray).size:=by show _ < b.toArray.size;simpa using h
 rw [← zd8 _ _ hs];rfl
theorem sz (b : List UInt8) : (ByteArray.mk b.toArray).size = b.length:=by show b.toArray.size = _;simp
theorem ba_toList (b : List UInt8) : (ByteArray.mk b.toArray).toList = b:=by
 have key : ∀ (s : ByteArray) (d : Nat) (i : Nat) (r : List UInt8),s.size - i = d→ByteArray.toList.loop s i r = r.reverse ++ s.data.toList.drop i:=by
  intro s d
  induction d with
  | zero =>
   intro i r h;rw [ByteArray.toList.loop,if_neg (by omega),List.drop_of_length_le (by show s.data.toList.length≤i;have : s.size = s.data.size:=rfl;simp;omega),List.append_nil]
  | succ d ih =>
   intro i r h
   have hi : i < s.data.toList.length:=by have : s.size = s.data.size:=rfl;simp;omega
   rw [ByteArray.toList.loop,if_pos (by omega),ih (i + 1) _ (by omega),List.drop_eq_getElem_cons hi];simp [ByteArray.get!];rw [getElem!_pos s.data i (by simpa using hi)]
 have:=key ⟨b.toArray⟩ _ 0 [] rfl
 rw [ByteArray.toList,this];simp
theorem ext_eq (b : List UInt8) (i j : Nat) : (ByteArray.mk b.toArray).extract i j = ⟨((b.drop i).take (j - i)).toArray⟩:=by
 apply ByteArray.ext;simp
theorem ext_rest (b : List UInt8) (i : Nat) : (ByteArray.mk b.toArray).extract i (ByteArray.mk b.toArray).size = ⟨(b.drop i).toArray⟩:=by
 rw [ext_eq,sz,List.take_of_length_le (by simp)]
theorem ext_front (a r : List UInt8) : (ByteArray.mk (a ++ r).toArray).extract 0 a.length = ⟨a.toArray⟩:=by
 rw [ext_eq];simp
theorem w64s {i : Nat} (h : i < 1000000) : wrap64 ((i : Int) + 1) = ((i + 1 : Nat) : Int):=by unfold wrap64;omega
theorem Ev.pos {α : Type} {c : Prop} [Decidable c] {g f : Nat→Option α} {r : α} (hc : c) (h : Ev g r) : Ev (fun k => if c then g k else f k) r:=Ev.congr (fun _ => if_pos hc) h
theorem Ev.neg {α : Type} {c : Prop} [Decidable c] {g f : Nat→Option α} {r : α} (hc : ¬ c) (h : Ev f r) : Ev (fun k => if c then g k else f k) r:=Ev.congr (fun _ => if_neg hc) h
theorem Ev.val {α β : Type} {a : Option α} {f : Nat→α→Option β} {v : α} {r : β} (h : a = some v) (k : Ev (fun n => f n v) r) : Ev (fun n => a.bind (f n)) r:=by
 subst h;exact k
theorem drop_cons {l s : List UInt8} {i : Nat} {b : UInt8} (h : l.drop i = b :: s) : ∃ hi : i < l.length,l[i] = b∧l.drop (i + 1) = s:=by
 have hi : i < l.length:=by
  rcases Nat.lt_or_ge i l.length with h' | h'
  ·exact h'
  ·rw [List.drop_of_length_le h'] at h;cases h
 rw [List.drop_eq_getElem_cons hi] at h
 injection h with h1 h2
 exact ⟨hi,h1,h2⟩
def isD (b : UInt8) : Bool:=decide (48≤b.toNat) && decide (b.toNat≤57)
def isL (b : UInt8) : Bool:=(decide (97≤b.toNat) && decide (b.toNat≤122)) || (decide (65≤b.toNat) && decide (b.toNat≤90))
def isW (b : UInt8) : Bool:=isD b || isL b || decide (b.toNat = 95)
def isB (b : UInt8) : Bool:=decide (b.toNat = 32) || decide (b.toNat = 10)
theorem digit_eq (b : UInt8) : zcl.f (b.toNat : Int) = some (isD b):=by
 unfold zcl.f isD
 by_cases h : 48≤b.toNat
 ·rw [if_pos (by omega)];simp only [h,decide_true,Bool.true_and];exact congrArg some (decide_eq_decide.2 (by omega))
 ·rw [if_neg (by omega)];simp [h]
theorem letter_eq (b : UInt8) : zb3.f (b.toNat : Int) = some (isL b):=by
 unfold zb3.f isL
 by_cases h1 : 97≤b.toNat
 ·rw [if_pos (by omega)]
  by_cases h2 : b.toNat≤122
  ·rw [if_pos (by omega)];simp [h1,h2]
  ·rw [if_neg (by omega),if_pos (by omega)];simp only [h1,h2,decide_true,decide_false,Bool.and_false,Bool.false_or];exact congrArg some (by rw [decide_eq_false (by omega)];simp;omega)
 ·rw [if_neg (by omega)]
  by_cases h2 : 65≤b.toNat
  ·rw [if_pos (by omega)];simp only [h1,h2,decide_true,decide_false,Bool.false_and,Bool.false_or,Bool.true_and];exact congrArg some (decide_eq_decide.2 (by omega))
  ·rw [if_neg (by omega)];simp [h1,h2]
theorem long_ev (flag : Bool) (l : List UInt8) (hl : l.length < 100000) : ∀ (t r : List UInt8) (i : Nat),l.drop i = t ++ r→(∀ b ∈ t,(if flag = true then isD b else isW b) = true)→(∀ b s,r = b :: s→(if flag = true then isD b else isW b) = false)→Ev (fun k => zas.l0 k ⟨l.toArray⟩ flag (i : Int)) ((i + t.length : Nat) : Int)
 | [],r,i,h,_,hr => by
  refine Ev.step (f:=fun _ => some ((i : Nat) : Int)) (fun k => ?_) (Ev.now _);rw [zas.l0]
  rcases r with _ | ⟨b,s⟩
  ·have hi : l.length≤i:=by simpa using h
   rw [if_neg yq179]
  ·obtain ⟨hi,hb,_⟩:=drop_cons h
   rw [if_pos yq179,if_pos (by omega),bt_nat _ _ hi,hb,digit_eq];simp only [Option.bind_some];have hp:=hr b s rfl;cases flag;(· simp only [isW,Bool.or_eq_false_iff,decide_eq_false_iff_not,if_neg (show ¬ (false = true) by decide)] at hp;obtain ⟨⟨h1,h2⟩,h3⟩:=hp;rw [h1,if_neg (by decide),if_neg (by decide),letter_eq,h2];simp only [Option.bind_some];rw [if_neg (by decide),if_neg (by omega)]);(· rw [if_pos rfl] at hp;rw [hp,if_neg (by decide),if_pos rfl])
 | b :: t,r,i,h,ht,hr => by
  obtain ⟨hi,hb,hd⟩:=drop_cons (s:=t ++ r) (by simpa using h);have ih:=long_ev flag l hl t r (i + 1) hd (fun b hb => ht b (List.mem_cons_of_mem _ hb)) hr;rw [show i + (b :: t).length = i + 1 + t.length by simp;omega];refine Ev.step (fun k => ?_) ih;rw [zas.l0,if_pos yq179,if_pos (by omega),bt_nat _ _ hi,hb,digit_eq];simp only [Option.bind_some];have hp:=ht b (List.mem_cons_self ..);rw [w64s (by omega)];cases flag
  ·rw [if_neg (by decide)] at hp
   by_cases h1 : isD b = true
   ·rw [if_pos h1]
   ·rw [if_neg h1,if_neg (by decide),letter_eq]
    simp only [Option.bind_some]
    by_cases h2 : isL b = true
    ·rw [if_pos h2]
    ·rw [if_neg h2,if_pos]
     simp only [isW,Bool.or_eq_true,decide_eq_true_eq] at hp
     rcases hp with (hp | hp) | hp
     ·exact absurd hp h1
     ·exact absurd hp h2
     ·omega
  ·rw [if_pos rfl] at hp
   rw [if_pos hp]
theorem blank_ev (l : List UInt8) (hl : l.length < 100000) : ∀ (t r : List UInt8) (i : Nat),l.drop i = t ++ r→(∀ b ∈ t,isB b = true)→(∀ b s,r = b :: s→isB b = false∧b.toNat≠9∧b.toNat≠47)→Ev (fun k => zal.l0 k ⟨l.toArray⟩ (i : Int)) ((i + t.length : Nat) : Int)
 | [],r,i,h,_,hr => by
  rcases r with _ | ⟨b,s⟩
  ·have hi : l.length≤i:=by simpa using h
   refine Ev.step (f:=fun _ => some ((i : Nat) : Int)) (fun k => ?_) (Ev.now _);rw [zal.l0,if_neg yq179]
  ·obtain ⟨hi,hb,_⟩:=drop_cons h
   obtain ⟨h1,h2,h3⟩:=hr b s rfl;simp only [isB,Bool.or_eq_false_iff,decide_eq_false_iff_not] at h1;have j2 : Ev (fun k => zal.j2 k (i : Int) false) (i : Int):=Ev.step (f:=fun _ => some ((i : Nat) : Int)) (fun k => by rw [zal.j2,if_neg (by decide)]) (Ev.now _)
   have j1 : Ev (fun k => zal.j1 k ⟨l.toArray⟩ (i : Int) false) (i : Int):=by
    refine Ev.step (fun k => ?_) j2;rw [zal.j1,if_neg (by decide),w64s (by omega)]
    by_cases hn : i + 1 < l.length
    ·rw [if_pos yq179,if_pos (by omega),show wrap64 ((i : Int) + 2) = ((i + 2 : Nat) : Int) by unfold wrap64;omega,if_pos (by omega),if_pos yq179,Int.toNat_natCast,Int.toNat_natCast,ext_eq,ba_toList,h]
     have e : ((([] ++ b :: s : List UInt8).take (i + 2 - i)) == ([47,47] : List UInt8)) = false:=by
      rw [show i + 2 - i = 2 by omega];refine beq_eq_false_iff_ne.2 (fun e => ?_)
      rcases s with _ | ⟨c,s⟩
      ·simp at e
      ·simp at e
       exact h3 (by rw [e.1];rfl)
     rw [e]
    ·rw [if_neg yq179]
   refine Ev.step (fun k => ?_) j1;rw [zal.l0,if_pos yq179,if_pos (by omega),bt_nat _ _ hi,hb,if_neg (by omega),if_neg (by omega)];rw [show ((b.toNat : Int) == 10) = false from beq_eq_false_iff_ne.2 (by omega)]
 | b :: t,r,i,h,ht,hr => by
  obtain ⟨hi,hb,hd⟩:=drop_cons (s:=t ++ r) (by simpa using h);have ih:=blank_ev l hl t r (i + 1) hd (fun b hb => ht b (List.mem_cons_of_mem _ hb)) hr;rw [show i + (b :: t).length = i + 1 + t.length by simp;omega]
  have j1 : Ev (fun k => zal.j1 k ⟨l.toArray⟩ (i : Int) true) ((i + 1 + t.length : Nat) : Int):=by
   refine Ev.step (fun k => ?_) ih;rw [zal.j1,if_pos rfl,w64s (by omega)]
  refine Ev.step (fun k => ?_) j1;rw [zal.l0,if_pos yq179,if_pos (by omega),bt_nat _ _ hi,hb];have hp:=ht b (List.mem_cons_self ..);simp only [isB,Bool.or_eq_true,decide_eq_true_eq] at hp
  by_cases h1 : b.toNat = 32
  ·rw [if_pos (by omega)]
  ·rw [if_neg (by omega),if_neg (by omega),show ((b.toNat : Int) == 10) = true from beq_iff_eq.2 (by omega)]
theorem sign_one (c : UInt8) (r : List UInt8) : ∀ (k : Nat) (x : ByteArray) (i : Int),zaw.l0 k ⟨(c :: r).toArray⟩ x i = zaw.l0 k ⟨[c].toArray⟩ x i
 | 0,_,_ => by rw [zaw.l0,zaw.l0]
 | k + 1,x,i => by
  have e1 : bt ⟨(c :: r).toArray⟩ 0 = (c.toNat : Int):=bt_nat (c :: r) 0 (by simp);have e2 : bt ⟨[c].toArray⟩ 0 = (c.toNat : Int):=bt_nat [c] 0 (by simp)
  have s1 : (0 : Int) < ((ByteArray.mk (c :: r).toArray).size : Int):=by rw [sz];simp
  have s2 : (0 : Int) < ((ByteArray.mk [c].toArray).size : Int):=by rw [sz];simp
  rw [zaw.l0,zaw.l0,e1,e2,sign_one c r k];simp only [s1,s2,if_true]
def tk (c : UInt8) (tok : List UInt8) (p : Nat) : Option S92 :=
 if isD c = true then (match zbs.f 60 ⟨tok.toArray⟩ with | some (v,true) => some ⟨2,⟨tok.toArray⟩,v,p⟩ | _ => none)
 else if isL c = true then (if tok.length≤20 then (match zbg.f 60 ⟨tok.toArray⟩ with | some true => some ⟨3,⟨tok.toArray⟩,0,p⟩ | some false => some ⟨1,⟨tok.toArray⟩,0,p⟩ | none => none) else none)
 else if tok.length = 2 then some ⟨4,⟨tok.toArray⟩,0,p⟩ else (match zaw.l0 60 ⟨[c].toArray⟩ ⟨#[40,41,91,93,123,125,59,44,58,61,43,45,42,60,38,124,33,63]⟩ 0 with | some 1 => some ⟨4,⟨tok.toArray⟩,0,p⟩ | _ => none)
def cutT (c : UInt8) (s : List UInt8) : List UInt8:=if isD c = true then (c :: s).takeWhile isD else if isL c = true then (c :: s).takeWhile isW else if c = 61∧s.head? = some 61 then [61,61] else [c]
def fair : List UInt8→Bool
 | [] => true
 | b :: _ => !isB b && decide (b.toNat≠9) && decide (b.toNat≠47)
def lexT : Nat→Nat→List UInt8→Option (List S92)
 | 0,_,_ => none
 | _ + 1,_,[] => some []
 | f + 1,p,c :: s =>
  (tk c (cutT c s) p).bind fun t =>
   if fair (((c :: s).drop (cutT c s).length).dropWhile isB) = true then (lexT f (p + (cutT c s).length + (((c :: s).drop (cutT c s).length).takeWhile isB).length) (((c :: s).drop (cutT c s).length).dropWhile isB)).bind fun ts => some (t :: ts) else none
theorem toks_len (p : UInt8→Bool) (l : List UInt8) : l.takeWhile p ++ l.drop (l.takeWhile p).length = l:=by
 conv => rhs;rw [← List.takeWhile_append_dropWhile (p:=p) (l:=l)]
 congr 1
 have e:=congrArg (List.drop (l.takeWhile p).length) (List.takeWhile_append_dropWhile (p:=p) (l:=l));rw [List.drop_left] at e;exact e.symm
theorem mem_tw {p : UInt8→Bool} : ∀ {l : List UInt8} {b : UInt8},b ∈ l.takeWhile p→p b = true
 | [],_,h => by simp at h
 | c :: l,b,h => by
  rw [List.takeWhile_cons] at h
  split at h
  ·rename_i hc
   rcases List.mem_cons.1 h with rfl | h
   ·exact hc
   ·exact mem_tw h
  ·cases h
theorem drop_head (p : UInt8→Bool) (l : List UInt8) (b : UInt8) (s : List UInt8) (h : l.drop (l.takeWhile p).length = b :: s) : p b = false:=by
 have e : l.dropWhile p = b :: s:=by
  have:=toks_len p l;rw [h] at this;have e2:=List.takeWhile_append_dropWhile (p:=p) (l:=l);exact List.append_cancel_left (e2.trans this.symm)
 have:=List.head?_dropWhile_not (p:=p) (l:=l);rw [e] at this
 simpa using this
theorem one_ev (c : UInt8) (s : List UInt8) (hl : (c :: s).length < 100000) (p : Nat) (t : S92) (ht : tk c (cutT c s) p = some t) :
  (cutT c s) ++ (c :: s).drop (cutT c s).length = c :: s∧t.f3 = p∧Ev (fun k => zcp.f k ⟨(c :: s).toArray⟩) (t.f0,t.f1,t.f2,0,((cutT c s).length : Int),0):=by
 have h0 : (0 : Int) < ((ByteArray.mk (c :: s).toArray).size : Int):=by rw [sz];simp
 have b0 : bt ⟨(c :: s).toArray⟩ 0 = (c.toNat : Int):=bt_nat (c :: s) 0 (by simp)
 have hb : 0 < (c :: s).length:=by simp
 unfold tk at ht
 by_cases h1 : isD c = true
 ·have ec : cutT c s = (c :: s).takeWhile isD:=if_pos h1
  rw [if_pos h1,ec] at ht;have hc:=toks_len isD (c :: s);have L:=long_ev true (c :: s) hl ((c :: s).takeWhile isD) _ 0 (by simpa using hc.symm) (fun b hb => by rw [if_pos rfl];exact (mem_tw hb)) (fun b r h => by rw [if_pos rfl];exact drop_head isD _ b r h);rw [ec];generalize (c :: s).takeWhile isD = tok at *;rw [Nat.zero_add] at L
  have htl : tok.length≤(c :: s).length:=by rw [← hc];simp
  have hf : (ByteArray.mk (c :: s).toArray).extract 0 tok.length = ⟨tok.toArray⟩:=by
   conv => lhs;rw [← hc]
   exact ext_front _ _
  split at ht
  ·rename_i v hv
   obtain rfl:=Option.some.inj ht;refine ⟨hc,rfl,?_⟩;unfold zcp.f;refine Ev.pos h0 (Ev.val (by rw [b0];exact digit_eq c) (Ev.pos h1 (Ev.bind L (Ev.pos (by omega) (Ev.pos yq179 ?_)))));rw [Int.toNat_natCast,hf];exact Ev.bind (Ev.of (fun k => zbs.mono _ k) hv) (Ev.pos rfl (Ev.now _))
  ·cases ht
 ·rw [if_neg h1] at ht
  by_cases h2 : isL c = true
  ·have ec : cutT c s = (c :: s).takeWhile isW:=(if_neg h1).trans (if_pos h2)
   rw [if_pos h2,ec] at ht;have hc:=toks_len isW (c :: s);have L:=long_ev false (c :: s) hl ((c :: s).takeWhile isW) _ 0 (by simpa using hc.symm) (fun b hb => by rw [if_neg (by decide)];exact (mem_tw hb)) (fun b r h => by rw [if_neg (by decide)];exact drop_head isW _ b r h);rw [ec];generalize (c :: s).takeWhile isW = tok at *;rw [Nat.zero_add] at L
   have htl : tok.length≤(c :: s).length:=by rw [← hc];simp
   have hf : (ByteArray.mk (c :: s).toArray).extract 0 tok.length = ⟨tok.toArray⟩:=by
    conv => lhs;rw [← hc]
    exact ext_front _ _
   split at ht
   ·rename_i h20
    have pre : ∀ {v : Bool} {r : Int × ByteArray × Int × Int × Int × Int},zbg.f 60 ⟨tok.toArray⟩ = some v→Ev (fun k => if v = true then (some ((3 : Int),(⟨tok.toArray⟩ : ByteArray),(0 : Int),(0 : Int),((tok.length : Nat) : Int),(0 : Int))) else (some (1,⟨tok.toArray⟩,0,0,((tok.length : Nat) : Int),0))) r→Ev (fun k => zcp.f k ⟨(c :: s).toArray⟩) r:=by
     intro v r hv hr;unfold zcp.f;refine Ev.pos h0 (Ev.val (by rw [b0];exact digit_eq c) (Ev.neg h1 (Ev.val (by rw [b0];exact letter_eq c) (Ev.pos h2 (Ev.bind L (Ev.neg (by omega) (Ev.pos (by omega) (Ev.pos yq179 ?_))))))));rw [Int.toNat_natCast,hf];exact Ev.bind (Ev.of (fun k => zbg.mono _ k) hv) hr
    split at ht
    ·rename_i hv
     obtain rfl:=Option.some.inj ht;exact ⟨hc,rfl,pre hv (Ev.pos rfl (Ev.now _))⟩
    ·rename_i hv
     obtain rfl:=Option.some.inj ht;exact ⟨hc,rfl,pre hv (Ev.neg (by decide) (Ev.now _))⟩
    ·cases ht
   ·cases ht
  ·rw [if_neg h2] at ht
   have ec : cutT c s = if c = 61∧s.head? = some 61 then [61,61] else [c]:=(if_neg h1).trans (if_neg h2)
   have pre : ∀ {tok : List UInt8} (hc : tok ++ (c :: s).drop tok.length = c :: s),Ev (fun k => zaw.f k ⟨(c :: s).toArray⟩) (tok.length : Int)→tok.length≠0→Ev (fun k => zcp.f k ⟨(c :: s).toArray⟩) (4,⟨tok.toArray⟩,0,0,(tok.length : Int),0):=by
    intro tok hc hs hn
    have htl : tok.length≤(c :: s).length:=by rw [← hc];simp
    have hf : (ByteArray.mk (c :: s).toArray).extract 0 tok.length = ⟨tok.toArray⟩:=by
     conv => lhs;rw [← hc]
     exact ext_front _ _
    unfold zcp.f;refine Ev.pos h0 (Ev.val (by rw [b0];exact digit_eq c) (Ev.neg h1 (Ev.val (by rw [b0];exact letter_eq c) (Ev.neg h2 (Ev.bind hs (Ev.neg (by omega) (Ev.pos (by omega) (Ev.pos yq179 ?_))))))));rw [Int.toNat_natCast,hf];exact Ev.now _
   by_cases h3 : c = 61∧s.head? = some 61
   ·rw [if_pos h3] at ec
    obtain ⟨rfl,h3⟩:=h3
    rcases s with _ | ⟨d,s⟩
    ·cases h3
    ·obtain rfl : d = 61:=by simpa using h3
     rw [ec,if_pos (by rfl)] at ht;obtain rfl:=Option.some.inj ht;rw [ec];refine ⟨rfl,rfl,pre (tok:=[61,61]) rfl ?_ (by simp)⟩;unfold zaw.f;refine Ev.pos (by rw [sz];simp;omega) (Ev.pos (by decide) (Ev.pos (by rw [sz];simp;omega) ?_))
     have e : ((((ByteArray.mk (61 :: 61 :: s : List UInt8).toArray)).extract 0 2).toList == ([61,61] : List UInt8)) = true:=by
      rw [ext_eq,ba_toList];rfl
     rw [e];exact Ev.step (f:=fun _ => some 2) (fun k => by rw [zaw.j0,if_pos rfl]) (Ev.now _)
   ·rw [if_neg h3] at ec
    rw [ec,if_neg (show ¬ (([c] : List UInt8).length = 2) by simp)] at ht;rw [ec]
    split at ht
    ·rename_i hv
     obtain rfl:=Option.some.inj ht;refine ⟨rfl,rfl,pre (tok:=[c]) rfl ?_ (by simp)⟩
     have L0 : Ev (fun k => zaw.l0 k ⟨(c :: s).toArray⟩ ⟨#[40,41,91,93,123,125,59,44,58,61,43,45,42,60,38,124,33,63]⟩ 0) 1:=by
      refine Ev.congr (fun k => sign_one c s k _ _) (Ev.of (fun k => ?_) hv);exact (zaw.mono_l k).2 _ _ _
     have J0 : Ev (fun k => zaw.j0 k ⟨(c :: s).toArray⟩ false) 1:=Ev.step (fun k => by rw [zaw.j0,if_neg (by decide)]) L0;unfold zaw.f
     by_cases hn : 0 < s.length
     ·refine Ev.pos (by rw [sz];simp;omega) (Ev.pos (by decide) (Ev.pos (by rw [sz];simp;omega) ?_))
      have e : ((((ByteArray.mk (c :: s : List UInt8).toArray)).extract 0 2).toList == ([61,61] : List UInt8)) = false:=by
       rw [ext_eq,ba_toList];refine beq_eq_false_iff_ne.2 (fun e => h3 ?_)
       rcases s with _ | ⟨d,s⟩
       ·simp at hn
       ·simp at e
        exact ⟨e.1,by simp [e.2]⟩
      rw [e];exact J0
     ·refine Ev.neg (by rw [sz];simp;omega) J0
    ·cases ht
theorem lex_loop (L : List UInt8) (hL : L.length < 20000) : ∀ (f p : Nat) (l : List UInt8) (acc ts : List S92),L.drop p = l→p≤L.length→acc.length + l.length≤20000→lexT f p l = some ts→Ev (fun k => zbt.l0 k ⟨L.toArray⟩ acc (p : Int)) (acc ++ ts,0,0)
 | 0,_,_,_,_,_,_,_,h => by simp [lexT] at h
 | f + 1,p,[],acc,ts,hd,hp,_,h => by
  obtain rfl:=Option.some.inj (show some [] = some ts by simpa [lexT] using h)
  have : L.length≤p:=by simpa using hd
  refine Ev.step (f:=fun _ => some (acc ++ [],0,0)) (fun k => ?_) (Ev.now _);rw [zbt.l0,if_neg yq179,List.append_nil]
 | f + 1,p,c :: s,acc,ts,hd,hp,ha,h => by
  rw [lexT] at h;obtain ⟨t,ht,h⟩:=Option.bind_eq_some_iff.1 h
  split at h
  case isFalse => cases h
  rename_i hfair
  obtain ⟨ts',hts,h⟩:=Option.bind_eq_some_iff.1 h;obtain rfl:=Option.some.inj h
  have hll : (c :: s).length≤L.length:=by rw [← hd];simp
  have hpl : p + (c :: s).length = L.length:=by
   have:=congrArg List.length hd;rw [List.length_drop] at this
   have h1 : 0 < (c :: s).length:=by simp
   omega
  obtain ⟨hc,h3,hone⟩:=one_ev c s (by omega) p t ht;have hr : ((c :: s).drop (cutT c s).length).takeWhile isB ++ ((c :: s).drop (cutT c s).length).dropWhile isB = (c :: s).drop (cutT c s).length:=List.takeWhile_append_dropWhile
  have hcl : 0 < (cutT c s).length:=by
   unfold cutT
   split
   ·rename_i h1;simp [List.takeWhile_cons,h1]
   ·split
    ·rename_i h1;simp [List.takeWhile_cons,isW,h1]
    ·split <;> simp
  generalize hws : ((c :: s).drop (cutT c s).length).takeWhile isB = ws at *;generalize hr' : ((c :: s).drop (cutT c s).length).dropWhile isB = r' at *
  have hwb : ∀ b ∈ ws,isB b = true:=fun b hb => by rw [← hws] at hb;exact mem_tw hb
  have hlen : (cutT c s).length + ws.length + r'.length = (c :: s).length:=by
   have e1:=congrArg List.length hc;have e2:=congrArg List.length hr;simp only [List.length_append] at e1 e2
   omega
  have hd2 : L.drop (p + (cutT c s).length) = ws ++ r':=by
   rw [← List.drop_drop,hd,hr]
  have hd3 : L.drop (p + (cutT c s).length + ws.length) = r':=by
   rw [← List.drop_drop,hd2];simp
  have ih:=lex_loop L hL f (p + (cutT c s).length + ws.length) r' (acc ++ [t]) ts' hd3 (by omega) (by simp;omega) hts
  have hb:=blank_ev (ws ++ r') (by rw [← hd2];simp;omega) ws r' 0 rfl hwb (fun b r h => by
   subst h;simp only [fair,Bool.and_eq_true,Bool.not_eq_true',decide_eq_true_eq] at hfair
   exact ⟨hfair.1.1,hfair.1.2,hfair.2⟩)
  rw [Nat.zero_add] at hb
  have hx : (ByteArray.mk L.toArray).extract p (ByteArray.mk L.toArray).size = ⟨(c :: s).toArray⟩:=by rw [ext_rest,hd]
  have hy : (ByteArray.mk L.toArray).extract (p + (cutT c s).length) (ByteArray.mk L.toArray).size = ⟨(ws ++ r').toArray⟩:=by rw [ext_rest,hd2]
  have w1 : wrap64 ((p : Int) + ((cutT c s).length : Int)) = ((p + (cutT c s).length : Nat) : Int):=by unfold wrap64;omega
  have w2 : wrap64 (((p + (cutT c s).length : Nat) : Int) + ((ws.length : Nat) : Int)) = ((p + (cutT c s).length + ws.length : Nat) : Int):=by unfold wrap64;omega
  refine Ev.step (f:=fun k => (zcp.f k ⟨(c :: s).toArray⟩).bind fun bt447 => (if bt447.2.2.2.2.2 = 0 then (if acc.length < 3518437208883 then (if 0≤(wrap64 ((p : Int) + bt447.2.2.2.2.1)) then (if (wrap64 ((p : Int) + bt447.2.2.2.2.1))≤((ByteArray.mk L.toArray).size : Int) then ((zal.f k ((ByteArray.mk L.toArray).extract ((wrap64 ((p : Int) + bt447.2.2.2.2.1)) : Int).toNat (ByteArray.mk L.toArray).size)).bind fun t457 => (zbt.l0 k ⟨L.toArray⟩ (acc ++ [(⟨bt447.1,bt447.2.1,bt447.2.2.1,(p : Int)⟩ : S92)]) (wrap64 ((wrap64 ((p : Int) + bt447.2.2.2.2.1)) + t457)))) else (none)) else (none)) else (none)) else (none))) (fun k => ?_) ?_;(· rw [zbt.l0,if_pos yq179,if_pos (by omega),if_pos yq179,Int.toNat_natCast,hx])
  ·refine Ev.bind hone ?_
   dsimp only
   rw [w1,Int.toNat_natCast,hy];refine Ev.pos rfl (Ev.pos (by omega) (Ev.pos (by omega) (Ev.pos yq179 (Ev.bind (a:=((ws.length : Nat) : Int)) hb ?_))));rw [w2,← h3];have et : (⟨t.f0,t.f1,t.f2,t.f3⟩ : S92) = t:=rfl;rw [et];rw [show acc ++ t :: ts' = acc ++ [t] ++ ts' by simp];exact ih
theorem lex_ok (L : List UInt8) (hL : L.length < 20000) (hf : fair L = true) (f : Nat) (ts : List S92) (h : lexT f 0 L = some ts) : Ev (fun k => zbt.f k ⟨L.toArray⟩) (ts,0,0):=by
 have hb:=blank_ev L (by omega) [] L 0 rfl (fun b hb => by cases hb) (fun b r h => by
  subst h;simp only [fair,Bool.and_eq_true,Bool.not_eq_true',decide_eq_true_eq] at hf
  exact ⟨hf.1.1,hf.1.2,hf.2⟩)
 have hl:=lex_loop L hL f 0 L [] ts rfl (by omega) (by simp;omega) h;unfold zbt.f;exact Ev.neg yq179 (Ev.bind hb hl)
abbrev EXP:=S117
abbrev STM:=S114
abbrev INP:=S50
def nameB (i : Nat) : ByteArray:=⟨((118 : UInt8) :: decB i).toArray⟩
def numE (v : Int) : EXP:=⟨1,0,v,⟨#[]⟩,[]⟩
def varE (i : Nat) : EXP:=⟨2,0,0,nameB i,[]⟩
def leafE (c i : Nat) : EXP:=⟨6,0,0,⟨#[]⟩,[⟨4,5,0,⟨#[]⟩,[varE i,numE c]⟩,numE 1,numE 0]⟩
def cntE (c : Nat) : Nat→Nat→Nat→EXP
 | 0,_,_ => numE 0
 | k + 1,fr,tt => if fr = tt then leafE c fr else ⟨4,1,0,⟨#[]⟩,[cntE c k fr ((fr + tt) / 2),cntE c k ((fr + tt) / 2 + 1) tt]⟩
def insE (w n : Nat) : List INP:=(List.range n).map fun i => ⟨nameB (i + 1),((i + 1 : Nat) : Int),(w : Int),0⟩
def bodyE (n c : Nat) : List STM:=(List.range c).map fun j => ⟨5,⟨#[]⟩,[cntE j 13 1 n],[],[]⟩
def tk43 : List S92:=(lexT 400 0 (progL 4 3)).getD []
set_option maxRecDepth 100000 in
theorem aw_lex : lexT 400 0 (progL 4 3) = some tk43:=by kernel_rfl
set_option maxRecDepth 100000 in
theorem aw_len : tk43.length = 169:=by kernel_rfl
set_option maxRecDepth 100000 in
theorem aw_parse : zae.f 80 tk43 0 false = some (insE 2 4,[],bodyE 4 3,169,false):=by kernel_rfl
set_option maxRecDepth 100000 in
theorem aw_valid : zbi.f 80 (insE 2 4) [] (bodyE 4 3) = some true:=by kernel_rfl
set_option maxRecDepth 100000 in
theorem aw_check : zcx.f 80 (insE 2 4) [] (bodyE 4 3) = some 0:=by kernel_rfl
set_option maxRecDepth 100000 in
theorem aw_fit : za8.f 80 (insE 2 4) [] (bodyE 4 3) [[2],[0],[2],[3]] = some true:=by kernel_rfl
set_option maxRecDepth 100000 in
theorem aw_ins : insOk 80 (insE 2 4) [[2],[0],[2],[3]] = true:=by kernel_rfl
set_option maxRecDepth 100000 in
theorem aw_outs : outs 80 ((insE 2 4).map (·.f0)) (heads [[2],[0],[2],[3]] 4) (bodyE 4 3) = some [1,0,2]:=by kernel_rfl
theorem aw_run : zck.f 80 (insE 2 4) [] (bodyE 4 3) [[2],[0],[2],[3]] = some ([1,0,2],0):=by
 unfold zck.f;rw [if_pos ⟨⟨aw_check,aw_fit⟩,⟨by decide,by decide,by decide,by decide,by decide⟩,aw_ins⟩]
 have e : (insE 2 4).length = 4:=by decide
 rw [e,aw_outs];rfl
set_option maxRecDepth 100000 in
theorem aw_plen : (progL 4 3).length = 335:=by kernel_rfl
set_option maxRecDepth 100000 in
theorem aw_fair : fair (progL 4 3) = true:=by kernel_rfl
theorem aw_prog : Ev (fun k => zb9.f k ⟨(progL 4 3).toArray⟩) (insE 2 4,[],bodyE 4 3,0,0):=by
 unfold zb9.f;refine Ev.bind (lex_ok (progL 4 3) (by rw [aw_plen];omega) aw_fair 400 tk43 aw_lex) (Ev.pos rfl (Ev.bind (Ev.of (fun k => zae.mono _ _ _ k) aw_parse) (Ev.neg (by decide) (Ev.neg ?_ (Ev.bind (Ev.of (fun k => zbi.mono _ _ _ k) aw_valid) (Ev.pos rfl (Ev.now _)))))))
 show ¬ ((169 : Int) < ((tk43.length : Nat) : Int))
 rw [aw_len]
 decide
theorem aw_w1 : zao.f 80 [1,0,2] [1,0,2] = some true:=by kernel_rfl
theorem aw_tally : election_Tally.f 80 [2,0,2,3] 3 = some [1,0,2]:=by kernel_rfl
theorem awake_ev : Ev (fun k => zbh.f k) true:=by
 have p1 : election_Program.f 4 3 = some (⟨(progL 4 3).toArray⟩,0):=by
  unfold election_Program.f;rw [if_neg (by decide)];rfl
 have p2 : election_Program.f 4 9 = some (⟨#[]⟩,2):=by
  unfold election_Program.f;rw [if_pos (by decide)]
 have hw:=Ev.of (fun k => zao.mono _ _ k) aw_w1;unfold zbh.f;refine Ev.val p1 (Ev.bind aw_prog (Ev.pos rfl ?_))
 have e0 : (((0 : Int) != 0) : Bool) = false:=by decide
 show Ev (fun k => zbh.j0 k ((0 : Int) != 0) (insE 2 4) [] (bodyE 4 3)) true
 rw [e0];refine Ev.step (fun k => by rw [zbh.j0,if_neg (by decide)]) ?_;exact Ev.bind (Ev.of (fun k => zck.mono _ _ _ _ k) aw_run) (Ev.val p2 (Ev.pos rfl (Ev.bind hw (Ev.pos rfl (Ev.bind (Ev.of (fun k => election_Tally.mono _ _ k) aw_tally) (Ev.bind hw (Ev.pos rfl (Ev.now _))))))))
theorem zbh.calls (k : Nat) (r : Bool) (w : World) (h : zbh.f k = some r) :
  Calls Tryz.prog 14 #[] w fun e w' => e = .returned (.bool r)∧Below w.heap.size w w':=by
 obtain ⟨K,hK⟩:=awake_ev;have h1:=hK (max K k) (Nat.le_max_left _ _);have h2:=at_rounds (g:=fun k => zbh.f k) (fun k => zbh.mono k) (Nat.le_max_right K k) h;exact zbh.callsT k r w (Option.some.inj (h2.symm.trans h1)) h
end Go.Proofs.YtkgdhdjkpnalmaaGreatDoor.P
end
