/- What is proved here: a part of the proof of ElectionChangedVote: Opn. No conditions beside those that each theorem states. -/
import Derived.Test.YtkgdhdjkpnalmaaGreatDoorKECVte0
import Derived.ChangeArms
import Derived.ChangeSlices
import Derived.SizedLaws
import Derived.OpenShut
import Derived.DataReads
import Derived.DataElems
set_option linter.unusedVariables false
set_option linter.unusedSimpArgs false
section
namespace Go.Proofs.YtkgdhdjkpnalmaaGreatDoor.Opn
open Go.RowKit Go.Proofs.YtkgdhdjkpnalmaaGreatDoorW.PrintWords Go.ChangeShapes Go.WideShapes
variable {H : Type} {enc : TypeId × Value→H} {P : Program} {w : World} {base : Nat} {held : Bool}
def Opens {α : Type} (enc : TypeId × Value→H) (P : Program) (w : World) (base : Nat) (held : Bool) (t : TypeId) (d : Kd α) (G : α→Prop) : Prop :=
  ∀ fuel cs x,DataW.trod enc P w base (fun _ => true) held fuel t cs = some x→(DataW.weights P t x.1).all (·≤reachBytes) = true→∃ a,d.K w a cs∧G a
theorem opens_int {t : TypeId} {k : IntKind} (ht : P.underlying t = some (.int k)) : Opens enc P w base held t (Kd.int k) (fun n => (Lit.int k n).wf = true):=by
  intro fuel cs x h _
  obtain ⟨n,rfl,_,hw⟩:=DataW.trod_int ht h
  exact ⟨n,rfl,hw⟩
theorem exists_list {α : Type} {n : Nat} {Q : Nat→α→Prop} (h : ∀ i,i < n→∃ a,Q i a) : ∃ xs : List α,xs.length = n∧∀ j p,xs[j]? = some p→Q j p:=by
  induction n with
  | zero => exact ⟨[],rfl,fun j p hj => by simp at hj⟩
  | succ n ih =>
    obtain ⟨xs,hl,hx⟩:=ih (fun i hi => h i (by omega))
    obtain ⟨a,ha⟩:=h n (by omega)
    refine ⟨xs ++ [a],by simp [hl],fun j p hj => ?_⟩
    rcases Nat.lt_or_ge j xs.length with hlt | hge
    · rw [List.getElem?_append_left hlt] at hj
      exact hx j p hj
    · have hjn : j = n:=by
        have:=(List.getElem?_eq_some_iff.1 hj).1
        simp at this;omega
      subst hjn
      rw [← hl] at hj
      simp at hj
      subst hj
      exact ha
theorem weights_mem {t : TypeId} {l : List (DataW H)} (h : (DataW.weightsAll P t l).all (·≤reachBytes) = true) : ∀ d ∈ l,(DataW.weights P t d).all (·≤reachBytes) = true:=by
  induction l with
  | nil => intro d hd;cases hd
  | cons x l ih =>
    intro d hd
    rw [DataW.weightsAll,List.all_append,Bool.and_eq_true] at h
    rcases List.mem_cons.1 hd with rfl | hd
    · exact h.1
    · exact ih h.2 d hd
theorem cells_at {ad : Addr} {n : Nat} {cs : List Value} (h : w.cells? base ad n = some cs) : cs.length = n∧∀ i u,cs[i]? = some u→w.cell? (ad.add i) = some u:=by
  obtain ⟨_,h1,h2⟩:=World.cells?_some h
  exact ⟨h1,fun i u hu => (h2 i (by have:=(List.getElem?_eq_some_iff.1 hu).1;omega)).trans hu⟩
theorem opens_slice {α : Type} {t e : TypeId} {d : Kd α} {G : α→Prop} {B : Nat} (ht : P.underlying t = some (.slice e)) (hc : P.cellsOf e = d.sz) (hB : P.bytesOf e = B) (he : Opens enc P w base held e d G) :
    Opens enc P w base held t (Kd.slice e d) (fun xs => (∀ x ∈ xs,G x)∧xs.length * B≤140737488351232):=by
  intro fuel cs x h hz
  rcases DataW.trod_slice ht h with ⟨rfl,rfl⟩ | ⟨a,len,cap,elems,rest,n,_,rfl,rfl,hb,hl,hm,hlen,hel,hsp,hns⟩
  · exact ⟨[],⟨none,0,rfl,Nat.le_refl _,rfl,by simp,fun hn => by simp at hn⟩,fun _ h => (by cases h),by simp⟩
  · simp only [DataW.weights,ht,List.all_cons,List.all_append,Bool.and_eq_true] at hz
    obtain ⟨hz1,hz2,_⟩:=hz
    have hz1' : (elems.length + rest.length) * B≤140737488351232:=by
      rw [hB] at hz1;simpa [reachBytes] using hz1
    have hzm:=weights_mem hz2
    obtain ⟨xs,hxl,hx⟩:=exists_list (n:=len) (Q:=fun i y => ∃ cs',w.cells? base (a.add (i * d.sz)) d.sz = some cs'∧d.K w y cs'∧G y) (fun i hi => by
      have hlt : i < elems.length:=by omega
      have h1:=hel i hi
      rw [List.getElem?_eq_getElem hlt,Option.bind_eq_some_iff] at h1
      obtain ⟨cs',hcs,hy⟩:=h1
      rw [hc] at hcs
      obtain ⟨y,hK,hG⟩:=he _ _ _ hy (hzm _ (List.mem_map_of_mem (List.getElem_mem hlt)))
      exact ⟨y,cs',hcs,hK,hG⟩)
    refine ⟨xs,⟨some a,cap,by rw [hxl],by omega,hxl ▸ rfl,?_,fun hn => ⟨a,rfl,fun j p hj => ?_⟩⟩,fun y hy => ?_,?_⟩
    · unfold maxLen at hm;omega
    · obtain ⟨cs',hcs,hK,_⟩:=hx j p hj
      obtain ⟨h1,h2⟩:=cells_at hcs
      refine ⟨cs',h1,hK,fun i u hu => ?_⟩
      have:=h2 i u hu
      rwa [Addr.add_add] at this
    · obtain ⟨j,hj⟩:=List.getElem?_of_mem hy
      exact (hx j y hj).choose_spec.2.2
    · refine Nat.le_trans (Nat.mul_le_mul_right _ ?_) hz1'
      rw [hxl];omega
end Go.Proofs.YtkgdhdjkpnalmaaGreatDoor.Opn
end
