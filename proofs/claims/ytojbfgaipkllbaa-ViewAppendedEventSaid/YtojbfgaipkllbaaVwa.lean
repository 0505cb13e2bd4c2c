/- What is proved: the contract of slices.Collect over view.lists' iterator at this seat's translation: a new list of the events' words. -/
import Derived.Test.YtojbfgaipkllbaaVw
set_option linter.unusedVariables false
set_option linter.unusedSimpArgs false
namespace Go.Proofs.Ytojbfgaipkllbaa.P
open Go.RowKit Go.Shelf Go.Proofs.Ytojbfgaipkllbaa.Rng Go.Proofs.YtojbfgaipkllbaaW.PrintWords
attribute [local go_sem] Oper.semAt_some

theorem Hdr.Ok.K {B : Nat} {x : Hdr} {W : World} (h : x.Ok B W) : (Kd.slice 39 (Kd.int .u64)).K W x.ws [x.v] := by
  obtain ⟨A, c, e, hl, hc⟩ := Kd.R_reads (Kd.R_of_own (enc := Value.int .u64) (h1 := fun _ => rfl) (ok := fun _ => True) h (fun _ _ => trivial))
  exact ⟨A, c, by rw [e], hl, hc⟩

theorem rows_C {B : Nat} {W : World} {v : Value} {xs : List Hdr} (h : W.ownsRow B 34 1 v xs.length (xs.map Hdr.v)) (hx : ∀ x ∈ xs, x.Ok B W) :
    ∃ A c, v = .slice A xs.length c ∧ xs.length ≤ c ∧ Kd.C (Kd.slice 39 (Kd.int .u64)) W A xs.length (xs.map Hdr.ws) := by
  obtain ⟨A, c, e, hl, h1, h2, h3⟩ := OwnRow.reads (R := fun (x : Hdr) cs => cs = [x.v]) ⟨_, h, Kd.reps_scalar (enc := Hdr.v) xs⟩
  refine ⟨A, c, e, hl, by simp, h2, fun hn => ?_⟩
  obtain ⟨ad, ea, hc⟩ := h3 hn
  refine ⟨ad, ea, fun j p hp => ?_⟩
  rw [List.getElem?_map, Option.map_eq_some_iff] at hp
  obtain ⟨x, hxj, rfl⟩ := hp
  obtain ⟨cs, hs, rfl, hcell⟩ := hc j x hxj
  exact ⟨[x.v], hs, (hx x (List.mem_of_getElem? hxj)).K, hcell⟩

theorem Keeps.appended {W w1 : World} {n₀ B k : Nat} {v v' : Value} {xs : List Value} {tmp : Obj} (hv : Boxed W B 42 v) (hrow : W.ownsRow n₀ 34 1 v k xs) (hgrow : (W.alloc tmp).grownBy w1 v.ownBlock) : Keeps W (w1.setCell ⟨B, 0, none⟩ v') := by
  intro j c t fz hj h1 h2
  have hlt := (Array.getElem?_eq_some_iff.1 hj).1
  have hjB : j ≠ B := fun e => by
    subst e
    rw [show W.heap[j]? = _ from hv] at hj
    cases hj
    exact h2 rfl
  rw [Below.heap_setCell _ _ _ _ hjB, hgrow.block j (by simp; omega) (fun e => ?_)]
  · exact (Below.heap_alloc _ _ _ hlt).trans hj
  · obtain ⟨cells, hc⟩ := own_typed hrow j e.symm
    rw [hc] at hj
    cases hj
    exact h1 rfl

set_option maxRecDepth 100000 in
set_option maxHeartbeats 4000000 in
theorem AppendSeq_calls (Bv : Nat) (A : Option Addr) (c : Nat) (es : List S36) (hbig : ∀ e ∈ es, e.f2.length + 2 ≤ 17592186044416) (hlen : es.length ≤ 5864062014805) (w w00 : World) (hBv : w.cell? ⟨Bv, 0, none⟩ = some (.slice A es.length c)) (hBn : Bv < w.heap.size)
    (hw00 : Below w00.heap.size w00 w) (hE : Kd.C k36 w00 A es.length es) :
    Calls Try.prog 30 #[.slice none 0 0, .func (.func 31) #[] #[.pointer (some ⟨Bv, 0, none⟩)]] w fun e w' =>
      ∃ (A' : Option Addr) (c' : Nat), e = .returned (.slice A' es.length c') ∧ es.length ≤ c' ∧ Kd.C (Kd.slice 39 (Kd.int .u64)) w' A' es.length (es.map evw) ∧ Below w.heap.size w w' := by
  obtain ⟨i0, hi, hz0, hz1, hz2⟩ := info_parts infoSl
  refine (callsIn_wide (n := 4)).1 ?_
  refine callsIn_of_wp_marks Try.func30 rfl trivial ?_ rfl
  simp only [Try.ntmps30, List.size_toArray, List.length_cons, List.length_nil, Nat.reduceAdd, Nat.reduceSub, Array.replicate_succ, Array.replicate_zero, List.push_toArray, List.append_toArray, List.nil_append, List.cons_append]
  gi_wp2
  have bO := Boxed.new w 42 (.slice none 0 0)
  obtain ⟨W0, hW0⟩ : ∃ W0, w.alloc (.cells #[.slice none 0 0] 42) = W0 := ⟨_, rfl⟩
  have hB0 : Below w.heap.size w W0 := by rw [← hW0]; exact (Below.refl _ w).alloc (Nat.le_refl _) _
  have hz0' : W0.heap.size = w.heap.size + 1 := by rw [← hW0]; simp
  rw [hW0] at bO ⊢
  clear hW0
  refine wpIn_rangeFunc_all rfl (by omega) (gf := 31) (lb := #[.pointer (some ⟨Bv, 0, none⟩)]) rfl trivial (enters_of Try.func31 (by kernel_rfl) rfl)
    (encs := fun x : Hdr => #[x.v]) (ok := fun x W => x.Ok w.heap.size W) (Kp := Kp w.heap.size) (S := fun xs W => xs.map Hdr.ws = es.map evw ∧ ∀ x ∈ xs, x.Ok w.heap.size W) (N := es.length) (w0 := W0) ?seq (fun h1 h2 => h1.trans h2) ?kb (Below.refl _ _) (fun _ => rfl) ?okput ?sput
    (fun pre W => (∃ v, Boxed W w.heap.size 42 v ∧ W.ownsRow w.heap.size 34 1 v pre.length (pre.map Hdr.v) ∧ True) ∧ Below w.heap.size w W)
    (OwnFrom.and (Own.from (holdsRow_own w.heap.size w.heap.size 42 34 1 (fun pre : List Hdr => pre.length) (fun pre => pre.map Hdr.v) (fun _ _ => True)) _) (ownFrom_below (Nat.le_refl _) (by omega)))
    ?abides ⟨⟨_, bO, World.ownsRow_nil _ _ _ _, trivial⟩, hB0⟩
    (fun x => { tmps := #[.slice none 0 0, .func (.func 31) #[] #[.pointer (some ⟨Bv, 0, none⟩)], .pointer (some ⟨w.heap.size, 0, none⟩), undef, .slice none 0 0, x.v, .func (.func 31) #[] #[.pointer (some ⟨Bv, 0, none⟩)], x.v, undef, undef, undef, undef, undef], defers := [] }) ?assign ?body ?done
  case seq =>
    intro l J W hW hJ hY hJ0
    have hWw : Below w.heap.size w W := hB0.trans (hW.mono (by omega))
    refine (lists1_in Fence.wide _ trivial rfl (by omega) l Bv w.heap.size A c es hbig J hJ W (fun pre x W1 hj hx hl => hY pre x W1 hj ?_ hl) hWw.size ((hWw.cell (p := ⟨Bv, 0, none⟩) hBn).trans hBv) hBn w00 (hw00.trans (hWw.mono hw00.size)) hw00.size hE hJ0).mono ?_
    · exact own_weaken hx hWw.size
    · rintro e W' ⟨he, xs, ⟨h1, h2⟩, h3⟩
      exact ⟨he, xs, ⟨h1, fun x hx => own_weaken (h2 x hx) hWw.size⟩, h3⟩
  case kb =>
    intro W l o o' hl ho hc hw
    refine ⟨belowK_b (w := W0) (by omega) W l o o' hl ho hc hw, ?_⟩
    intro k cs t fz hk _ _
    refine (World.putObj_heap_other (fun e => ?_)).trans hk
    subst e
    rw [hk] at ho; cases ho; simp [Obj.isCells] at hc
  case okput =>
    intro x W l o o' hl ho hc hx
    exact ownsRow_putObj hx _ ho hc
  case sput =>
    intro xs W l o o' hl ho hc hx
    exact ⟨hx.1, fun x h => ownsRow_putObj (hx.2 x h) _ ho hc⟩
  case abides =>
    rintro s X Y ⟨⟨v, hv, hrow, _⟩, hb⟩ hXY
    exact ⟨⟨v, (hXY.block _ hv.lt).trans hv, pw_own_below hrow hXY, trivial⟩, hb.trans (hXY.mono hb.size)⟩
  case assign =>
    intro l x W K hK
    gi_wp2
    exact hK
  case body =>
    rintro l pre x W ⟨⟨v, hv, hrow, _⟩, hB⟩ hx hlt
    have hc := hv.cell
    have hkk : ∀ (v' : Value) (w1 : World), (W.alloc (.cells #[x.v] 34)).grownBy w1 v.ownBlock → Keeps W (w1.setCell ⟨w.heap.size, 0, none⟩ v') := fun v' w1 hg => Keeps.appended hv hrow hg
    have HKK := Lib.hid hkk
    clear hkk
    obtain ⟨xA, xcap, xws⟩ := x
    simp only [Hdr.v] at HKK ⊢
    gi_wp2_with (gi_at_builtin; refine wpListIn_append_own _ rfl _ _ 42 rfl w.heap.size 34 i0 (.slice none 0 0) 1 24 Try.underlying42 hi hz0 hz1 hz2 rfl (by decide) _ _ _ rfl (hrow.alloc _) ⟨W.heap.size, 0, none⟩ 1 1 [.slice xA xws.length xcap] rfl rfl (cell_one_new _ _ _) (by simp [Value.oneCell']) (by unfold maxLen; omega) (by omega) (by have := hB.size; simp; omega) ?_; intro v' w1 hown' hgrow _; obtain ⟨g', cap', rfl⟩ := ownsRow_succ hown'; obtain ⟨hv1, hv2, hr2, hk2, hb2⟩ := hv.appended (by decide) hrow hB.size (Nat.le_refl _) hown' hgrow; have hkp := Lib.hid (HKK.out (.slice (some ⟨g', 0, none⟩) (pre.length + 1) cap') w1 hgrow); have hc1 := hv1.cell; have hf1 := hv1.frozen)
    refine ⟨hk2, ⟨hb2, hkp.out⟩, ⟨_, hv2, ?_, trivial⟩, hB.trans hb2⟩
    rw [List.length_append, List.map_append, List.map_singleton]
    exact hr2
  case done =>
    rintro D xs W hD hDl ⟨hxs, hok⟩ ⟨⟨v, hv, hrow, _⟩, hB⟩ hK
    have hc := hv.cell
    have hxl : xs.length = es.length := by have := congrArg List.length hxs; simpa using this
    have HX := Lib.hid hxs
    have HL := Lib.hid hxl
    clear hxs hxl
    gi_wp2
    refine ⟨by simp, .inl ⟨_, _, rfl, run_takeDeferred hK, ?_⟩⟩
    obtain ⟨A', c', hv', hl', hC⟩ := rows_C (ownsRow_putObj hrow (.deferred none) hK rfl) (fun x h => ownsRow_putObj (hok x h) (.deferred none) hK rfl)
    refine ⟨_, results_tmp rfl _ _ _, A', c', by rw [hv', HL.out]; rfl, by rw [← HL.out]; exact hl', by rw [← HX.out, ← HL.out]; exact hC, hB.trans (belowK_b (w := w) (Nat.le_refl _) W D _ _ (by omega) hK rfl rfl)⟩

set_option maxRecDepth 100000 in
set_option maxHeartbeats 1000000 in
theorem Collect_calls (Bv : Nat) (A : Option Addr) (c : Nat) (es : List S36) (hbig : ∀ e ∈ es, e.f2.length + 2 ≤ 17592186044416) (hlen : es.length ≤ 5864062014805) (w w00 : World) (hBv : w.cell? ⟨Bv, 0, none⟩ = some (.slice A es.length c)) (hBn : Bv < w.heap.size)
    (hw00 : Below w00.heap.size w00 w) (hE : Kd.C k36 w00 A es.length es) :
    Calls Try.prog 22 #[.func (.func 31) #[] #[.pointer (some ⟨Bv, 0, none⟩)]] w fun e w' =>
      ∃ (A' : Option Addr) (c' : Nat), e = .returned (.slice A' es.length c') ∧ es.length ≤ c' ∧ Kd.C (Kd.slice 39 (Kd.int .u64)) w' A' es.length (es.map evw) ∧ Below w.heap.size w w' := by
  have HC := AppendSeq_calls Bv A c es hbig hlen w w00 hBv hBn hw00 hE
  clear hBv hE hbig
  go_enter Try.func22, Try.ntmps22
  go_wp2_with (go_at_call 30; refine HC.mono ?_; rintro e w' ⟨A', c', rfl, h1, h2, h3⟩)
  go_ret
  exact ⟨A', c', rfl, h1, h2, h3⟩

end Go.Proofs.Ytojbfgaipkllbaa.P
