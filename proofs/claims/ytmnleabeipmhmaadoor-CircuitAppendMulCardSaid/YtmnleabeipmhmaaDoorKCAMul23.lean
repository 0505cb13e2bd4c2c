/- What is proved here: a part of the proof of CircuitAppendMul: Crt. No conditions beside those that each theorem states. -/
import Derived.Test.YtmnleabeipmhmaaDoorKCAMul22
section
set_option linter.unusedVariables false
set_option linter.unusedSimpArgs false
namespace Go.Proofs.YtmnleabeipmhmaaDoor.P
open Go.RowKit Go.Proofs.YtmnleabeipmhmaaDoorW.PrintWords Go.Proofs.YtmnleabeipmhmaaDoorW.PrintLast Go.Proofs.YtmnleabeipmhmaaDoorW.PrintMore
def zbo (F : Form) (P at_ b c d e : Int) : Bool :=
  ((!F.from_ && b == 0) || (F.from_ && (decide (1 ≤ b) && decide (b ≤ 13)))) && ((!F.k && (e == 0 || F.bit)) || (F.k && decide (e < P))) && zcn F.a c at_ && zcn F.b d at_
def zcj (P at_ a b c d e : Int) : Bool := (ofF a e).2 && zbo (ofF a e).1 P at_ b c d e
theorem of_mem {a e : Int} {F : Form} (h : ofF a e = (F, true)) : F ∈ forms := by
  unfold ofF at h
  split at h
  · next f hf => cases h; exact List.mem_of_find?_eq_some hf
  · cases h
set_option maxHeartbeats 8000000 in
set_option maxRecDepth 100000 in
theorem right_calls (P a b c d e at_ : Int) (w : World) (hLd : Ld w) : Calls Tryd.prog 48 #[.int .u64 P, .agg #[.int .i64 a, .int .i64 b, .int .i64 c, .int .i64 d, .int .u64 e], .int .i64 at_] w
    fun r w' => r = .returned (.bool (zcj P at_ a b c d e)) ∧ Below w.heap.size w w' := by
  have hx0 : ((w.alloc (.cells #[.int .i64 a, .int .i64 b, .int .i64 c, .int .i64 d, .int .u64 e] 43)).alloc (.cells #[.int .i64 at_] 3)).heap[w.heap.size]? = some (.cells #[.int .i64 a, .int .i64 b, .int .i64 c, .int .i64 d, .int .u64 e] 43 (0, 0)) := by
    rw [zcp _ _ _ (by rw [zcq]; omega)]; exact heap_alloc_new _ _
  have hx1 : ((w.alloc (.cells #[.int .i64 a, .int .i64 b, .int .i64 c, .int .i64 d, .int .u64 e] 43)).alloc (.cells #[.int .i64 at_] 3)).heap[w.heap.size + 1]? = some (.cells #[.int .i64 at_] 3 (0, 0)) := heap_alloc2_new _ _ _
  have hB0 : Below w.heap.size w ((w.alloc (.cells #[.int .i64 a, .int .i64 b, .int .i64 c, .int .i64 d, .int .u64 e] 43)).alloc (.cells #[.int .i64 at_] 3)) := zao (zao (Below.refl _ _) _) _
  have hLd0 := hLd.below hB0
  have hR : ∀ r, zcj P at_ a b c d e = r → ((ofF a e).2 && zbo (ofF a e).1 P at_ b c d e) = r := fun _ h => h
  obtain ⟨F, ok, hF⟩ : ∃ F ok, ofF a e = (F, ok) := ⟨_, _, rfl⟩
  have HC : Hid (∀ w, Ld w → Calls Tryd.prog 32 #[.agg #[.int .i64 a, .int .i64 b, .int .i64 c, .int .i64 d, .int .u64 e]] w fun r w' => r = .returned (.tuple #[.agg #[.string ⟨F.word.toArray⟩, .int .i64 F.kind, .bool F.from_, .bool F.k, .bool F.a, .bool F.b, .bool F.bit], .bool ok]) ∧ Below w.heap.size w w') := Lib.hid (fun w h => by
    have := of_calls a b c d e w h
    rw [hF] at this
    exact this)
  generalize hE : zcj P at_ a b c d e = E
  have HE : Hid ((ok && zbo F P at_ b c d e) = E) := Lib.hid (by have := hR _ hE; rw [hF] at this; exact this)
  have HM : Hid (ok = true → F ∈ forms) := Lib.hid (fun h => of_mem (h ▸ hF))
  clear hF hE hR hLd
  have HX0 := Lib.hid hx0
  have HX1 := Lib.hid hx1
  have HB0 := Lib.hid hB0
  have HLD := Lib.hid hLd0
  clear hx0 hx1 hB0 hLd0
  go_enter Tryd.func48, Tryd.ntmps48
  go_upto_region 2 with (first
    | (refine wpList_load_row rfl 43 (.tmp 4) rfl w.heap.size rfl 43 #[.int .i64 a, .int .i64 b, .int .i64 c, .int .i64 d, .int .u64 e] (0, 0) _ HX0.out Tryd.underlying43 rfl (by kernel_rfl) ?_)
    | (go_at_call 32
       refine (HC.out _ HLD.out).mono ?_
       rintro r w1 ⟨rfl, hB1⟩
       have hx0 := zbl HX0.out hB1
       have hx1 := zbl HX1.out hB1
       have hB := HB0.out.trans (hB1.mono HB0.out.size)
       have HX0n := Lib.hid hx0
       have HX1n := Lib.hid hx1
       have HB := Lib.hid hB
       clear HX0 HX1 HB0 HLD HC hB1 hx0 hx1 hB)
    | (refine wpList_store_row rfl 50 (.tmp 7) (.tmp 15) rfl w1.heap.size #[.string ⟨F.word.toArray⟩, .int .i64 F.kind, .bool F.from_, .bool F.k, .bool F.a, .bool F.b, .bool F.bit] ?e1 ?e2 50 #[.string ⟨#[]⟩, .int .i64 0, .bool false, .bool false, .bool false, .bool false, .bool false] (heap_alloc_new w1 _) ?e4 ?e5 ?e6 ?_
       (case e1 => rfl)
       (case e2 => rfl)
       (case e4 => kernel_rfl)
       (case e5 => rfl)
       (case e6 => simp [Value.oneCell'])
       rw [World.setRow_alloc_new]
       have hn := heap_alloc_new w1 (.cells #[.string ⟨F.word.toArray⟩, .int .i64 F.kind, .bool F.from_, .bool F.k, .bool F.a, .bool F.b, .bool F.bit] 50)
       have hx0n := (zcp w1 (.cells #[.string ⟨F.word.toArray⟩, .int .i64 F.kind, .bool F.from_, .bool F.k, .bool F.a, .bool F.b, .bool F.bit] 50) _ (Array.getElem?_eq_some_iff.1 HX0n.out).1).trans HX0n.out
       have hx1n := (zcp w1 (.cells #[.string ⟨F.word.toArray⟩, .int .i64 F.kind, .bool F.from_, .bool F.k, .bool F.a, .bool F.b, .bool F.bit] 50) _ (Array.getElem?_eq_some_iff.1 HX1n.out).1).trans HX1n.out
       have hBn := zao HB.out (.cells #[.string ⟨F.word.toArray⟩, .int .i64 F.kind, .bool F.from_, .bool F.k, .bool F.a, .bool F.b, .bool F.bit] 50)
       generalize w1.alloc (.cells #[.string ⟨F.word.toArray⟩, .int .i64 F.kind, .bool F.from_, .bool F.k, .bool F.a, .bool F.b, .bool F.bit] 50) = w2 at *
       have HB2 := Lib.hid hBn
       have b1 : w2.cell? ⟨w.heap.size, 1, none⟩ = some (.int .i64 b) := zak hx0n 1
       have b2 : w2.cell? ⟨w.heap.size, 2, none⟩ = some (.int .i64 c) := zak hx0n 2
       have b3 : w2.cell? ⟨w.heap.size, 3, none⟩ = some (.int .i64 d) := zak hx0n 3
       have b4 : w2.cell? ⟨w.heap.size, 4, none⟩ = some (.int .u64 e) := zak hx0n 4
       have p0 : w2.cell? ⟨w.heap.size + 1, 0, none⟩ = some (.int .i64 at_) := zak hx1n 0
       have n2 : w2.cell? ⟨w1.heap.size, 2, none⟩ = some (.bool F.from_) := zak hn 2
       have n3 : w2.cell? ⟨w1.heap.size, 3, none⟩ = some (.bool F.k) := zak hn 3
       have n4 : w2.cell? ⟨w1.heap.size, 4, none⟩ = some (.bool F.a) := zak hn 4
       have n5 : w2.cell? ⟨w1.heap.size, 5, none⟩ = some (.bool F.b) := zak hn 5
       have n6 : w2.cell? ⟨w1.heap.size, 6, none⟩ = some (.bool F.bit) := zak hn 6
       clear hx0n hx1n hn hBn HX0n HX1n HB))
  cases ok
  · have hv : E = false := by rw [← HE.out]; rfl
    clear HE HM n2 n3 n4 n5 n6 b1 b2 b3 b4 p0
    go_wp2_with fail
    go_ret
    exact ⟨by rw [hv]; rfl, HB2.out⟩
  · have hm := HM.out rfl
    simp only [forms, List.mem_cons, List.not_mem_nil, or_false] at hm
    rcases hm with rfl | rfl | rfl | rfl | rfl | rfl | rfl
    · dsimp only at n2 n3 n4 n5 n6
      cases f1 : decide (1 ≤ b)
      · cases k1 : (e == 0)
        · have hv : E = false := by rw [← HE.out]; simp [zbo, f1, k1]
          clear HE HM
          go_wp2_with (go_at_call 64; refine (zbe _ _ _ _ _ p0).mono ?_; rintro r w' ⟨rfl, rfl⟩)
          go_ret
          exact ⟨by rw [hv]; rfl, HB2.out⟩
        · have hv : E = false := by rw [← HE.out]; simp [zbo, f1, k1]
          clear HE HM
          go_wp2_with (go_at_call 64; refine (zbe _ _ _ _ _ p0).mono ?_; rintro r w' ⟨rfl, rfl⟩)
          go_ret
          exact ⟨by rw [hv]; rfl, HB2.out⟩
      · cases f2 : decide (b ≤ 13)
        · cases k1 : (e == 0)
          · have hv : E = false := by rw [← HE.out]; simp [zbo, f1, f2, k1]
            clear HE HM
            go_wp2_with (go_at_call 64; refine (zbe _ _ _ _ _ p0).mono ?_; rintro r w' ⟨rfl, rfl⟩)
            go_ret
            exact ⟨by rw [hv]; rfl, HB2.out⟩
          · have hv : E = false := by rw [← HE.out]; simp [zbo, f1, f2, k1]
            clear HE HM
            go_wp2_with (go_at_call 64; refine (zbe _ _ _ _ _ p0).mono ?_; rintro r w' ⟨rfl, rfl⟩)
            go_ret
            exact ⟨by rw [hv]; rfl, HB2.out⟩
        · cases k1 : (e == 0)
          · have hv : E = false := by rw [← HE.out]; simp [zbo, f1, f2, k1]
            clear HE HM
            go_wp2_with (go_at_call 64; refine (zbe _ _ _ _ _ p0).mono ?_; rintro r w' ⟨rfl, rfl⟩)
            go_ret
            exact ⟨by rw [hv]; rfl, HB2.out⟩
          · cases s1 : zcn false c at_
            · have hv : E = false := by rw [← HE.out]; simp [zbo, f1, f2, k1, s1]
              clear HE HM
              go_wp2_with (go_at_call 64; refine (zbe _ _ _ _ _ p0).mono ?_; rintro r w' ⟨rfl, rfl⟩)
              go_ret
              exact ⟨by rw [hv]; rfl, HB2.out⟩
            · cases s2 : zcn false d at_
              · have hv : E = false := by rw [← HE.out]; simp [zbo, f1, f2, k1, s1, s2]
                clear HE HM
                go_wp2_with (go_at_call 64; refine (zbe _ _ _ _ _ p0).mono ?_; rintro r w' ⟨rfl, rfl⟩)
                go_ret
                exact ⟨by rw [hv]; rfl, HB2.out⟩
              · have hv : E = true := by rw [← HE.out]; simp [zbo, f1, f2, k1, s1, s2]
                clear HE HM
                go_wp2_with (go_at_call 64; refine (zbe _ _ _ _ _ p0).mono ?_; rintro r w' ⟨rfl, rfl⟩)
                go_ret
                exact ⟨by rw [hv]; rfl, HB2.out⟩
    · dsimp only at n2 n3 n4 n5 n6
      cases f1 : decide (1 ≤ b)
      · cases k1 : (e == 0)
        · have hv : E = false := by rw [← HE.out]; simp [zbo, f1, k1]
          clear HE HM
          go_wp2_with (go_at_call 64; refine (zbe _ _ _ _ _ p0).mono ?_; rintro r w' ⟨rfl, rfl⟩)
          go_ret
          exact ⟨by rw [hv]; rfl, HB2.out⟩
        · have hv : E = false := by rw [← HE.out]; simp [zbo, f1, k1]
          clear HE HM
          go_wp2_with (go_at_call 64; refine (zbe _ _ _ _ _ p0).mono ?_; rintro r w' ⟨rfl, rfl⟩)
          go_ret
          exact ⟨by rw [hv]; rfl, HB2.out⟩
      · cases f2 : decide (b ≤ 13)
        · cases k1 : (e == 0)
          · have hv : E = false := by rw [← HE.out]; simp [zbo, f1, f2, k1]
            clear HE HM
            go_wp2_with (go_at_call 64; refine (zbe _ _ _ _ _ p0).mono ?_; rintro r w' ⟨rfl, rfl⟩)
            go_ret
            exact ⟨by rw [hv]; rfl, HB2.out⟩
          · have hv : E = false := by rw [← HE.out]; simp [zbo, f1, f2, k1]
            clear HE HM
            go_wp2_with (go_at_call 64; refine (zbe _ _ _ _ _ p0).mono ?_; rintro r w' ⟨rfl, rfl⟩)
            go_ret
            exact ⟨by rw [hv]; rfl, HB2.out⟩
        · cases k1 : (e == 0)
          · cases s1 : zcn false c at_
            · have hv : E = false := by rw [← HE.out]; simp [zbo, f1, f2, k1, s1]
              clear HE HM
              go_wp2_with (go_at_call 64; refine (zbe _ _ _ _ _ p0).mono ?_; rintro r w' ⟨rfl, rfl⟩)
              go_ret
              exact ⟨by rw [hv]; rfl, HB2.out⟩
            · cases s2 : zcn false d at_
              · have hv : E = false := by rw [← HE.out]; simp [zbo, f1, f2, k1, s1, s2]
                clear HE HM
                go_wp2_with (go_at_call 64; refine (zbe _ _ _ _ _ p0).mono ?_; rintro r w' ⟨rfl, rfl⟩)
                go_ret
                exact ⟨by rw [hv]; rfl, HB2.out⟩
              · have hv : E = true := by rw [← HE.out]; simp [zbo, f1, f2, k1, s1, s2]
                clear HE HM
                go_wp2_with (go_at_call 64; refine (zbe _ _ _ _ _ p0).mono ?_; rintro r w' ⟨rfl, rfl⟩)
                go_ret
                exact ⟨by rw [hv]; rfl, HB2.out⟩
          · cases s1 : zcn false c at_
            · have hv : E = false := by rw [← HE.out]; simp [zbo, f1, f2, k1, s1]
              clear HE HM
              go_wp2_with (go_at_call 64; refine (zbe _ _ _ _ _ p0).mono ?_; rintro r w' ⟨rfl, rfl⟩)
              go_ret
              exact ⟨by rw [hv]; rfl, HB2.out⟩
            · cases s2 : zcn false d at_
              · have hv : E = false := by rw [← HE.out]; simp [zbo, f1, f2, k1, s1, s2]
                clear HE HM
                go_wp2_with (go_at_call 64; refine (zbe _ _ _ _ _ p0).mono ?_; rintro r w' ⟨rfl, rfl⟩)
                go_ret
                exact ⟨by rw [hv]; rfl, HB2.out⟩
              · have hv : E = true := by rw [← HE.out]; simp [zbo, f1, f2, k1, s1, s2]
                clear HE HM
                go_wp2_with (go_at_call 64; refine (zbe _ _ _ _ _ p0).mono ?_; rintro r w' ⟨rfl, rfl⟩)
                go_ret
                exact ⟨by rw [hv]; rfl, HB2.out⟩
    · dsimp only at n2 n3 n4 n5 n6
      cases f1 : (b == 0)
      · cases k1 : decide (e < P)
        · have hv : E = false := by rw [← HE.out]; simp [zbo, f1, k1]
          clear HE HM
          go_wp2_with (go_at_call 64; refine (zbe _ _ _ _ _ p0).mono ?_; rintro r w' ⟨rfl, rfl⟩)
          go_ret
          exact ⟨by rw [hv]; rfl, HB2.out⟩
        · have hv : E = false := by rw [← HE.out]; simp [zbo, f1, k1]
          clear HE HM
          go_wp2_with (go_at_call 64; refine (zbe _ _ _ _ _ p0).mono ?_; rintro r w' ⟨rfl, rfl⟩)
          go_ret
          exact ⟨by rw [hv]; rfl, HB2.out⟩
      · cases k1 : decide (e < P)
        · have hv : E = false := by rw [← HE.out]; simp [zbo, f1, k1]
          clear HE HM
          go_wp2_with (go_at_call 64; refine (zbe _ _ _ _ _ p0).mono ?_; rintro r w' ⟨rfl, rfl⟩)
          go_ret
          exact ⟨by rw [hv]; rfl, HB2.out⟩
        · cases s1 : zcn false c at_
          · have hv : E = false := by rw [← HE.out]; simp [zbo, f1, k1, s1]
            clear HE HM
            go_wp2_with (go_at_call 64; refine (zbe _ _ _ _ _ p0).mono ?_; rintro r w' ⟨rfl, rfl⟩)
            go_ret
            exact ⟨by rw [hv]; rfl, HB2.out⟩
          · cases s2 : zcn false d at_
            · have hv : E = false := by rw [← HE.out]; simp [zbo, f1, k1, s1, s2]
              clear HE HM
              go_wp2_with (go_at_call 64; refine (zbe _ _ _ _ _ p0).mono ?_; rintro r w' ⟨rfl, rfl⟩)
              go_ret
              exact ⟨by rw [hv]; rfl, HB2.out⟩
            · have hv : E = true := by rw [← HE.out]; simp [zbo, f1, k1, s1, s2]
              clear HE HM
              go_wp2_with (go_at_call 64; refine (zbe _ _ _ _ _ p0).mono ?_; rintro r w' ⟨rfl, rfl⟩)
              go_ret
              exact ⟨by rw [hv]; rfl, HB2.out⟩
    · dsimp only at n2 n3 n4 n5 n6
      cases f1 : (b == 0)
      · cases k1 : (e == 0)
        · have hv : E = false := by rw [← HE.out]; simp [zbo, f1, k1]
          clear HE HM
          go_wp2_with (go_at_call 64; refine (zbe _ _ _ _ _ p0).mono ?_; rintro r w' ⟨rfl, rfl⟩)
          go_ret
          exact ⟨by rw [hv]; rfl, HB2.out⟩
        · have hv : E = false := by rw [← HE.out]; simp [zbo, f1, k1]
          clear HE HM
          go_wp2_with (go_at_call 64; refine (zbe _ _ _ _ _ p0).mono ?_; rintro r w' ⟨rfl, rfl⟩)
          go_ret
          exact ⟨by rw [hv]; rfl, HB2.out⟩
      · cases k1 : (e == 0)
        · have hv : E = false := by rw [← HE.out]; simp [zbo, f1, k1]
          clear HE HM
          go_wp2_with (go_at_call 64; refine (zbe _ _ _ _ _ p0).mono ?_; rintro r w' ⟨rfl, rfl⟩)
          go_ret
          exact ⟨by rw [hv]; rfl, HB2.out⟩
        · cases s1 : zcn true c at_
          · have hv : E = false := by rw [← HE.out]; simp [zbo, f1, k1, s1]
            clear HE HM
            go_wp2_with (go_at_call 64; refine (zbe _ _ _ _ _ p0).mono ?_; rintro r w' ⟨rfl, rfl⟩)
            go_ret
            exact ⟨by rw [hv]; rfl, HB2.out⟩
          · cases s2 : zcn true d at_
            · have hv : E = false := by rw [← HE.out]; simp [zbo, f1, k1, s1, s2]
              clear HE HM
              go_wp2_with (go_at_call 64; refine (zbe _ _ _ _ _ p0).mono ?_; rintro r w' ⟨rfl, rfl⟩)
              go_ret
              exact ⟨by rw [hv]; rfl, HB2.out⟩
            · have hv : E = true := by rw [← HE.out]; simp [zbo, f1, k1, s1, s2]
              clear HE HM
              go_wp2_with (go_at_call 64; refine (zbe _ _ _ _ _ p0).mono ?_; rintro r w' ⟨rfl, rfl⟩)
              go_ret
              exact ⟨by rw [hv]; rfl, HB2.out⟩
    · dsimp only at n2 n3 n4 n5 n6
      cases f1 : (b == 0)
      · cases k1 : (e == 0)
        · have hv : E = false := by rw [← HE.out]; simp [zbo, f1, k1]
          clear HE HM
          go_wp2_with (go_at_call 64; refine (zbe _ _ _ _ _ p0).mono ?_; rintro r w' ⟨rfl, rfl⟩)
          go_ret
          exact ⟨by rw [hv]; rfl, HB2.out⟩
        · have hv : E = false := by rw [← HE.out]; simp [zbo, f1, k1]
          clear HE HM
          go_wp2_with (go_at_call 64; refine (zbe _ _ _ _ _ p0).mono ?_; rintro r w' ⟨rfl, rfl⟩)
          go_ret
          exact ⟨by rw [hv]; rfl, HB2.out⟩
      · cases k1 : (e == 0)
        · have hv : E = false := by rw [← HE.out]; simp [zbo, f1, k1]
          clear HE HM
          go_wp2_with (go_at_call 64; refine (zbe _ _ _ _ _ p0).mono ?_; rintro r w' ⟨rfl, rfl⟩)
          go_ret
          exact ⟨by rw [hv]; rfl, HB2.out⟩
        · cases s1 : zcn true c at_
          · have hv : E = false := by rw [← HE.out]; simp [zbo, f1, k1, s1]
            clear HE HM
            go_wp2_with (go_at_call 64; refine (zbe _ _ _ _ _ p0).mono ?_; rintro r w' ⟨rfl, rfl⟩)
            go_ret
            exact ⟨by rw [hv]; rfl, HB2.out⟩
          · cases s2 : zcn true d at_
            · have hv : E = false := by rw [← HE.out]; simp [zbo, f1, k1, s1, s2]
              clear HE HM
              go_wp2_with (go_at_call 64; refine (zbe _ _ _ _ _ p0).mono ?_; rintro r w' ⟨rfl, rfl⟩)
              go_ret
              exact ⟨by rw [hv]; rfl, HB2.out⟩
            · have hv : E = true := by rw [← HE.out]; simp [zbo, f1, k1, s1, s2]
              clear HE HM
              go_wp2_with (go_at_call 64; refine (zbe _ _ _ _ _ p0).mono ?_; rintro r w' ⟨rfl, rfl⟩)
              go_ret
              exact ⟨by rw [hv]; rfl, HB2.out⟩
    · dsimp only at n2 n3 n4 n5 n6
      cases f1 : (b == 0)
      · cases k1 : decide (e < P)
        · have hv : E = false := by rw [← HE.out]; simp [zbo, f1, k1]
          clear HE HM
          go_wp2_with (go_at_call 64; refine (zbe _ _ _ _ _ p0).mono ?_; rintro r w' ⟨rfl, rfl⟩)
          go_ret
          exact ⟨by rw [hv]; rfl, HB2.out⟩
        · have hv : E = false := by rw [← HE.out]; simp [zbo, f1, k1]
          clear HE HM
          go_wp2_with (go_at_call 64; refine (zbe _ _ _ _ _ p0).mono ?_; rintro r w' ⟨rfl, rfl⟩)
          go_ret
          exact ⟨by rw [hv]; rfl, HB2.out⟩
      · cases k1 : decide (e < P)
        · have hv : E = false := by rw [← HE.out]; simp [zbo, f1, k1]
          clear HE HM
          go_wp2_with (go_at_call 64; refine (zbe _ _ _ _ _ p0).mono ?_; rintro r w' ⟨rfl, rfl⟩)
          go_ret
          exact ⟨by rw [hv]; rfl, HB2.out⟩
        · cases s1 : zcn true c at_
          · have hv : E = false := by rw [← HE.out]; simp [zbo, f1, k1, s1]
            clear HE HM
            go_wp2_with (go_at_call 64; refine (zbe _ _ _ _ _ p0).mono ?_; rintro r w' ⟨rfl, rfl⟩)
            go_ret
            exact ⟨by rw [hv]; rfl, HB2.out⟩
          · cases s2 : zcn false d at_
            · have hv : E = false := by rw [← HE.out]; simp [zbo, f1, k1, s1, s2]
              clear HE HM
              go_wp2_with (go_at_call 64; refine (zbe _ _ _ _ _ p0).mono ?_; rintro r w' ⟨rfl, rfl⟩)
              go_ret
              exact ⟨by rw [hv]; rfl, HB2.out⟩
            · have hv : E = true := by rw [← HE.out]; simp [zbo, f1, k1, s1, s2]
              clear HE HM
              go_wp2_with (go_at_call 64; refine (zbe _ _ _ _ _ p0).mono ?_; rintro r w' ⟨rfl, rfl⟩)
              go_ret
              exact ⟨by rw [hv]; rfl, HB2.out⟩
    · dsimp only at n2 n3 n4 n5 n6
      cases f1 : (b == 0)
      · cases k1 : (e == 0)
        · have hv : E = false := by rw [← HE.out]; simp [zbo, f1, k1]
          clear HE HM
          go_wp2_with (go_at_call 64; refine (zbe _ _ _ _ _ p0).mono ?_; rintro r w' ⟨rfl, rfl⟩)
          go_ret
          exact ⟨by rw [hv]; rfl, HB2.out⟩
        · have hv : E = false := by rw [← HE.out]; simp [zbo, f1, k1]
          clear HE HM
          go_wp2_with (go_at_call 64; refine (zbe _ _ _ _ _ p0).mono ?_; rintro r w' ⟨rfl, rfl⟩)
          go_ret
          exact ⟨by rw [hv]; rfl, HB2.out⟩
      · cases k1 : (e == 0)
        · have hv : E = false := by rw [← HE.out]; simp [zbo, f1, k1]
          clear HE HM
          go_wp2_with (go_at_call 64; refine (zbe _ _ _ _ _ p0).mono ?_; rintro r w' ⟨rfl, rfl⟩)
          go_ret
          exact ⟨by rw [hv]; rfl, HB2.out⟩
        · cases s1 : zcn true c at_
          · have hv : E = false := by rw [← HE.out]; simp [zbo, f1, k1, s1]
            clear HE HM
            go_wp2_with (go_at_call 64; refine (zbe _ _ _ _ _ p0).mono ?_; rintro r w' ⟨rfl, rfl⟩)
            go_ret
            exact ⟨by rw [hv]; rfl, HB2.out⟩
          · cases s2 : zcn true d at_
            · have hv : E = false := by rw [← HE.out]; simp [zbo, f1, k1, s1, s2]
              clear HE HM
              go_wp2_with (go_at_call 64; refine (zbe _ _ _ _ _ p0).mono ?_; rintro r w' ⟨rfl, rfl⟩)
              go_ret
              exact ⟨by rw [hv]; rfl, HB2.out⟩
            · have hv : E = true := by rw [← HE.out]; simp [zbo, f1, k1, s1, s2]
              clear HE HM
              go_wp2_with (go_at_call 64; refine (zbe _ _ _ _ _ p0).mono ?_; rintro r w' ⟨rfl, rfl⟩)
              go_ret
              exact ⟨by rw [hv]; rfl, HB2.out⟩
end Go.Proofs.YtmnleabeipmhmaaDoor.P
end
