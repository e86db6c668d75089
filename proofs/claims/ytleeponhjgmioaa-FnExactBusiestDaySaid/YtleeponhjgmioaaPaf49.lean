-- Written by this claim's own program (printg.py) out of the translation; Lean checks it.
import Derived.Test.YtleeponhjgmioaaPa0
import Derived.Test.YtleeponhjgmioaaPaf28
import Derived.Test.YtleeponhjgmioaaPaf78
import Derived.Test.YtleeponhjgmioaaPaf86
namespace Go.Proofs.Ytleeponhjgmioaa.Pa
open Go.RowKit Go.Proofs.YtleeponhjgmioaaW.PrintWords Go.Proofs.YtleeponhjgmioaaW.PrintLast Go.Proofs.YtleeponhjgmioaaW.PrintMore
attribute [local go_sem] max2_int min2_int max_two min_two max_three min_three max_four min_four   -- for this text's walks alone
set_option linter.unusedVariables false
set_option linter.unusedSimpArgs false

/-! ### impl_BusiestDay: function 49 -/
mutual
def impl_BusiestDay.l0 : Nat → List (S40) → Int → Int → Int → Int → Option (Int × Int × Int)
  | 0, _, _, _, _, _ => none
  | k + 1, x1, x3, x12, x13, x14 => if x14 ≤ x3 then (impl_BusiestDay.l1 k x1 x3 x12 x13 x14 0 x1 (x1.length : Int) 0) else (some (x12, x13, 0))
def impl_BusiestDay.l1 : Nat → List (S40) → Int → Int → Int → Int → Int → List (S40) → Int → Int → Option (Int × Int × Int)
  | 0, _, _, _, _, _, _, _, _, _ => none
  | k + 1, x1, x3, x12, x13, x14, x15, x34, x35, x36 => if x36 < x35 then (if 0 ≤ x36 then (if x36 < (x34.length : Int) then ((impl_Walker_comes.f ((rd_T40 x34 x36).f0) ((rd_T40 x34 x36).f1) ((rd_T40 x34 x36).f2) ((rd_T40 x34 x36).f3) ((rd_T40 x34 x36).f4) ((rd_T40 x34 x36).f5) x14).bind fun t576 => (if t576 = true then (impl_BusiestDay.l1 k x1 x3 x12 x13 x14 (wrap64 (x15 + (wrap64 ((rd_T40 x34 x36).f4)))) x34 x35 (wrap64 (x36 + 1))) else (impl_BusiestDay.l1 k x1 x3 x12 x13 x14 x15 x34 x35 (wrap64 (x36 + 1))))) else (none)) else (none)) else (if x15 > x13 then (impl_BusiestDay.l0 k x1 x3 x14 x15 (wrap64 (x14 + 1))) else (impl_BusiestDay.l0 k x1 x3 x12 x13 (wrap64 (x14 + 1))))
end
def impl_BusiestDay.f (k : Nat) (a0 : Int) (l1 : List (S40)) (a2 : Int) (a3 : Int) : Option (Int × Int × Int) := (impl_ValidWalkers.f a0 l1).bind fun t572 => ((impl_spanCode.f k t572 a2 a3).bind fun t573 => (if t573 = 0 then (impl_BusiestDay.l0 k l1 a3 a2 (-1) a2) else (some (0, 0, t573))))
theorem impl_BusiestDay.mono_l : ∀ k, (∀ y0 y1 y2 y3 y4, LeO (impl_BusiestDay.l0 k y0 y1 y2 y3 y4) (impl_BusiestDay.l0 (k + 1) y0 y1 y2 y3 y4)) ∧ (∀ y0 y1 y2 y3 y4 y5 y6 y7 y8, LeO (impl_BusiestDay.l1 k y0 y1 y2 y3 y4 y5 y6 y7 y8) (impl_BusiestDay.l1 (k + 1) y0 y1 y2 y3 y4 y5 y6 y7 y8))
  | 0 => ⟨fun _ _ _ _ _ r h => by simp [impl_BusiestDay.l0] at h, fun _ _ _ _ _ _ _ _ _ r h => by simp [impl_BusiestDay.l1] at h⟩
  | k + 1 => by
    obtain ⟨ih0, ih1⟩ := impl_BusiestDay.mono_l k
    refine ⟨?_, ?_⟩
    · intro y0 y1 y2 y3 y4
      unfold impl_BusiestDay.l0
      repeat' first
      | (with_reducible exact ih0 _ _ _ _ _)
      | (with_reducible exact ih1 _ _ _ _ _ _ _ _ _)
      | (with_reducible exact impl_spanCode.mono _ _ _ _)
      | (with_reducible exact LeO.refl _)
      | (with_reducible exact LeO.none _)
      | (with_reducible refine LeO.ite ?_ ?_)
      | (with_reducible refine LeO.bind ?_ (fun _ => ?_))
      | exact ih0 _ _ _ _ _
      | exact ih1 _ _ _ _ _ _ _ _ _
      | exact impl_spanCode.mono _ _ _ _
      | exact LeO.none _
      | refine LeO.ite ?_ ?_
      | refine LeO.bind ?_ (fun _ => ?_)
    · intro y0 y1 y2 y3 y4 y5 y6 y7 y8
      unfold impl_BusiestDay.l1
      repeat' first
      | (with_reducible exact ih0 _ _ _ _ _)
      | (with_reducible exact ih1 _ _ _ _ _ _ _ _ _)
      | (with_reducible exact impl_spanCode.mono _ _ _ _)
      | (with_reducible exact LeO.refl _)
      | (with_reducible exact LeO.none _)
      | (with_reducible refine LeO.ite ?_ ?_)
      | (with_reducible refine LeO.bind ?_ (fun _ => ?_))
      | exact ih0 _ _ _ _ _
      | exact ih1 _ _ _ _ _ _ _ _ _
      | exact impl_spanCode.mono _ _ _ _
      | exact LeO.none _
      | refine LeO.ite ?_ ?_
      | refine LeO.bind ?_ (fun _ => ?_)
theorem impl_BusiestDay.mono : ∀ a0 a1 a2 a3 k, LeO (impl_BusiestDay.f k a0 a1 a2 a3) (impl_BusiestDay.f (k + 1) a0 a1 a2 a3) := by
  intro a0 a1 a2 a3 k
  obtain ⟨ih0, ih1⟩ := impl_BusiestDay.mono_l k
  unfold impl_BusiestDay.f
  repeat' first
      | (with_reducible exact ih0 _ _ _ _ _)
      | (with_reducible exact ih1 _ _ _ _ _ _ _ _ _)
      | (with_reducible exact impl_spanCode.mono _ _ _ _)
      | (with_reducible exact LeO.refl _)
      | (with_reducible exact LeO.none _)
      | (with_reducible refine LeO.ite ?_ ?_)
      | (with_reducible refine LeO.bind ?_ (fun _ => ?_))
      | exact ih0 _ _ _ _ _
      | exact ih1 _ _ _ _ _ _ _ _ _
      | exact impl_spanCode.mono _ _ _ _
      | exact LeO.none _
      | refine LeO.ite ?_ ?_
      | refine LeO.bind ?_ (fun _ => ?_)
set_option maxHeartbeats 8000000 in
set_option maxRecDepth 100000 in
theorem impl_BusiestDay.calls (k : Nat) (a0 : Int) (A1 : Option Addr) (c1 : Nat) (l1 : List (S40)) (a2 : Int) (a3 : Int) (r1 : Int) (r2 : Int) (r3 : Int) (w : World) (hr1 : Kd.C k40 w A1 l1.length l1) (hc1 : l1.length ≤ c1) (h : impl_BusiestDay.f k a0 l1 a2 a3 = some (r1, r2, r3)) :
    Calls Try.prog 49 #[.int .i64 a0, .slice A1 l1.length c1, .int .i64 a2, .int .i64 a3] w fun e w' => e = .returned (.tuple #[.int .i64 r1, .int .i64 r2, .int .i64 r3]) ∧ Below w.heap.size w w' := by
  have hu40 := Try.underlying40
  have HR1 := Aside0.mk hr1
  have HC1 := Aside0.mk hc1
  clear hr1 hc1
  have HB := Aside0.mk (Below.refl w.heap.size w)
  have H : ((impl_ValidWalkers.f a0 l1).bind fun t572 => ((impl_spanCode.f k t572 a2 a3).bind fun t573 => (if t573 = 0 then (impl_BusiestDay.l0 k l1 a3 a2 (-1) a2) else (some (0, 0, t573))))) = some (r1, r2, r3) := h
  clear h
  replace H := Option.bind_eq_some_iff.mp H
  obtain ⟨t572, A50, H⟩ := H
  replace H : ((impl_spanCode.f k t572 a2 a3).bind fun t573 => (if t573 = 0 then (impl_BusiestDay.l0 k l1 a3 a2 (-1) a2) else (some (0, 0, t573)))) = some (r1, r2, r3) := H
  have A5 := Aside0.mk A50
  clear A50
  replace H := Option.bind_eq_some_iff.mp H
  obtain ⟨t573, A60, H⟩ := H
  replace H : (if t573 = 0 then (impl_BusiestDay.l0 k l1 a3 a2 (-1) a2) else (some (0, 0, t573))) = some (r1, r2, r3) := H
  have A6 := Aside0.mk A60
  clear A60
  by_cases c7 : t573 = 0
  · rw [if_pos c7] at H
    have c7b0 : (t573 == 0) = true := beq_iff_eq.mpr c7
    have c7b1 : (t573 != 0) = false := bne_eq_false_iff_eq.mpr c7
    clear c7
    have H' := Aside0.mk H
    clear H
    go_enter Try.func49, Try.ntmps49
    go_wp2_with (first | ((with_reducible refine gate_callee (f := 33) rfl ?_); refine goesL_ (some 20) rfl rfl Try.func33 (by kernel_rfl) rfl #[.int .i64 a0, .slice A1 l1.length c1] rfl (by (try simp only [List.map_toArray, List.map_cons, List.map_nil]); first | done | rfl | (simp only [List.length_drop, List.length_take]; rfl)) ?_; (with_reducible refine (impl_ValidWalkers.calls a0 _ _ l1 t572 _ ?side1 ?side2 A5.out).mono ?_); (case side1 => repeat (first | exact HR1.out | (with_reducible refine Kd.C_alloc ?_ _) | (with_reducible refine Kd.C_drewN ?_ _) | (with_reducible refine Kd.C_drew ?_))); (case side2 => exact HC1.out); rintro e w8 ⟨rfl, hb⟩; refine ⟨_, rfl, ?_⟩; have n0_ := Aside0.mk (below_step (by repeat (first | (with_reducible first | exact HB.out | apply below_alloc | apply pw_below_drewN | apply below_drew1) | exact HB.out)) hb); clear HB; have HB := n0_; clear n0_; (try clear hb); (try clear hb2); (try clear hk); (try clear hi)) | ((with_reducible refine gate_callee (f := 78) rfl ?_); refine goesL_ (some 23) rfl rfl Try.func78 (by kernel_rfl) rfl #[.bool t572, .int .i64 a2, .int .i64 a3] rfl (by (try simp only [List.map_toArray, List.map_cons, List.map_nil]); first | done | rfl | (simp only [List.length_drop, List.length_take]; rfl)) ?_; (with_reducible refine (impl_spanCode.calls k t572 a2 a3 t573 _ A6.out).mono ?_); rintro e w9 ⟨rfl, hb⟩; refine ⟨_, rfl, ?_⟩; have n0_ := Aside0.mk (below_step (by repeat (first | (with_reducible first | exact HB.out | apply below_alloc | apply pw_below_drewN | apply below_drew1) | exact HB.out)) hb); clear HB; have HB := n0_; clear n0_; (try clear hb); (try clear hb2); (try clear hk); (try clear hi)))
    go_loopg [12, 13, 14] k (fun kq v12 v13 v14 w' => ∃ (x12_1 : Int) (x13_1 : Int) (x14_1 : Int), v12 = .int .i64 x12_1 ∧ v13 = .int .i64 x13_1 ∧ v14 = .int .i64 x14_1 ∧ Aside0 (impl_BusiestDay.l0 kq l1 a3 x12_1 x13_1 x14_1 = some (r1, r2, r3)) ∧ Aside0 (kq ≤ k) ∧ Aside0 (Below w.heap.size w w'))
    case atStart => exact ⟨(a2), ((-1)), (a2), (by first | rfl | (simp; done) | (simp [*]; done)), (by first | rfl | (simp; done) | (simp [*]; done)), (by first | rfl | (simp; done) | (simp [*]; done)), H', ⟨Nat.le_refl _⟩, ⟨by repeat (first | (with_reducible first | exact HB.out | apply below_alloc | apply pw_below_drewN | apply below_drew1) | exact HB.out)⟩⟩
    case round =>
      clear H'
      try clear c1
      try clear p2
      try clear c3
      try clear c4
      try clear c7
      try clear c7b0
      try clear c7b1
      obtain ⟨x12_1, x13_1, x14_1, rfl, rfl, rfl, HA, HK1, HB⟩ := hrel
      cases gk with
      | zero => exact absurd HA.out (by simp [impl_BusiestDay.l0])
      | succ k1 =>
        have H := HA.out
        clear HA
        simp only [impl_BusiestDay.l0] at H
        by_cases c10 : x14_1 ≤ a3
        · rw [if_pos c10] at H
          have c10b0 : decide (x14_1 ≤ a3) = true := decide_eq_true c10
          clear c10
          have H' := Aside0.mk H
          clear H
          go_wp2
          go_loopg [15, 36] k1 (fun kq v15 v36 w' => ∃ (x15_2 : Int) (x36_2 : Int), v15 = .int .i64 x15_2 ∧ v36 = .int .i64 x36_2 ∧ Aside0 (impl_BusiestDay.l1 kq l1 a3 x12_1 x13_1 x14_1 x15_2 l1 (l1.length : Int) x36_2 = some (r1, r2, r3)) ∧ Aside0 (kq ≤ k1) ∧ Aside0 (Below w.heap.size w w'))
          case atStart => exact ⟨(0), (0), (by first | rfl | (simp; done) | (simp [*]; done)), (by first | rfl | (simp; done) | (simp [*]; done)), H', ⟨Nat.le_refl _⟩, ⟨by repeat (first | (with_reducible first | exact HB.out | apply below_alloc | apply pw_below_drewN | apply below_drew1) | exact HB.out)⟩⟩
          case round =>
            clear H'
            try clear c1
            try clear p2
            try clear c3
            try clear c4
            try clear c7
            try clear c7b0
            try clear c7b1
            try clear c10
            try clear c10b0
            try clear p2
            obtain ⟨x15_2, x36_2, rfl, rfl, HA, HK2, HB⟩ := hrel
            cases gk with
            | zero => exact absurd HA.out (by simp [impl_BusiestDay.l1])
            | succ k2 =>
              have H := HA.out
              clear HA
              simp only [impl_BusiestDay.l1] at H
              by_cases c11 : x36_2 < (l1.length : Int)
              · rw [if_pos c11] at H
                have c11b0 : decide (x36_2 < (l1.length : Int)) = true := decide_eq_true c11
                clear c11
                by_cases c12 : 0 ≤ x36_2
                · rw [if_pos c12] at H
                  have c12b0 : decide (0 ≤ x36_2) = true := decide_eq_true c12
                  clear c12
                  by_cases c13 : x36_2 < (l1.length : Int)
                  · rw [if_pos c13] at H
                    have c13b0 : decide (x36_2 < (l1.length : Int)) = true := decide_eq_true c13
                    clear c13
                    replace H := Option.bind_eq_some_iff.mp H
                    obtain ⟨t576, A140, H⟩ := H
                    replace H : (if t576 = true then (impl_BusiestDay.l1 k2 l1 a3 x12_1 x13_1 x14_1 (wrap64 (x15_2 + (wrap64 ((rd_T40 l1 x36_2).f4)))) l1 (l1.length : Int) (wrap64 (x36_2 + 1))) else (impl_BusiestDay.l1 k2 l1 a3 x12_1 x13_1 x14_1 x15_2 l1 (l1.length : Int) (wrap64 (x36_2 + 1)))) = some (r1, r2, r3) := H
                    have A14 := Aside0.mk A140
                    clear A140
                    by_cases c15 : t576 = true
                    · subst c15
                      have H1 : (impl_BusiestDay.l1 k2 l1 a3 x12_1 x13_1 x14_1 (wrap64 (x15_2 + (wrap64 ((rd_T40 l1 x36_2).f4)))) l1 (l1.length : Int) (wrap64 (x36_2 + 1))) = some (r1, r2, r3) := by rw [if_pos rfl] at H; exact H
                      clear H
                      have H := H1
                      clear H1
                      have H' := Aside0.mk H
                      clear H
                      have p574 : 0 ≤ (x36_2 : Int) := of_decide_eq_true (by first | (with_reducible assumption) | assumption)
                      have q574 : x36_2 < (l1.length : Int) := of_decide_eq_true (by first | (with_reducible assumption) | assumption)
                      obtain ⟨ad574, e574, hx574_0, hx574_1, hx574_2, hx574_3, hx574_4, hx574_5⟩ := at_T40 HR1.out x36_2 p574 q574
                      cases e574
                      replace hx574_0 := (HB.out.cell (World.block_lt_of_cell? w _ hx574_0)).trans hx574_0
                      replace hx574_1 := (HB.out.cell (World.block_lt_of_cell? w _ hx574_1)).trans hx574_1
                      replace hx574_2 := (HB.out.cell (World.block_lt_of_cell? w _ hx574_2)).trans hx574_2
                      replace hx574_3 := (HB.out.cell (World.block_lt_of_cell? w _ hx574_3)).trans hx574_3
                      replace hx574_4 := (HB.out.cell (World.block_lt_of_cell? w _ hx574_4)).trans hx574_4
                      replace hx574_5 := (HB.out.cell (World.block_lt_of_cell? w _ hx574_5)).trans hx574_5
                      replace p574 := eq_true p574
                      replace q574 := eq_true q574
                      go_wp2_with (first | ((with_reducible refine gate_dst (N := 17) rfl ?_); refine box_event ?hg (N := 17) ?hd (cs := #[.int .i16 0, .int .i16 0, .int .i16 0, .int .i16 0, .int .i16 0, .int .i8 0]) (t := 40) ?hr ?_; (case hd => rfl); (case hg => rfl); (case hr => first | (go_simp; done) | (go_simp; rfl)); intro gb575 hg w16 hbox hb; have n0_ := Aside0.mk (below_step (by repeat (first | (with_reducible first | exact HB.out | apply below_alloc | apply pw_below_drewN | apply below_drew1) | exact HB.out)) hb); have n1_ := Aside0.mk (hbox); have n2_ := Aside0.mk ((by rw [hg]; exact (below_size (by repeat (first | (with_reducible first | exact HB.out | apply below_alloc | apply pw_below_drewN | apply below_drew1) | exact HB.out))) : w.heap.size ≤ gb575)); have n3_ := Aside0.mk ((by rw [hg]; exact (below_size (by repeat (first | (with_reducible first | exact HB.out | apply below_alloc | apply pw_below_drewN | apply below_drew1) | exact HB.out))) : w.heap.size ≤ gb575)); clear HB; have HB := n0_; have BK575 := n1_; have GW575 := n2_; have GE575 := n3_; clear n0_ n1_ n2_ n3_; clear hb hbox hg; have hcz17_0 : w16.cell? ⟨gb575, 0, none⟩ = some (.int .i16 0) := (blk_cell BK575.out 0).trans rfl; have hcz17_1 : w16.cell? ⟨gb575, 1, none⟩ = some (.int .i16 0) := (blk_cell BK575.out 1).trans rfl; have hcz17_2 : w16.cell? ⟨gb575, 2, none⟩ = some (.int .i16 0) := (blk_cell BK575.out 2).trans rfl; have hcz17_3 : w16.cell? ⟨gb575, 3, none⟩ = some (.int .i16 0) := (blk_cell BK575.out 3).trans rfl; have hcz17_4 : w16.cell? ⟨gb575, 4, none⟩ = some (.int .i16 0) := (blk_cell BK575.out 4).trans rfl; have hcz17_5 : w16.cell? ⟨gb575, 5, none⟩ = some (.int .i8 0) := (blk_cell BK575.out 5).trans rfl; have hfz17_0 := blk_frozen BK575.out 0; have hfz17_1 := blk_frozen BK575.out 1; have hfz17_2 := blk_frozen BK575.out 2; have hfz17_3 := blk_frozen BK575.out 3; have hfz17_4 := blk_frozen BK575.out 4; have hfz17_5 := blk_frozen BK575.out 5) | ((with_reducible refine gate_callee (f := 61) rfl ?_); refine goesL_ (some 42) rfl rfl Try.func61 (by kernel_rfl) rfl #[.agg #[.int .i16 ((rd_T40 l1 x36_2).f0), .int .i16 ((rd_T40 l1 x36_2).f1), .int .i16 ((rd_T40 l1 x36_2).f2), .int .i16 ((rd_T40 l1 x36_2).f3), .int .i16 ((rd_T40 l1 x36_2).f4), .int .i8 ((rd_T40 l1 x36_2).f5)], .int .i64 x14_1] rfl (by (try simp only [List.map_toArray, List.map_cons, List.map_nil]); first | done | rfl | (simp only [List.length_drop, List.length_take]; rfl)) ?_; (with_reducible refine (impl_Walker_comes.calls ((rd_T40 l1 x36_2).f0) ((rd_T40 l1 x36_2).f1) ((rd_T40 l1 x36_2).f2) ((rd_T40 l1 x36_2).f3) ((rd_T40 l1 x36_2).f4) ((rd_T40 l1 x36_2).f5) x14_1 true _ A14.out).mono ?_); rintro e w18 ⟨rfl, hb⟩; refine ⟨_, rfl, ?_⟩; have n0_ := Aside0.mk (blk_below (g := gb575) (o := .cells #[.int .i16 ((rd_T40 l1 x36_2).f0), .int .i16 ((rd_T40 l1 x36_2).f1), .int .i16 ((rd_T40 l1 x36_2).f2), .int .i16 ((rd_T40 l1 x36_2).f3), .int .i16 ((rd_T40 l1 x36_2).f4), .int .i8 ((rd_T40 l1 x36_2).f5)] 40 (0, 0)) (by (with_reducible repeat (first | refine blk_drewN ?_ _ | refine blk_drew ?_ | refine blk_alloc ?_ _)); refine blk_put (cs := #[.int .i16 ((rd_T40 l1 x36_2).f0), .int .i16 ((rd_T40 l1 x36_2).f1), .int .i16 ((rd_T40 l1 x36_2).f2), .int .i16 ((rd_T40 l1 x36_2).f3), .int .i16 ((rd_T40 l1 x36_2).f4), .int .i8 0]) ?_ 5 _ rfl; (with_reducible repeat (first | refine blk_drewN ?_ _ | refine blk_drew ?_ | refine blk_alloc ?_ _)); refine blk_put (cs := #[.int .i16 ((rd_T40 l1 x36_2).f0), .int .i16 ((rd_T40 l1 x36_2).f1), .int .i16 ((rd_T40 l1 x36_2).f2), .int .i16 ((rd_T40 l1 x36_2).f3), .int .i16 0, .int .i8 0]) ?_ 4 _ rfl; (with_reducible repeat (first | refine blk_drewN ?_ _ | refine blk_drew ?_ | refine blk_alloc ?_ _)); refine blk_put (cs := #[.int .i16 ((rd_T40 l1 x36_2).f0), .int .i16 ((rd_T40 l1 x36_2).f1), .int .i16 ((rd_T40 l1 x36_2).f2), .int .i16 0, .int .i16 0, .int .i8 0]) ?_ 3 _ rfl; (with_reducible repeat (first | refine blk_drewN ?_ _ | refine blk_drew ?_ | refine blk_alloc ?_ _)); refine blk_put (cs := #[.int .i16 ((rd_T40 l1 x36_2).f0), .int .i16 ((rd_T40 l1 x36_2).f1), .int .i16 0, .int .i16 0, .int .i16 0, .int .i8 0]) ?_ 2 _ rfl; (with_reducible repeat (first | refine blk_drewN ?_ _ | refine blk_drew ?_ | refine blk_alloc ?_ _)); refine blk_put (cs := #[.int .i16 ((rd_T40 l1 x36_2).f0), .int .i16 0, .int .i16 0, .int .i16 0, .int .i16 0, .int .i8 0]) ?_ 1 _ rfl; (with_reducible repeat (first | refine blk_drewN ?_ _ | refine blk_drew ?_ | refine blk_alloc ?_ _)); refine blk_put (cs := #[.int .i16 0, .int .i16 0, .int .i16 0, .int .i16 0, .int .i16 0, .int .i8 0]) ?_ 0 _ rfl; (with_reducible repeat (first | refine blk_drewN ?_ _ | refine blk_drew ?_ | refine blk_alloc ?_ _)); exact BK575.out) hb); have n1_ := Aside0.mk (below_step (by repeat (first | (with_reducible first | exact HB.out | apply below_alloc | apply pw_below_drewN | apply below_drew1 | refine below_set ?_ GE575.out) | exact HB.out)) hb); clear BK575; clear HB; have BK575 := n0_; have HB := n1_; clear n0_ n1_; (try clear hb); (try clear hb2); (try clear hk); (try clear hi); have hcz19_0 : w18.cell? ⟨gb575, 0, none⟩ = some (.int .i16 ((rd_T40 l1 x36_2).f0)) := (blk_cell BK575.out 0).trans rfl; have hcz19_1 : w18.cell? ⟨gb575, 1, none⟩ = some (.int .i16 ((rd_T40 l1 x36_2).f1)) := (blk_cell BK575.out 1).trans rfl; have hcz19_2 : w18.cell? ⟨gb575, 2, none⟩ = some (.int .i16 ((rd_T40 l1 x36_2).f2)) := (blk_cell BK575.out 2).trans rfl; have hcz19_3 : w18.cell? ⟨gb575, 3, none⟩ = some (.int .i16 ((rd_T40 l1 x36_2).f3)) := (blk_cell BK575.out 3).trans rfl; have hcz19_4 : w18.cell? ⟨gb575, 4, none⟩ = some (.int .i16 ((rd_T40 l1 x36_2).f4)) := (blk_cell BK575.out 4).trans rfl; have hcz19_5 : w18.cell? ⟨gb575, 5, none⟩ = some (.int .i8 ((rd_T40 l1 x36_2).f5)) := (blk_cell BK575.out 5).trans rfl; have hfz19_0 := blk_frozen BK575.out 0; have hfz19_1 := blk_frozen BK575.out 1; have hfz19_2 := blk_frozen BK575.out 2; have hfz19_3 := blk_frozen BK575.out 3; have hfz19_4 := blk_frozen BK575.out 4; have hfz19_5 := blk_frozen BK575.out 5))
                      go_roundg k2
                      case measure => have := HK1.out; have := HK2.out; omega
                      case rel => exact ⟨(wrap64 (x15_2 + (wrap64 ((rd_T40 l1 x36_2).f4)))), (wrap64 (x36_2 + 1)), (by first | rfl | (simp; done) | (simp [*]; done)), (by first | rfl | (simp; done) | (simp [*]; done)), H', ⟨by have := HK1.out; have := HK2.out; omega⟩, ⟨by repeat (first | (with_reducible first | exact HB.out | apply below_alloc | apply pw_below_drewN | apply below_drew1 | refine below_set ?_ GE575.out) | exact HB.out)⟩⟩
                    · replace c15 := Bool.eq_false_iff.mpr c15
                      subst c15
                      have H1 : (impl_BusiestDay.l1 k2 l1 a3 x12_1 x13_1 x14_1 x15_2 l1 (l1.length : Int) (wrap64 (x36_2 + 1))) = some (r1, r2, r3) := by rw [if_neg (show ¬ (false = true) by decide)] at H; exact H
                      clear H
                      have H := H1
                      clear H1
                      have H' := Aside0.mk H
                      clear H
                      have p574 : 0 ≤ (x36_2 : Int) := of_decide_eq_true (by first | (with_reducible assumption) | assumption)
                      have q574 : x36_2 < (l1.length : Int) := of_decide_eq_true (by first | (with_reducible assumption) | assumption)
                      obtain ⟨ad574, e574, hx574_0, hx574_1, hx574_2, hx574_3, hx574_4, hx574_5⟩ := at_T40 HR1.out x36_2 p574 q574
                      cases e574
                      replace hx574_0 := (HB.out.cell (World.block_lt_of_cell? w _ hx574_0)).trans hx574_0
                      replace hx574_1 := (HB.out.cell (World.block_lt_of_cell? w _ hx574_1)).trans hx574_1
                      replace hx574_2 := (HB.out.cell (World.block_lt_of_cell? w _ hx574_2)).trans hx574_2
                      replace hx574_3 := (HB.out.cell (World.block_lt_of_cell? w _ hx574_3)).trans hx574_3
                      replace hx574_4 := (HB.out.cell (World.block_lt_of_cell? w _ hx574_4)).trans hx574_4
                      replace hx574_5 := (HB.out.cell (World.block_lt_of_cell? w _ hx574_5)).trans hx574_5
                      replace p574 := eq_true p574
                      replace q574 := eq_true q574
                      go_wp2_with (first | ((with_reducible refine gate_dst (N := 17) rfl ?_); refine box_event ?hg (N := 17) ?hd (cs := #[.int .i16 0, .int .i16 0, .int .i16 0, .int .i16 0, .int .i16 0, .int .i8 0]) (t := 40) ?hr ?_; (case hd => rfl); (case hg => rfl); (case hr => first | (go_simp; done) | (go_simp; rfl)); intro gb575 hg w20 hbox hb; have n0_ := Aside0.mk (below_step (by repeat (first | (with_reducible first | exact HB.out | apply below_alloc | apply pw_below_drewN | apply below_drew1) | exact HB.out)) hb); have n1_ := Aside0.mk (hbox); have n2_ := Aside0.mk ((by rw [hg]; exact (below_size (by repeat (first | (with_reducible first | exact HB.out | apply below_alloc | apply pw_below_drewN | apply below_drew1) | exact HB.out))) : w.heap.size ≤ gb575)); have n3_ := Aside0.mk ((by rw [hg]; exact (below_size (by repeat (first | (with_reducible first | exact HB.out | apply below_alloc | apply pw_below_drewN | apply below_drew1) | exact HB.out))) : w.heap.size ≤ gb575)); clear HB; have HB := n0_; have BK575 := n1_; have GW575 := n2_; have GE575 := n3_; clear n0_ n1_ n2_ n3_; clear hb hbox hg; have hcz21_0 : w20.cell? ⟨gb575, 0, none⟩ = some (.int .i16 0) := (blk_cell BK575.out 0).trans rfl; have hcz21_1 : w20.cell? ⟨gb575, 1, none⟩ = some (.int .i16 0) := (blk_cell BK575.out 1).trans rfl; have hcz21_2 : w20.cell? ⟨gb575, 2, none⟩ = some (.int .i16 0) := (blk_cell BK575.out 2).trans rfl; have hcz21_3 : w20.cell? ⟨gb575, 3, none⟩ = some (.int .i16 0) := (blk_cell BK575.out 3).trans rfl; have hcz21_4 : w20.cell? ⟨gb575, 4, none⟩ = some (.int .i16 0) := (blk_cell BK575.out 4).trans rfl; have hcz21_5 : w20.cell? ⟨gb575, 5, none⟩ = some (.int .i8 0) := (blk_cell BK575.out 5).trans rfl; have hfz21_0 := blk_frozen BK575.out 0; have hfz21_1 := blk_frozen BK575.out 1; have hfz21_2 := blk_frozen BK575.out 2; have hfz21_3 := blk_frozen BK575.out 3; have hfz21_4 := blk_frozen BK575.out 4; have hfz21_5 := blk_frozen BK575.out 5) | ((with_reducible refine gate_callee (f := 61) rfl ?_); refine goesL_ (some 42) rfl rfl Try.func61 (by kernel_rfl) rfl #[.agg #[.int .i16 ((rd_T40 l1 x36_2).f0), .int .i16 ((rd_T40 l1 x36_2).f1), .int .i16 ((rd_T40 l1 x36_2).f2), .int .i16 ((rd_T40 l1 x36_2).f3), .int .i16 ((rd_T40 l1 x36_2).f4), .int .i8 ((rd_T40 l1 x36_2).f5)], .int .i64 x14_1] rfl (by (try simp only [List.map_toArray, List.map_cons, List.map_nil]); first | done | rfl | (simp only [List.length_drop, List.length_take]; rfl)) ?_; (with_reducible refine (impl_Walker_comes.calls ((rd_T40 l1 x36_2).f0) ((rd_T40 l1 x36_2).f1) ((rd_T40 l1 x36_2).f2) ((rd_T40 l1 x36_2).f3) ((rd_T40 l1 x36_2).f4) ((rd_T40 l1 x36_2).f5) x14_1 false _ A14.out).mono ?_); rintro e w22 ⟨rfl, hb⟩; refine ⟨_, rfl, ?_⟩; have n0_ := Aside0.mk (blk_below (g := gb575) (o := .cells #[.int .i16 ((rd_T40 l1 x36_2).f0), .int .i16 ((rd_T40 l1 x36_2).f1), .int .i16 ((rd_T40 l1 x36_2).f2), .int .i16 ((rd_T40 l1 x36_2).f3), .int .i16 ((rd_T40 l1 x36_2).f4), .int .i8 ((rd_T40 l1 x36_2).f5)] 40 (0, 0)) (by (with_reducible repeat (first | refine blk_drewN ?_ _ | refine blk_drew ?_ | refine blk_alloc ?_ _)); refine blk_put (cs := #[.int .i16 ((rd_T40 l1 x36_2).f0), .int .i16 ((rd_T40 l1 x36_2).f1), .int .i16 ((rd_T40 l1 x36_2).f2), .int .i16 ((rd_T40 l1 x36_2).f3), .int .i16 ((rd_T40 l1 x36_2).f4), .int .i8 0]) ?_ 5 _ rfl; (with_reducible repeat (first | refine blk_drewN ?_ _ | refine blk_drew ?_ | refine blk_alloc ?_ _)); refine blk_put (cs := #[.int .i16 ((rd_T40 l1 x36_2).f0), .int .i16 ((rd_T40 l1 x36_2).f1), .int .i16 ((rd_T40 l1 x36_2).f2), .int .i16 ((rd_T40 l1 x36_2).f3), .int .i16 0, .int .i8 0]) ?_ 4 _ rfl; (with_reducible repeat (first | refine blk_drewN ?_ _ | refine blk_drew ?_ | refine blk_alloc ?_ _)); refine blk_put (cs := #[.int .i16 ((rd_T40 l1 x36_2).f0), .int .i16 ((rd_T40 l1 x36_2).f1), .int .i16 ((rd_T40 l1 x36_2).f2), .int .i16 0, .int .i16 0, .int .i8 0]) ?_ 3 _ rfl; (with_reducible repeat (first | refine blk_drewN ?_ _ | refine blk_drew ?_ | refine blk_alloc ?_ _)); refine blk_put (cs := #[.int .i16 ((rd_T40 l1 x36_2).f0), .int .i16 ((rd_T40 l1 x36_2).f1), .int .i16 0, .int .i16 0, .int .i16 0, .int .i8 0]) ?_ 2 _ rfl; (with_reducible repeat (first | refine blk_drewN ?_ _ | refine blk_drew ?_ | refine blk_alloc ?_ _)); refine blk_put (cs := #[.int .i16 ((rd_T40 l1 x36_2).f0), .int .i16 0, .int .i16 0, .int .i16 0, .int .i16 0, .int .i8 0]) ?_ 1 _ rfl; (with_reducible repeat (first | refine blk_drewN ?_ _ | refine blk_drew ?_ | refine blk_alloc ?_ _)); refine blk_put (cs := #[.int .i16 0, .int .i16 0, .int .i16 0, .int .i16 0, .int .i16 0, .int .i8 0]) ?_ 0 _ rfl; (with_reducible repeat (first | refine blk_drewN ?_ _ | refine blk_drew ?_ | refine blk_alloc ?_ _)); exact BK575.out) hb); have n1_ := Aside0.mk (below_step (by repeat (first | (with_reducible first | exact HB.out | apply below_alloc | apply pw_below_drewN | apply below_drew1 | refine below_set ?_ GE575.out) | exact HB.out)) hb); clear BK575; clear HB; have BK575 := n0_; have HB := n1_; clear n0_ n1_; (try clear hb); (try clear hb2); (try clear hk); (try clear hi)))
                      go_roundg k2
                      case measure => have := HK1.out; have := HK2.out; omega
                      case rel => exact ⟨(x15_2), (wrap64 (x36_2 + 1)), (by first | rfl | (simp; done) | (simp [*]; done)), (by first | rfl | (simp; done) | (simp [*]; done)), H', ⟨by have := HK1.out; have := HK2.out; omega⟩, ⟨by repeat (first | (with_reducible first | exact HB.out | apply below_alloc | apply pw_below_drewN | apply below_drew1 | refine below_set ?_ GE575.out) | exact HB.out)⟩⟩
                  · rw [if_neg c13] at H
                    exact absurd H (by simp)
                · rw [if_neg c12] at H
                  exact absurd H (by simp)
              · rw [if_neg c11] at H
                have c11b0 : decide (x36_2 < (l1.length : Int)) = false := decide_eq_false c11
                clear c11
                by_cases c23 : x15_2 > x13_1
                · rw [if_pos c23] at H
                  have c23b0 : decide (x13_1 < x15_2) = true := decide_eq_true c23
                  clear c23
                  have H' := Aside0.mk H
                  clear H
                  go_wp2
                  go_roundg k2
                  case measure => have := HK1.out; have := HK2.out; omega
                  case rel => exact ⟨(x14_1), (x15_2), (wrap64 (x14_1 + 1)), (by first | rfl | (simp; done) | (simp [*]; done)), (by first | rfl | (simp; done) | (simp [*]; done)), (by first | rfl | (simp; done) | (simp [*]; done)), H', ⟨by have := HK1.out; have := HK2.out; omega⟩, ⟨by repeat (first | (with_reducible first | exact HB.out | apply below_alloc | apply pw_below_drewN | apply below_drew1) | exact HB.out)⟩⟩
                · rw [if_neg c23] at H
                  have c23b0 : decide (x13_1 < x15_2) = false := decide_eq_false c23
                  clear c23
                  have H' := Aside0.mk H
                  clear H
                  go_wp2
                  go_roundg k2
                  case measure => have := HK1.out; have := HK2.out; omega
                  case rel => exact ⟨(x12_1), (x13_1), (wrap64 (x14_1 + 1)), (by first | rfl | (simp; done) | (simp [*]; done)), (by first | rfl | (simp; done) | (simp [*]; done)), (by first | rfl | (simp; done) | (simp [*]; done)), H', ⟨by have := HK1.out; have := HK2.out; omega⟩, ⟨by repeat (first | (with_reducible first | exact HB.out | apply below_alloc | apply pw_below_drewN | apply below_drew1) | exact HB.out)⟩⟩
        · rw [if_neg c10] at H
          have c10b0 : decide (x14_1 ≤ a3) = false := decide_eq_false c10
          clear c10
          simp only [Option.some.injEq, Prod.mk.injEq] at H
          obtain ⟨rfl, rfl, rfl⟩ := H
          go_wp2
          go_ret3
          exact ⟨by first | rfl | (simp [errW_none, errW_some] <;> rfl) | (simp [*, errW_none, errW_some] <;> rfl), by repeat (first | (with_reducible first | exact HB.out | apply below_alloc | apply pw_below_drewN | apply below_drew1) | exact HB.out)⟩
  · rw [if_neg c7] at H
    have c7b0 : (t573 == 0) = false := beq_eq_false_iff_ne.mpr c7
    have c7b1 : (t573 != 0) = true := bne_iff_ne.mpr c7
    simp only [Option.some.injEq, Prod.mk.injEq] at H
    obtain ⟨rfl, rfl, rfl⟩ := H
    go_enter Try.func49, Try.ntmps49
    go_wp2_with (first | ((with_reducible refine gate_callee (f := 33) rfl ?_); refine goesL_ (some 20) rfl rfl Try.func33 (by kernel_rfl) rfl #[.int .i64 a0, .slice A1 l1.length c1] rfl (by (try simp only [List.map_toArray, List.map_cons, List.map_nil]); first | done | rfl | (simp only [List.length_drop, List.length_take]; rfl)) ?_; (with_reducible refine (impl_ValidWalkers.calls a0 _ _ l1 t572 _ ?side1 ?side2 A5.out).mono ?_); (case side1 => repeat (first | exact HR1.out | (with_reducible refine Kd.C_alloc ?_ _) | (with_reducible refine Kd.C_drewN ?_ _) | (with_reducible refine Kd.C_drew ?_))); (case side2 => exact HC1.out); rintro e w24 ⟨rfl, hb⟩; refine ⟨_, rfl, ?_⟩; have n0_ := Aside0.mk (below_step (by repeat (first | (with_reducible first | exact HB.out | apply below_alloc | apply pw_below_drewN | apply below_drew1) | exact HB.out)) hb); clear HB; have HB := n0_; clear n0_; (try clear hb); (try clear hb2); (try clear hk); (try clear hi)) | ((with_reducible refine gate_callee (f := 78) rfl ?_); refine goesL_ (some 23) rfl rfl Try.func78 (by kernel_rfl) rfl #[.bool t572, .int .i64 a2, .int .i64 a3] rfl (by (try simp only [List.map_toArray, List.map_cons, List.map_nil]); first | done | rfl | (simp only [List.length_drop, List.length_take]; rfl)) ?_; (with_reducible refine (impl_spanCode.calls k t572 a2 a3 t573 _ A6.out).mono ?_); rintro e w25 ⟨rfl, hb⟩; refine ⟨_, rfl, ?_⟩; have n0_ := Aside0.mk (below_step (by repeat (first | (with_reducible first | exact HB.out | apply below_alloc | apply pw_below_drewN | apply below_drew1) | exact HB.out)) hb); clear HB; have HB := n0_; clear n0_; (try clear hb); (try clear hb2); (try clear hk); (try clear hi)))
    go_ret3
    exact ⟨by first | rfl | (simp [errW_none, errW_some] <;> rfl) | (simp [*, errW_none, errW_some] <;> rfl), by repeat (first | (with_reducible first | exact HB.out | apply below_alloc | apply pw_below_drewN | apply below_drew1) | exact HB.out)⟩

end Go.Proofs.Ytleeponhjgmioaa.Pa
