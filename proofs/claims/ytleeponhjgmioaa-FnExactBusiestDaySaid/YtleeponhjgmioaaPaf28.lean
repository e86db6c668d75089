-- Written by this claim's own program (printg.py) out of the translation; Lean checks it.
import Derived.Test.YtleeponhjgmioaaPa0
import Derived.Test.YtleeponhjgmioaaPaf68
namespace Go.Proofs.Ytleeponhjgmioaa.Pa
open Go.RowKit Go.Proofs.YtleeponhjgmioaaW.PrintWords Go.Proofs.YtleeponhjgmioaaW.PrintLast Go.Proofs.YtleeponhjgmioaaW.PrintMore
attribute [local go_sem] max2_int min2_int max_two min_two max_three min_three max_four min_four   -- for this text's walks alone
set_option linter.unusedVariables false
set_option linter.unusedSimpArgs false

/-! ### laws_toWalker: function 28 -/
def laws_toWalker.f (a0_0 : Int) (a0_1 : Int) (a0_2 : Int) (a0_3 : Int) (a0_4 : Int) (a0_5 : Int) : Option (Int × Int × Int × Int × Int × Int) := some (a0_0, a0_1, a0_2, a0_3, a0_4, a0_5)
set_option maxHeartbeats 8000000 in
set_option maxRecDepth 100000 in
theorem laws_toWalker.calls (a0_0 : Int) (a0_1 : Int) (a0_2 : Int) (a0_3 : Int) (a0_4 : Int) (a0_5 : Int) (r1 : Int) (r2 : Int) (r3 : Int) (r4 : Int) (r5 : Int) (r6 : Int) (w : World) (h : laws_toWalker.f a0_0 a0_1 a0_2 a0_3 a0_4 a0_5 = some (r1, r2, r3, r4, r5, r6)) :
    Calls Try.prog 28 #[.agg #[.int .i16 a0_0, .int .i16 a0_1, .int .i16 a0_2, .int .i16 a0_3, .int .i16 a0_4, .int .i8 a0_5]] w fun e w' => e = .returned (.agg #[.int .i16 r1, .int .i16 r2, .int .i16 r3, .int .i16 r4, .int .i16 r5, .int .i8 r6]) ∧ Below w.heap.size w w' := by
  have hu37 := Try.underlying37
  have hu40 := Try.underlying40
  have HB := Aside0.mk (Below.refl w.heap.size w)
  have H : (some (a0_0, a0_1, a0_2, a0_3, a0_4, a0_5)) = some (r1, r2, r3, r4, r5, r6) := h
  clear h
  simp only [Option.some.injEq, Prod.mk.injEq] at H
  obtain ⟨rfl, rfl, rfl, rfl, rfl, rfl⟩ := H
  go_enter Try.func28, Try.ntmps28
  go_wp2_with (first | ((with_reducible refine gate_dst (N := 1) rfl ?_); refine box_event ?hg (N := 1) ?hd (cs := #[.int .i16 a0_0, .int .i16 a0_1, .int .i16 a0_2, .int .i16 a0_3, .int .i16 a0_4, .int .i8 a0_5]) (t := 37) ?hr ?_; (case hd => rfl); (case hg => rfl); (case hr => first | (go_simp; done) | (go_simp; rfl)); intro gb242 hg w2 hbox hb; have n0_ := Aside0.mk (below_step (by repeat (first | (with_reducible first | exact HB.out | apply below_alloc | apply pw_below_drewN | apply below_drew1) | exact HB.out)) hb); have n1_ := Aside0.mk (hbox); have n2_ := Aside0.mk ((by rw [hg]; exact (below_size (by repeat (first | (with_reducible first | exact HB.out | apply below_alloc | apply pw_below_drewN | apply below_drew1) | exact HB.out))) : w.heap.size ≤ gb242)); have n3_ := Aside0.mk ((by rw [hg]; exact (below_size (by repeat (first | (with_reducible first | exact HB.out | apply below_alloc | apply pw_below_drewN | apply below_drew1) | exact HB.out))) : w.heap.size ≤ gb242)); clear HB; have HB := n0_; have BK242 := n1_; have GW242 := n2_; have GE242 := n3_; clear n0_ n1_ n2_ n3_; clear hb hbox hg) | ((with_reducible refine gate_dst (N := 2) rfl ?_); refine box_event ?hg (N := 2) ?hd (cs := #[.int .i16 0, .int .i16 0, .int .i16 0, .int .i16 0, .int .i16 0, .int .i8 0]) (t := 40) ?hr ?_; (case hd => rfl); (case hg => rfl); (case hr => first | (go_simp; done) | (go_simp; rfl)); intro gb243 hg w3 hbox hb; have n0_ := Aside0.mk (blk_below (g := gb242) (o := .cells #[.int .i16 a0_0, .int .i16 a0_1, .int .i16 a0_2, .int .i16 a0_3, .int .i16 a0_4, .int .i8 a0_5] 37 (0, 0)) (by (with_reducible repeat (first | refine blk_drewN ?_ _ | refine blk_drew ?_ | refine blk_alloc ?_ _)); exact BK242.out) hb); have n1_ := Aside0.mk (below_step (by repeat (first | (with_reducible first | exact HB.out | apply below_alloc | apply pw_below_drewN | apply below_drew1 | refine below_set ?_ GE242.out) | exact HB.out)) hb); have n2_ := Aside0.mk (hbox); have n3_ := Aside0.mk ((by rw [hg]; exact (below_size (by repeat (first | (with_reducible first | exact HB.out | apply below_alloc | apply pw_below_drewN | apply below_drew1 | refine below_set ?_ GE242.out) | exact HB.out))) : w.heap.size ≤ gb243)); have n4_ := Aside0.mk ((by rw [hg]; exact (below_size (by repeat (first | (with_reducible first | exact HB.out | apply below_alloc | apply pw_below_drewN | apply below_drew1 | refine below_set ?_ GE242.out) | exact HB.out))) : w.heap.size ≤ gb243)); have n5_ := Aside0.mk ((by rw [hg]; exact Nat.ne_of_lt (blk_lt (g := gb242) (o := .cells #[.int .i16 a0_0, .int .i16 a0_1, .int .i16 a0_2, .int .i16 a0_3, .int .i16 a0_4, .int .i8 a0_5] 37 (0, 0)) (by (with_reducible repeat (first | refine blk_drewN ?_ _ | refine blk_drew ?_ | refine blk_alloc ?_ _)); exact BK242.out)) : gb242 ≠ gb243)); have n6_ := Aside0.mk ((by rw [hg]; exact Nat.ne_of_gt (blk_lt (g := gb242) (o := .cells #[.int .i16 a0_0, .int .i16 a0_1, .int .i16 a0_2, .int .i16 a0_3, .int .i16 a0_4, .int .i8 a0_5] 37 (0, 0)) (by (with_reducible repeat (first | refine blk_drewN ?_ _ | refine blk_drew ?_ | refine blk_alloc ?_ _)); exact BK242.out)) : gb243 ≠ gb242)); clear BK242; clear HB; have BK242 := n0_; have HB := n1_; have BK243 := n2_; have GW243 := n3_; have GE243 := n4_; have NB242_243 := n5_; have NB243_242 := n6_; clear n0_ n1_ n2_ n3_ n4_ n5_ n6_; clear hb hbox hg) | ((with_reducible refine gate_dst (N := 3) rfl ?_); refine box_event ?hg (N := 3) ?hd (cs := #[.int .i16 0, .int .i16 0, .int .i16 0, .int .i16 0, .int .i16 0, .int .i8 0]) (t := 40) ?hr ?_; (case hd => rfl); (case hg => rfl); (case hr => first | (go_simp; done) | (go_simp; rfl)); intro gb244 hg w4 hbox hb; have n0_ := Aside0.mk (blk_below (g := gb242) (o := .cells #[.int .i16 a0_0, .int .i16 a0_1, .int .i16 a0_2, .int .i16 a0_3, .int .i16 a0_4, .int .i8 a0_5] 37 (0, 0)) (by (with_reducible repeat (first | refine blk_drewN ?_ _ | refine blk_drew ?_ | refine blk_alloc ?_ _)); exact BK242.out) hb); have n1_ := Aside0.mk (blk_below (g := gb243) (o := .cells #[.int .i16 0, .int .i16 0, .int .i16 0, .int .i16 0, .int .i16 0, .int .i8 0] 40 (0, 0)) (by (with_reducible repeat (first | refine blk_drewN ?_ _ | refine blk_drew ?_ | refine blk_alloc ?_ _)); exact BK243.out) hb); have n2_ := Aside0.mk (below_step (by repeat (first | (with_reducible first | exact HB.out | apply below_alloc | apply pw_below_drewN | apply below_drew1 | refine below_set ?_ GE242.out | refine below_set ?_ GE243.out) | exact HB.out)) hb); have n3_ := Aside0.mk (hbox); have n4_ := Aside0.mk ((by rw [hg]; exact (below_size (by repeat (first | (with_reducible first | exact HB.out | apply below_alloc | apply pw_below_drewN | apply below_drew1 | refine below_set ?_ GE242.out | refine below_set ?_ GE243.out) | exact HB.out))) : w.heap.size ≤ gb244)); have n5_ := Aside0.mk ((by rw [hg]; exact (below_size (by repeat (first | (with_reducible first | exact HB.out | apply below_alloc | apply pw_below_drewN | apply below_drew1 | refine below_set ?_ GE242.out | refine below_set ?_ GE243.out) | exact HB.out))) : w.heap.size ≤ gb244)); have n6_ := Aside0.mk ((by rw [hg]; exact Nat.ne_of_lt (blk_lt (g := gb242) (o := .cells #[.int .i16 a0_0, .int .i16 a0_1, .int .i16 a0_2, .int .i16 a0_3, .int .i16 a0_4, .int .i8 a0_5] 37 (0, 0)) (by (with_reducible repeat (first | refine blk_drewN ?_ _ | refine blk_drew ?_ | refine blk_alloc ?_ _)); exact BK242.out)) : gb242 ≠ gb244)); have n7_ := Aside0.mk ((by rw [hg]; exact Nat.ne_of_gt (blk_lt (g := gb242) (o := .cells #[.int .i16 a0_0, .int .i16 a0_1, .int .i16 a0_2, .int .i16 a0_3, .int .i16 a0_4, .int .i8 a0_5] 37 (0, 0)) (by (with_reducible repeat (first | refine blk_drewN ?_ _ | refine blk_drew ?_ | refine blk_alloc ?_ _)); exact BK242.out)) : gb244 ≠ gb242)); have n8_ := Aside0.mk ((by rw [hg]; exact Nat.ne_of_lt (blk_lt (g := gb243) (o := .cells #[.int .i16 0, .int .i16 0, .int .i16 0, .int .i16 0, .int .i16 0, .int .i8 0] 40 (0, 0)) (by (with_reducible repeat (first | refine blk_drewN ?_ _ | refine blk_drew ?_ | refine blk_alloc ?_ _)); exact BK243.out)) : gb243 ≠ gb244)); have n9_ := Aside0.mk ((by rw [hg]; exact Nat.ne_of_gt (blk_lt (g := gb243) (o := .cells #[.int .i16 0, .int .i16 0, .int .i16 0, .int .i16 0, .int .i16 0, .int .i8 0] 40 (0, 0)) (by (with_reducible repeat (first | refine blk_drewN ?_ _ | refine blk_drew ?_ | refine blk_alloc ?_ _)); exact BK243.out)) : gb244 ≠ gb243)); clear BK242; clear BK243; clear HB; have BK242 := n0_; have BK243 := n1_; have HB := n2_; have BK244 := n3_; have GW244 := n4_; have GE244 := n5_; have NB242_244 := n6_; have NB244_242 := n7_; have NB243_244 := n8_; have NB244_243 := n9_; clear n0_ n1_ n2_ n3_ n4_ n5_ n6_ n7_ n8_ n9_; clear hb hbox hg; have hnb5 := NB242_243.out; have hnc5 := NB243_242.out; have hnb6 := NB242_244.out; have hnc6 := NB244_242.out; have hcz7_0 : w4.cell? ⟨gb242, 0, none⟩ = some (.int .i16 a0_0) := (blk_cell BK242.out 0).trans rfl; have hcz7_1 : w4.cell? ⟨gb242, 1, none⟩ = some (.int .i16 a0_1) := (blk_cell BK242.out 1).trans rfl; have hcz7_2 : w4.cell? ⟨gb242, 2, none⟩ = some (.int .i16 a0_2) := (blk_cell BK242.out 2).trans rfl; have hcz7_3 : w4.cell? ⟨gb242, 3, none⟩ = some (.int .i16 a0_3) := (blk_cell BK242.out 3).trans rfl; have hcz7_4 : w4.cell? ⟨gb242, 4, none⟩ = some (.int .i16 a0_4) := (blk_cell BK242.out 4).trans rfl; have hcz7_5 : w4.cell? ⟨gb242, 5, none⟩ = some (.int .i8 a0_5) := (blk_cell BK242.out 5).trans rfl; have hfz7_0 := blk_frozen BK242.out 0; have hfz7_1 := blk_frozen BK242.out 1; have hfz7_2 := blk_frozen BK242.out 2; have hfz7_3 := blk_frozen BK242.out 3; have hfz7_4 := blk_frozen BK242.out 4; have hfz7_5 := blk_frozen BK242.out 5; have hnb8 := NB244_243.out; have hnc8 := NB243_244.out; have hcz9_0 : w4.cell? ⟨gb244, 0, none⟩ = some (.int .i16 0) := (blk_cell BK244.out 0).trans rfl; have hcz9_1 : w4.cell? ⟨gb244, 1, none⟩ = some (.int .i16 0) := (blk_cell BK244.out 1).trans rfl; have hcz9_2 : w4.cell? ⟨gb244, 2, none⟩ = some (.int .i16 0) := (blk_cell BK244.out 2).trans rfl; have hcz9_3 : w4.cell? ⟨gb244, 3, none⟩ = some (.int .i16 0) := (blk_cell BK244.out 3).trans rfl; have hcz9_4 : w4.cell? ⟨gb244, 4, none⟩ = some (.int .i16 0) := (blk_cell BK244.out 4).trans rfl; have hcz9_5 : w4.cell? ⟨gb244, 5, none⟩ = some (.int .i8 0) := (blk_cell BK244.out 5).trans rfl; have hfz9_0 := blk_frozen BK244.out 0; have hfz9_1 := blk_frozen BK244.out 1; have hfz9_2 := blk_frozen BK244.out 2; have hfz9_3 := blk_frozen BK244.out 3; have hfz9_4 := blk_frozen BK244.out 4; have hfz9_5 := blk_frozen BK244.out 5; have hcz10_0 : w4.cell? ⟨gb243, 0, none⟩ = some (.int .i16 0) := (blk_cell BK243.out 0).trans rfl; have hcz10_1 : w4.cell? ⟨gb243, 1, none⟩ = some (.int .i16 0) := (blk_cell BK243.out 1).trans rfl; have hcz10_2 : w4.cell? ⟨gb243, 2, none⟩ = some (.int .i16 0) := (blk_cell BK243.out 2).trans rfl; have hcz10_3 : w4.cell? ⟨gb243, 3, none⟩ = some (.int .i16 0) := (blk_cell BK243.out 3).trans rfl; have hcz10_4 : w4.cell? ⟨gb243, 4, none⟩ = some (.int .i16 0) := (blk_cell BK243.out 4).trans rfl; have hcz10_5 : w4.cell? ⟨gb243, 5, none⟩ = some (.int .i8 0) := (blk_cell BK243.out 5).trans rfl; have hfz10_0 := blk_frozen BK243.out 0; have hfz10_1 := blk_frozen BK243.out 1; have hfz10_2 := blk_frozen BK243.out 2; have hfz10_3 := blk_frozen BK243.out 3; have hfz10_4 := blk_frozen BK243.out 4; have hfz10_5 := blk_frozen BK243.out 5))
  refine bodyPost_ret (results_cell_row rfl _ _ gb243 40 #[.int .i16 a0_0, .int .i16 a0_1, .int .i16 a0_2, .int .i16 a0_3, .int .i16 a0_4, .int .i8 a0_5] (0, 0) _ rfl (by (with_reducible repeat (first | refine blk_drewN ?_ _ | refine blk_drew ?_ | refine blk_alloc ?_ _)); refine blk_put (cs := #[.int .i16 a0_0, .int .i16 a0_1, .int .i16 a0_2, .int .i16 a0_3, .int .i16 a0_4, .int .i8 0]) ?_ 5 _ rfl; (with_reducible repeat (first | refine blk_drewN ?_ _ | refine blk_drew ?_ | refine blk_alloc ?_ _)); refine blk_put (cs := #[.int .i16 a0_0, .int .i16 a0_1, .int .i16 a0_2, .int .i16 a0_3, .int .i16 0, .int .i8 0]) ?_ 4 _ rfl; (with_reducible repeat (first | refine blk_drewN ?_ _ | refine blk_drew ?_ | refine blk_alloc ?_ _)); refine blk_put (cs := #[.int .i16 a0_0, .int .i16 a0_1, .int .i16 a0_2, .int .i16 0, .int .i16 0, .int .i8 0]) ?_ 3 _ rfl; (with_reducible repeat (first | refine blk_drewN ?_ _ | refine blk_drew ?_ | refine blk_alloc ?_ _)); refine blk_put (cs := #[.int .i16 a0_0, .int .i16 a0_1, .int .i16 0, .int .i16 0, .int .i16 0, .int .i8 0]) ?_ 2 _ rfl; (with_reducible repeat (first | refine blk_drewN ?_ _ | refine blk_drew ?_ | refine blk_alloc ?_ _)); refine blk_put (cs := #[.int .i16 a0_0, .int .i16 0, .int .i16 0, .int .i16 0, .int .i16 0, .int .i8 0]) ?_ 1 _ rfl; (with_reducible repeat (first | refine blk_drewN ?_ _ | refine blk_drew ?_ | refine blk_alloc ?_ _)); refine blk_put (cs := #[.int .i16 0, .int .i16 0, .int .i16 0, .int .i16 0, .int .i16 0, .int .i8 0]) ?_ 0 _ rfl; (with_reducible repeat (first | refine blk_drewN ?_ _ | refine blk_drew ?_ | refine blk_alloc ?_ _)); refine blk_far ?_ NB243_244.out _; (with_reducible repeat (first | refine blk_drewN ?_ _ | refine blk_drew ?_ | refine blk_alloc ?_ _)); refine blk_far ?_ NB243_244.out _; (with_reducible repeat (first | refine blk_drewN ?_ _ | refine blk_drew ?_ | refine blk_alloc ?_ _)); refine blk_far ?_ NB243_244.out _; (with_reducible repeat (first | refine blk_drewN ?_ _ | refine blk_drew ?_ | refine blk_alloc ?_ _)); refine blk_far ?_ NB243_244.out _; (with_reducible repeat (first | refine blk_drewN ?_ _ | refine blk_drew ?_ | refine blk_alloc ?_ _)); refine blk_far ?_ NB243_244.out _; (with_reducible repeat (first | refine blk_drewN ?_ _ | refine blk_drew ?_ | refine blk_alloc ?_ _)); refine blk_far ?_ NB243_244.out _; (with_reducible repeat (first | refine blk_drewN ?_ _ | refine blk_drew ?_ | refine blk_alloc ?_ _)); exact BK243.out) Try.underlying40 rfl (by kernel_rfl)) rfl ?_
  exact ⟨by first | rfl | (simp [errW_none, errW_some] <;> rfl) | (simp [*, errW_none, errW_some] <;> rfl), by repeat (first | (with_reducible first | exact HB.out | apply below_alloc | apply pw_below_drewN | apply below_drew1 | refine below_set ?_ GE242.out | refine below_set ?_ GE243.out | refine below_set ?_ GE244.out) | exact HB.out)⟩

/-! ### slices_IndexFunc_impl_Walker_impl_Walker: function 82 -/

set_option maxHeartbeats 4000000 in
set_option maxRecDepth 100000 in
theorem slices_IndexFunc_impl_Walker_impl_Walker.calls_p (p : S40 → Bool) (g : Nat) (lb : Array Value) (eg : ∀ args w, (callFunc g args).run Try.prog w = .ok (.enter g args) w) (A0 : Option Addr) (c0 : Nat) (l0 : List (S40)) (w : World) (hr0 : Kd.C k40 w A0 l0.length l0)
    (hp : ∀ (W : World) (j : Nat), j < l0.length → Below w.heap.size w W → Calls Try.prog g (#[.agg #[.int .i16 ((rd_T40 l0 (j : Int)).f0), .int .i16 ((rd_T40 l0 (j : Int)).f1), .int .i16 ((rd_T40 l0 (j : Int)).f2), .int .i16 ((rd_T40 l0 (j : Int)).f3), .int .i16 ((rd_T40 l0 (j : Int)).f4), .int .i8 ((rd_T40 l0 (j : Int)).f5)]] ++ lb) W fun e w' => e = .returned (.bool (p (rd_T40 l0 (j : Int)))) ∧ Below w.heap.size w w') :
    Calls Try.prog 82 #[.slice A0 l0.length c0, .func (.func g) #[] lb] w fun e w' => (∃ r : Int, e = .returned (.int .i64 r) ∧ (0 ≤ r ↔ ∃ j : Nat, j < l0.length ∧ p (rd_T40 l0 (j : Int)) = true)) ∧ Below w.heap.size w w' := by
  have hm : l0.length ≤ 9223372036854775807 := hr0.2.1
  have HR0 := Aside0.mk hr0
  have HP := Aside0.mk hp
  clear hr0 hp
  have hu40 := Try.underlying40
  go_enter Try.func82, Try.ntmps82
  go_wp2
  go_loopg [5, 8] l0.length (fun gg _ s8 wr => ∃ kk : Nat, kk ≤ l0.length ∧ l0.length - kk ≤ gg ∧ s8 = .int .i64 kk ∧ Aside0 (Below w.heap.size w wr) ∧ Aside0 (∀ j : Nat, j < kk → p (rd_T40 l0 (j : Int)) = false))
  case atStart => exact ⟨0, Nat.zero_le _, by omega, rfl, ⟨Below.refl _ w⟩, ⟨fun j hj => absurd hj (Nat.not_lt_zero _)⟩⟩
  case round =>
    obtain ⟨kk, hkk, hg, rfl, BW, AF⟩ := hrel
    by_cases hlt : kk < l0.length
    · have hltz : (kk : Int) < (l0.length : Int) := by omega
      have hz : (0 : Int) ≤ (kk : Int) := by omega
      have hcall := HP.out wr kk hlt BW.out
      have HR1 := Aside0.mk (Kd.C_below HR0.out BW.out)
      obtain ⟨ad1, e1, hx1_0, hx1_1, hx1_2, hx1_3, hx1_4, hx1_5⟩ := at_T40 HR1.out (kk : Int) hz hltz
      cases e1
      simp only [Int.toNat_natCast] at hx1_0 hx1_1 hx1_2 hx1_3 hx1_4 hx1_5
      generalize hq : p (rd_T40 l0 (kk : Int)) = q at hcall
      have HQ := Aside0.mk hq
      clear hq
      cases q with
      | true =>
        go_wp2_with (go_at_fn g; refine hcall.mono ?_; rintro e w' ⟨rfl, hb'⟩)
        go_ret
        exact ⟨⟨_, rfl, ⟨fun _ => ⟨kk, hlt, HQ.out⟩, fun _ => by omega⟩⟩, hb'⟩
      | false =>
        go_wp2_with (go_at_fn g; refine hcall.mono ?_; rintro e w' ⟨rfl, hb'⟩)
        go_roundg (l0.length - (kk + 1))
        case measure => omega
        case rel =>
          refine ⟨kk + 1, by omega, by omega, by go_num, ⟨hb'⟩, ⟨fun j hj => ?_⟩⟩
          by_cases e : j = kk
          · subst e
            exact HQ.out
          · exact AF.out j (by omega)
    · have hltz : ¬ (kk : Int) < (l0.length : Int) := by omega
      have hk : kk = l0.length := by omega
      have HK := Aside0.mk hk
      clear hk
      go_wp2
      go_ret
      exact ⟨⟨_, rfl, ⟨fun h => by omega, fun ⟨j, hj, hpj⟩ => by have := AF.out j (by have := HK.out; omega); simp [this] at hpj⟩⟩, BW.out⟩

/-! ### slices_ContainsFunc_impl_Walker_impl_Walker: function 63 -/

set_option maxHeartbeats 4000000 in
theorem slices_ContainsFunc_impl_Walker_impl_Walker.calls_p (p : S40 → Bool) (g : Nat) (lb : Array Value) (eg : ∀ args w, (callFunc g args).run Try.prog w = .ok (.enter g args) w) (A0 : Option Addr) (c0 : Nat) (l0 : List (S40)) (w : World) (hr0 : Kd.C k40 w A0 l0.length l0)
    (hp : ∀ (W : World) (j : Nat), j < l0.length → Below w.heap.size w W → Calls Try.prog g (#[.agg #[.int .i16 ((rd_T40 l0 (j : Int)).f0), .int .i16 ((rd_T40 l0 (j : Int)).f1), .int .i16 ((rd_T40 l0 (j : Int)).f2), .int .i16 ((rd_T40 l0 (j : Int)).f3), .int .i16 ((rd_T40 l0 (j : Int)).f4), .int .i8 ((rd_T40 l0 (j : Int)).f5)]] ++ lb) W fun e w' => e = .returned (.bool (p (rd_T40 l0 (j : Int)))) ∧ Below w.heap.size w w') :
    Calls Try.prog 63 #[.slice A0 l0.length c0, .func (.func g) #[] lb] w fun e w' => e = .returned (.bool (l0.any p)) ∧ Below w.heap.size w w' := by
  have HC := Aside0.mk (slices_IndexFunc_impl_Walker_impl_Walker.calls_p p g lb eg A0 c0 l0 w hr0 hp)
  have hany : (∃ j : Nat, j < l0.length ∧ p (rd_T40 l0 (j : Int)) = true) ↔ l0.any p = true := by
    rw [List.any_eq_true]
    constructor
    · rintro ⟨j, hj, hpj⟩
      refine ⟨_, ?_, hpj⟩
      simp only [rd_T40, Int.toNat_natCast, List.getD_eq_getElem?_getD, List.getElem?_eq_getElem hj, Option.getD_some]
      exact List.getElem_mem hj
    · rintro ⟨x, hx, hpx⟩
      obtain ⟨j, hj, rfl⟩ := List.getElem_of_mem hx
      refine ⟨j, hj, ?_⟩
      simpa only [rd_T40, Int.toNat_natCast, List.getD_eq_getElem?_getD, List.getElem?_eq_getElem hj, Option.getD_some] using hpx
  have HA := Aside0.mk hany
  clear hr0 hp hany
  go_enter Try.func63, Try.ntmps63
  go_wp2_with (go_at_call 82; refine HC.out.mono ?_; rintro e w' ⟨⟨r, rfl, hr⟩, hb⟩; have HR := Aside0.mk hr; clear hr)
  go_ret
  refine ⟨?_, hb⟩
  have e : decide (0 ≤ r) = l0.any p := by rw [Bool.eq_iff_iff, decide_eq_true_eq, HR.out, HA.out]
  rw [← e]; rfl

/-! ### impl_ValidWalkers: function 33 -/

def walkerBad (b : Int) (x : S40) : Bool := !(decide (0 ≤ wrap64 x.f0 ∧ wrap64 x.f0 ≤ 10000) && (decide (1 ≤ wrap64 x.f1 ∧ wrap64 x.f1 ≤ 100) && (decide (0 ≤ wrap64 x.f2 ∧ wrap64 x.f2 ≤ wrap64 (b - 1)) && (decide (0 ≤ wrap64 x.f3 ∧ wrap64 x.f3 ≤ 60) && (decide (1 ≤ wrap64 x.f4 ∧ wrap64 x.f4 ≤ 60) && (decide ((-7) ≤ wrap64 x.f5 ∧ wrap64 x.f5 ≤ 7)))))))
def impl_ValidWalkers.f (a0 : Int) (l1 : List (S40)) : Option Bool := some (decide (1 ≤ a0 ∧ a0 ≤ 60) && (decide ((l1.length : Int) ≤ 8) && !l1.any (walkerBad a0)))
set_option maxHeartbeats 8000000 in
set_option maxRecDepth 100000 in
theorem impl_ValidWalkers.closure (x : S40) (b : Int) (B : Nat) (w : World) (h1 : w.cell? ⟨B, 0, none⟩ = some (.int .i64 b)) :
    Calls Try.prog 64 #[.agg #[.int .i16 ((x).f0), .int .i16 ((x).f1), .int .i16 ((x).f2), .int .i16 ((x).f3), .int .i16 ((x).f4), .int .i8 ((x).f5)], .pointer (some ⟨B, 0, none⟩)] w fun e w' => e = .returned (.bool (walkerBad b x)) ∧ Below w.heap.size w w' := by
  have hB : B < w.heap.size := World.block_lt_of_cell? w ⟨B, 0, none⟩ h1
  have hne : B ≠ w.heap.size := by omega
  have V0 := Aside0.mk (fun W => impl_within.same (wrap64 x.f0) 0 (10000) W)
  have V1 := Aside0.mk (fun W => impl_within.same (wrap64 x.f1) 1 (100) W)
  have V2 := Aside0.mk (fun W => impl_within.same (wrap64 x.f2) 0 (wrap64 (b - 1)) W)
  have V3 := Aside0.mk (fun W => impl_within.same (wrap64 x.f3) 0 (60) W)
  have V4 := Aside0.mk (fun W => impl_within.same (wrap64 x.f4) 1 (60) W)
  have V5 := Aside0.mk (fun W => impl_within.same (wrap64 x.f5) (-7) (7) W)
  unfold walkerBad
  generalize decide (0 ≤ wrap64 x.f0 ∧ wrap64 x.f0 ≤ 10000) = q0 at V0 ⊢
  generalize decide (1 ≤ wrap64 x.f1 ∧ wrap64 x.f1 ≤ 100) = q1 at V1 ⊢
  generalize decide (0 ≤ wrap64 x.f2 ∧ wrap64 x.f2 ≤ wrap64 (b - 1)) = q2 at V2 ⊢
  generalize decide (0 ≤ wrap64 x.f3 ∧ wrap64 x.f3 ≤ 60) = q3 at V3 ⊢
  generalize decide (1 ≤ wrap64 x.f4 ∧ wrap64 x.f4 ≤ 60) = q4 at V4 ⊢
  generalize decide ((-7) ≤ wrap64 x.f5 ∧ wrap64 x.f5 ≤ 7) = q5 at V5 ⊢
  have hu := Try.underlying40
  cases q0 with
  | false =>
    go_enter Try.func64, Try.ntmps64
    go_wp2_with (go_at_call 52; (first | ((with_reducible refine (V0.out _).mono ?_); rintro e w' ⟨rfl, rfl⟩) | ((with_reducible refine (V1.out _).mono ?_); rintro e w' ⟨rfl, rfl⟩) | ((with_reducible refine (V2.out _).mono ?_); rintro e w' ⟨rfl, rfl⟩) | ((with_reducible refine (V3.out _).mono ?_); rintro e w' ⟨rfl, rfl⟩) | ((with_reducible refine (V4.out _).mono ?_); rintro e w' ⟨rfl, rfl⟩) | ((with_reducible refine (V5.out _).mono ?_); rintro e w' ⟨rfl, rfl⟩)))
    go_ret
    exact ⟨rfl, (Below.refl _ _).alloc (Nat.le_refl _) _⟩
  | true =>
    cases q1 with
    | false =>
      go_enter Try.func64, Try.ntmps64
      go_wp2_with (go_at_call 52; (first | ((with_reducible refine (V0.out _).mono ?_); rintro e w' ⟨rfl, rfl⟩) | ((with_reducible refine (V1.out _).mono ?_); rintro e w' ⟨rfl, rfl⟩) | ((with_reducible refine (V2.out _).mono ?_); rintro e w' ⟨rfl, rfl⟩) | ((with_reducible refine (V3.out _).mono ?_); rintro e w' ⟨rfl, rfl⟩) | ((with_reducible refine (V4.out _).mono ?_); rintro e w' ⟨rfl, rfl⟩) | ((with_reducible refine (V5.out _).mono ?_); rintro e w' ⟨rfl, rfl⟩)))
      go_ret
      exact ⟨rfl, (Below.refl _ _).alloc (Nat.le_refl _) _⟩
    | true =>
      cases q2 with
      | false =>
        go_enter Try.func64, Try.ntmps64
        go_wp2_with (go_at_call 52; (first | ((with_reducible refine (V0.out _).mono ?_); rintro e w' ⟨rfl, rfl⟩) | ((with_reducible refine (V1.out _).mono ?_); rintro e w' ⟨rfl, rfl⟩) | ((with_reducible refine (V2.out _).mono ?_); rintro e w' ⟨rfl, rfl⟩) | ((with_reducible refine (V3.out _).mono ?_); rintro e w' ⟨rfl, rfl⟩) | ((with_reducible refine (V4.out _).mono ?_); rintro e w' ⟨rfl, rfl⟩) | ((with_reducible refine (V5.out _).mono ?_); rintro e w' ⟨rfl, rfl⟩)))
        go_ret
        exact ⟨rfl, (Below.refl _ _).alloc (Nat.le_refl _) _⟩
      | true =>
        cases q3 with
        | false =>
          go_enter Try.func64, Try.ntmps64
          go_wp2_with (go_at_call 52; (first | ((with_reducible refine (V0.out _).mono ?_); rintro e w' ⟨rfl, rfl⟩) | ((with_reducible refine (V1.out _).mono ?_); rintro e w' ⟨rfl, rfl⟩) | ((with_reducible refine (V2.out _).mono ?_); rintro e w' ⟨rfl, rfl⟩) | ((with_reducible refine (V3.out _).mono ?_); rintro e w' ⟨rfl, rfl⟩) | ((with_reducible refine (V4.out _).mono ?_); rintro e w' ⟨rfl, rfl⟩) | ((with_reducible refine (V5.out _).mono ?_); rintro e w' ⟨rfl, rfl⟩)))
          go_ret
          exact ⟨rfl, (Below.refl _ _).alloc (Nat.le_refl _) _⟩
        | true =>
          cases q4 with
          | false =>
            go_enter Try.func64, Try.ntmps64
            go_wp2_with (go_at_call 52; (first | ((with_reducible refine (V0.out _).mono ?_); rintro e w' ⟨rfl, rfl⟩) | ((with_reducible refine (V1.out _).mono ?_); rintro e w' ⟨rfl, rfl⟩) | ((with_reducible refine (V2.out _).mono ?_); rintro e w' ⟨rfl, rfl⟩) | ((with_reducible refine (V3.out _).mono ?_); rintro e w' ⟨rfl, rfl⟩) | ((with_reducible refine (V4.out _).mono ?_); rintro e w' ⟨rfl, rfl⟩) | ((with_reducible refine (V5.out _).mono ?_); rintro e w' ⟨rfl, rfl⟩)))
            go_ret
            exact ⟨rfl, (Below.refl _ _).alloc (Nat.le_refl _) _⟩
          | true =>
            cases q5 with
            | false =>
              go_enter Try.func64, Try.ntmps64
              go_wp2_with (go_at_call 52; (first | ((with_reducible refine (V0.out _).mono ?_); rintro e w' ⟨rfl, rfl⟩) | ((with_reducible refine (V1.out _).mono ?_); rintro e w' ⟨rfl, rfl⟩) | ((with_reducible refine (V2.out _).mono ?_); rintro e w' ⟨rfl, rfl⟩) | ((with_reducible refine (V3.out _).mono ?_); rintro e w' ⟨rfl, rfl⟩) | ((with_reducible refine (V4.out _).mono ?_); rintro e w' ⟨rfl, rfl⟩) | ((with_reducible refine (V5.out _).mono ?_); rintro e w' ⟨rfl, rfl⟩)))
              go_ret
              exact ⟨rfl, (Below.refl _ _).alloc (Nat.le_refl _) _⟩
            | true =>
              go_enter Try.func64, Try.ntmps64
              go_wp2_with (go_at_call 52; (first | ((with_reducible refine (V0.out _).mono ?_); rintro e w' ⟨rfl, rfl⟩) | ((with_reducible refine (V1.out _).mono ?_); rintro e w' ⟨rfl, rfl⟩) | ((with_reducible refine (V2.out _).mono ?_); rintro e w' ⟨rfl, rfl⟩) | ((with_reducible refine (V3.out _).mono ?_); rintro e w' ⟨rfl, rfl⟩) | ((with_reducible refine (V4.out _).mono ?_); rintro e w' ⟨rfl, rfl⟩) | ((with_reducible refine (V5.out _).mono ?_); rintro e w' ⟨rfl, rfl⟩)))
              go_ret
              exact ⟨rfl, (Below.refl _ _).alloc (Nat.le_refl _) _⟩
set_option maxHeartbeats 4000000 in
theorem impl_ValidWalkers.calls (a0 : Int) (A1 : Option Addr) (c1 : Nat) (l1 : List (S40)) (r : Bool) (w : World) (hr1 : Kd.C k40 w A1 l1.length l1) (hc1 : l1.length ≤ c1) (h : impl_ValidWalkers.f a0 l1 = some r) :
    Calls Try.prog 33 #[.int .i64 a0, .slice A1 l1.length c1] w fun e w' => e = .returned (.bool r) ∧ Below w.heap.size w w' := by
  obtain rfl := Option.some.inj h
  have eg : ∀ args w, (callFunc 64 args).run Try.prog w = .ok (.enter 64 args) w := enters_of Try.func64 (by kernel_rfl) rfl
  have hb2 : Below w.heap.size w (w.alloc (.cells #[.int .i64 a0] 2)) := (Below.refl _ _).alloc (Nat.le_refl _) _
  have HC := Aside0.mk (slices_ContainsFunc_impl_Walker_impl_Walker.calls_p (walkerBad a0) 64 #[.pointer (some ⟨w.heap.size, 0, none⟩)] eg A1 c1 l1 (w.alloc (.cells #[.int .i64 a0] 2)) (Kd.C_below hr1 hb2) (fun W j hj hb => (impl_ValidWalkers.closure (rd_T40 l1 (j : Int)) a0 w.heap.size W ((hb.cell (p := ⟨w.heap.size, 0, none⟩) (by simp)).trans (by simp))).mono (by rintro e w' ⟨rfl, hb'⟩; exact ⟨rfl, below_step hb hb'⟩)))
  have HB2 := Aside0.mk hb2
  have V := Aside0.mk (fun W => impl_within.same a0 1 60 W)
  have hm : l1.length ≤ 9223372036854775807 := hr1.2.1
  clear hr1 hc1 eg hb2
  generalize l1.any (walkerBad a0) = q at HC ⊢
  generalize decide (1 ≤ a0 ∧ a0 ≤ 60) = b1 at V ⊢
  generalize hb2 : decide ((l1.length : Int) ≤ 8) = b2
  cases b1 with
  | false =>
    clear hb2
    go_enter Try.func33, Try.ntmps33
    go_wp2_with (go_at_call 52; (with_reducible refine (V.out _).mono ?_); rintro e w' ⟨rfl, rfl⟩)
    go_ret
    exact ⟨rfl, HB2.out⟩
  | true =>
    cases b2 with
    | false =>
      have hb3 : decide (l1.length ≤ 8) = false := by (simp at hb2 ⊢; omega)
      go_enter Try.func33, Try.ntmps33
      go_wp2_with (go_at_call 52; (with_reducible refine (V.out _).mono ?_); rintro e w' ⟨rfl, rfl⟩)
      go_ret
      exact ⟨rfl, HB2.out⟩
    | true =>
      have hb3 : decide (l1.length ≤ 8) = true := by (simp at hb2 ⊢; omega)
      go_enter Try.func33, Try.ntmps33
      go_wp2_with (first | (go_at_call 52; (with_reducible refine (V.out _).mono ?_); rintro e w' ⟨rfl, rfl⟩) | (go_at_call 63; (with_reducible refine HC.out.mono ?_); rintro e w' ⟨rfl, hb⟩))
      go_ret
      exact ⟨rfl, below_step HB2.out hb⟩

/-! ### impl_codeOf: function 59 -/
def impl_codeOf.f (a0 : Bool) (a1 : Bool) : Option (Int) := if a0 = true then (if a1 = true then (some 0) else (some 2)) else (some 1)
set_option maxHeartbeats 8000000 in
set_option maxRecDepth 100000 in
theorem impl_codeOf.calls (a0 : Bool) (a1 : Bool) (r : Int) (w : World) (h : impl_codeOf.f a0 a1 = some r) :
    Calls Try.prog 59 #[.bool a0, .bool a1] w fun e w' => e = .returned (.int .i64 r) ∧ Drawn0 w w' := by
  have H : (if a0 = true then (if a1 = true then (some 0) else (some 2)) else (some 1)) = some r := h
  clear h
  by_cases c3 : a0 = true
  · subst c3
    have H1 : (if a1 = true then (some 0) else (some 2)) = some r := by rw [if_pos rfl] at H; exact H
    clear H
    have H := H1
    clear H1
    by_cases c4 : a1 = true
    · subst c4
      have H1 : (some 0) = some r := by rw [if_pos rfl] at H; exact H
      clear H
      have H := H1
      clear H1
      obtain rfl := Option.some.inj H
      go_enter Try.func59, Try.ntmps59
      go_wp2
      go_ret
      exact ⟨by first | rfl | (simp; done) | (simp [*]; done), by repeat (first | exact Drawn0.refl _ | apply Drawn0.step)⟩
    · replace c4 := Bool.eq_false_iff.mpr c4
      subst c4
      have H1 : (some 2) = some r := by rw [if_neg (show ¬ (false = true) by decide)] at H; exact H
      clear H
      have H := H1
      clear H1
      obtain rfl := Option.some.inj H
      go_enter Try.func59, Try.ntmps59
      go_wp2
      go_ret
      exact ⟨by first | rfl | (simp; done) | (simp [*]; done), by repeat (first | exact Drawn0.refl _ | apply Drawn0.step)⟩
  · replace c3 := Bool.eq_false_iff.mpr c3
    subst c3
    have H1 : (some 1) = some r := by rw [if_neg (show ¬ (false = true) by decide)] at H; exact H
    clear H
    have H := H1
    clear H1
    obtain rfl := Option.some.inj H
    go_enter Try.func59, Try.ntmps59
    go_wp2
    go_ret
    exact ⟨by first | rfl | (simp; done) | (simp [*]; done), by repeat (first | exact Drawn0.refl _ | apply Drawn0.step)⟩

end Go.Proofs.Ytleeponhjgmioaa.Pa
