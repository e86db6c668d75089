-- Written by this claim's own program (printg.py) out of the translation; Lean checks it.
import Derived.Test.YtleeponhjgmioaaPa0
namespace Go.Proofs.Ytleeponhjgmioaa.Pa
open Go.RowKit Go.Proofs.YtleeponhjgmioaaW.PrintWords Go.Proofs.YtleeponhjgmioaaW.PrintLast Go.Proofs.YtleeponhjgmioaaW.PrintMore
attribute [local go_sem] max2_int min2_int max_two min_two max_three min_three max_four min_four   -- for this text's walks alone
set_option linter.unusedVariables false
set_option linter.unusedSimpArgs false

/-! ### spec_l05Visits: function 71 -/
def spec_l05Visits.l0 : Nat → Int → List Int → Int → Int → Int → Int → Int → Int → Int → Int → Option (List Int)
  | 0, _, _, _, _, _, _, _, _, _, _ => none
  | k + 1, x0, x5, x6, x7, x408000, x408001, x408002, x408003, x408004, x408005 => if x7 < x408004 then (if 0 ≤ x6 then (if x6 < (x5.length : Int) then (if x0 = 0 then (none) else (spec_l05Visits.l0 k x0 (x5.set (x6 : Int).toNat (wrap64 ((rd x5 x6) + 1))) (Int.tmod (wrap64 (x6 + (wrap64 (x408003)))) x0) (IntKind.i16.wrap (x7 + 1)) x408000 x408001 x408002 x408003 x408004 x408005)) else (none)) else (none)) else (some x5)
def spec_l05Visits.f (k : Nat) (a0 : Int) (a1_0 : Int) (a1_1 : Int) (a1_2 : Int) (a1_3 : Int) (a1_4 : Int) (a1_5 : Int) : Option (List Int) := if 0 ≤ a0 then (if (a0 : Int).toNat ≤ 35184372088832 then (spec_l05Visits.l0 k a0 (List.replicate (a0 : Int).toNat 0) (wrap64 (a1_2)) 0 a1_0 a1_1 a1_2 a1_3 a1_4 a1_5) else (none)) else (none)
theorem spec_l05Visits.mono_l : ∀ k, (∀ y0 y1 y2 y3 y4 y5 y6 y7 y8 y9, LeO (spec_l05Visits.l0 k y0 y1 y2 y3 y4 y5 y6 y7 y8 y9) (spec_l05Visits.l0 (k + 1) y0 y1 y2 y3 y4 y5 y6 y7 y8 y9))
  | 0 => fun _ _ _ _ _ _ _ _ _ _ r h => by simp [spec_l05Visits.l0] at h
  | k + 1 => by
    have ih0 := spec_l05Visits.mono_l k
    · intro y0 y1 y2 y3 y4 y5 y6 y7 y8 y9
      unfold spec_l05Visits.l0
      repeat' first
      | (with_reducible exact ih0 _ _ _ _ _ _ _ _ _ _)
      | (with_reducible exact LeO.refl _)
      | (with_reducible exact LeO.none _)
      | (with_reducible refine LeO.ite ?_ ?_)
      | (with_reducible refine LeO.bind ?_ (fun _ => ?_))
      | exact ih0 _ _ _ _ _ _ _ _ _ _
      | exact LeO.none _
      | refine LeO.ite ?_ ?_
      | refine LeO.bind ?_ (fun _ => ?_)
theorem spec_l05Visits.mono : ∀ a0 a1 a2 a3 a4 a5 a6 k, LeO (spec_l05Visits.f k a0 a1 a2 a3 a4 a5 a6) (spec_l05Visits.f (k + 1) a0 a1 a2 a3 a4 a5 a6) := by
  intro a0 a1 a2 a3 a4 a5 a6 k
  have ih0 := spec_l05Visits.mono_l k
  unfold spec_l05Visits.f
  repeat' first
      | (with_reducible exact ih0 _ _ _ _ _ _ _ _ _ _)
      | (with_reducible exact LeO.refl _)
      | (with_reducible exact LeO.none _)
      | (with_reducible refine LeO.ite ?_ ?_)
      | (with_reducible refine LeO.bind ?_ (fun _ => ?_))
      | exact ih0 _ _ _ _ _ _ _ _ _ _
      | exact LeO.none _
      | refine LeO.ite ?_ ?_
      | refine LeO.bind ?_ (fun _ => ?_)
set_option maxHeartbeats 8000000 in
set_option maxRecDepth 100000 in
theorem spec_l05Visits.calls (k : Nat) (a0 : Int) (a1_0 : Int) (a1_1 : Int) (a1_2 : Int) (a1_3 : Int) (a1_4 : Int) (a1_5 : Int) (r : List Int) (w : World) (h : spec_l05Visits.f k a0 a1_0 a1_1 a1_2 a1_3 a1_4 a1_5 = some r) :
    Calls Try.prog 71 #[.int .i64 a0, .agg #[.int .i16 a1_0, .int .i16 a1_1, .int .i16 a1_2, .int .i16 a1_3, .int .i16 a1_4, .int .i8 a1_5]] w fun e w' => ∃ v0_ : Value, e = .returned (v0_) ∧ Kd.R (Kd.int .i64) 2 w' w.heap.size (fun _ => True) v0_ r ∧ Below w.heap.size w w' := by
  have hu40 := Try.underlying40
  have HB := Aside0.mk (Below.refl w.heap.size w)
  have H : (if 0 ≤ a0 then (if (a0 : Int).toNat ≤ 35184372088832 then (spec_l05Visits.l0 k a0 (List.replicate (a0 : Int).toNat 0) (wrap64 (a1_2)) 0 a1_0 a1_1 a1_2 a1_3 a1_4 a1_5) else (none)) else (none)) = some r := h
  clear h
  by_cases c3 : 0 ≤ a0
  · rw [if_pos c3] at H
    have c3b0 := eq_true c3
    have c3b1 : decide (0 ≤ a0) = true := decide_eq_true c3
    clear c3
    by_cases c4 : (a0 : Int).toNat ≤ 35184372088832
    · rw [if_pos c4] at H
      have c4b0 := eq_true c4
      have c4b1 : decide ((a0 : Int).toNat ≤ 35184372088832) = true := decide_eq_true c4
      clear c4
      obtain ⟨y408, hy408⟩ : ∃ y_ : List Int, y_ = (List.replicate (a0 : Int).toNat 0) := ⟨_, rfl⟩
      replace H : (spec_l05Visits.l0 k a0 y408 (wrap64 (a1_2)) 0 a1_0 a1_1 a1_2 a1_3 a1_4 a1_5) = some r := by first | (rw [hy408]; with_reducible exact H) | (have H2_ := (Option.bind_some _ _).symm.trans H; rw [hy408]; with_reducible exact H2_) | (have H2_ := (Option.bind_some _ _).symm.trans H; with_reducible exact H2_) | with_reducible exact H | (rw [hy408]; exact H) | exact H
      have Ny408 := Aside0.mk hy408
      clear hy408
      have H' := Aside0.mk H
      clear H
      go_enter Try.func71, Try.ntmps71
      go_wp2_with (first | ((with_reducible refine gate_dst (N := 3) rfl ?_); refine box_event ?hg (N := 3) ?hd (cs := #[.int .i16 a1_0, .int .i16 a1_1, .int .i16 a1_2, .int .i16 a1_3, .int .i16 a1_4, .int .i8 a1_5]) (t := 40) ?hr ?_; (case hd => rfl); (case hg => rfl); (case hr => first | (go_simp; done) | (go_simp; rfl)); intro gb407 hg w5 hbox hb; have n0_ := Aside0.mk (below_step (by repeat (first | (with_reducible first | exact HB.out | apply below_alloc | apply pw_below_drewN | apply below_drew1) | exact HB.out)) hb); have n1_ := Aside0.mk (hbox); have n2_ := Aside0.mk ((by rw [hg]; exact (below_size (by repeat (first | (with_reducible first | exact HB.out | apply below_alloc | apply pw_below_drewN | apply below_drew1) | exact HB.out))) : w.heap.size ≤ gb407)); have n3_ := Aside0.mk ((by rw [hg]; exact (below_size (by repeat (first | (with_reducible first | exact HB.out | apply below_alloc | apply pw_below_drewN | apply below_drew1) | exact HB.out))) : w.heap.size ≤ gb407)); clear HB; have HB := n0_; have BK407 := n1_; have GW407 := n2_; have GE407 := n3_; clear n0_ n1_ n2_ n3_; clear hb hbox hg) | ((with_reducible refine gate_dst (N := 9) rfl ?_); refine Kd.R_make (Kd.int .i64) _ 2 rfl (N := 9) rfl 54 _ _ rfl a0 rfl rfl Try.underlying54 (.int .i64 0) 8 info2 rfl (by decide) (by omega) 0 (ok := fun _ => True) (okp := fun _ => True) rfl (fun _ hk => hk) trivial (of_decide_eq_true (by first | (with_reducible assumption) | assumption)) (Nat.le_trans (Nat.mul_le_mul_right _ (of_decide_eq_true (by first | (with_reducible assumption) | assumption) : a0.toNat ≤ 35184372088832)) (by omega)) (Below.refl _ _) (Nat.le_refl _) ?_; intro v409 w6 ho7 hb hg_ hnew_; clear hg_ hnew_; (first | rw [← Ny408.out] at ho7 | (simp only [Int.reduceToNat] at ho7; rw [← Ny408.out] at ho7)); have n0_ := Aside0.mk (Kd.R_lower ho7 (below_size (by repeat (first | (with_reducible first | exact HB.out | apply below_alloc | apply pw_below_drewN | apply below_drew1 | refine below_set ?_ GE407.out) | exact HB.out)))); have n1_ := Aside0.mk (blk_below (g := gb407) (o := .cells #[.int .i16 a1_0, .int .i16 a1_1, .int .i16 a1_2, .int .i16 a1_3, .int .i16 a1_4, .int .i8 a1_5] 40 (0, 0)) (by (with_reducible repeat (first | refine blk_drewN ?_ _ | refine blk_drew ?_ | refine blk_alloc ?_ _)); exact BK407.out) hb); have n2_ := Aside0.mk (below_step (by repeat (first | (with_reducible first | exact HB.out | apply below_alloc | apply pw_below_drewN | apply below_drew1 | refine below_set ?_ GE407.out) | exact HB.out)) hb); clear BK407; clear HB; have HO410 := n0_; have BK407 := n1_; have HB := n2_; clear n0_ n1_ n2_; clear hb ho7; have hcz8_0 : w6.cell? ⟨gb407, 0, none⟩ = some (.int .i16 a1_0) := (blk_cell BK407.out 0).trans rfl; have hcz8_1 : w6.cell? ⟨gb407, 1, none⟩ = some (.int .i16 a1_1) := (blk_cell BK407.out 1).trans rfl; have hcz8_2 : w6.cell? ⟨gb407, 2, none⟩ = some (.int .i16 a1_2) := (blk_cell BK407.out 2).trans rfl; have hcz8_3 : w6.cell? ⟨gb407, 3, none⟩ = some (.int .i16 a1_3) := (blk_cell BK407.out 3).trans rfl; have hcz8_4 : w6.cell? ⟨gb407, 4, none⟩ = some (.int .i16 a1_4) := (blk_cell BK407.out 4).trans rfl; have hcz8_5 : w6.cell? ⟨gb407, 5, none⟩ = some (.int .i8 a1_5) := (blk_cell BK407.out 5).trans rfl; have hfz8_0 := blk_frozen BK407.out 0; have hfz8_1 := blk_frozen BK407.out 1; have hfz8_2 := blk_frozen BK407.out 2; have hfz8_3 := blk_frozen BK407.out 3; have hfz8_4 := blk_frozen BK407.out 4; have hfz8_5 := blk_frozen BK407.out 5))
      go_loopg [6, 7] k (fun kq v6 v7 w' => ∃ (x5_1 : List Int) (x6_1 : Int) (x7_1 : Int), v6 = .int .i64 x6_1 ∧ v7 = .int .i16 x7_1 ∧ Aside0 (spec_l05Visits.l0 kq a0 x5_1 x6_1 x7_1 a1_0 a1_1 a1_2 a1_3 a1_4 a1_5 = some r) ∧ Aside0 (kq ≤ k) ∧ Aside0 (Kd.R (Kd.int .i64) 2 w' w.heap.size (fun _ => True) v409 x5_1) ∧ Aside0 (w'.heap[gb407]? = some (.cells #[.int .i16 a1_0, .int .i16 a1_1, .int .i16 a1_2, .int .i16 a1_3, .int .i16 a1_4, .int .i8 a1_5] 40 (0, 0))) ∧ Aside0 (Below w.heap.size w w'))
      case atStart => exact ⟨(y408), (wrap64 (a1_2)), (0), (by first | rfl | (simp; done) | (simp [*]; done)), (by first | rfl | (simp; done) | (simp [*]; done)), H', ⟨Nat.le_refl _⟩, ⟨by (with_reducible repeat (first | apply Kd.R_alloc | apply Kd.R_drewN | apply Kd.R_drew)); exact HO410.out⟩, ⟨by (with_reducible repeat (first | refine blk_drewN ?_ _ | refine blk_drew ?_ | refine blk_alloc ?_ _)); exact BK407.out⟩, ⟨by repeat (first | (with_reducible first | exact HB.out | apply below_alloc | apply pw_below_drewN | apply below_drew1 | refine below_set ?_ GE407.out) | exact HB.out)⟩⟩
      case round =>
        clear H'
        try clear p2
        try clear c3
        try clear c3b0
        try clear c3b1
        try clear c4
        try clear c4b0
        try clear c4b1
        try clear p6
        try clear c7
        try clear hcz8_0
        try clear hcz8_1
        try clear hcz8_2
        try clear hcz8_3
        try clear hcz8_4
        try clear hcz8_5
        try clear hfz8_0
        try clear hfz8_1
        try clear hfz8_2
        try clear hfz8_3
        try clear hfz8_4
        try clear hfz8_5
        obtain ⟨x5_1, x6_1, x7_1, rfl, rfl, HA, HK1, HO_5, BK407, HB⟩ := hrel
        cases gk with
        | zero => exact absurd HA.out (by simp [spec_l05Visits.l0])
        | succ k1 =>
          have H := HA.out
          clear HA
          simp only [spec_l05Visits.l0] at H
          by_cases c9 : x7_1 < a1_4
          · rw [if_pos c9] at H
            have c9b0 : decide (x7_1 < a1_4) = true := decide_eq_true c9
            clear c9
            by_cases c10 : 0 ≤ x6_1
            · rw [if_pos c10] at H
              have c10b0 : decide (0 ≤ x6_1) = true := decide_eq_true c10
              clear c10
              by_cases c11 : x6_1 < (x5_1.length : Int)
              · rw [if_pos c11] at H
                have c11b0 : decide (x6_1 < (x5_1.length : Int)) = true := decide_eq_true c11
                clear c11
                obtain ⟨y412, hy412⟩ : ∃ y_ : List Int, y_ = (x5_1.set (x6_1 : Int).toNat (wrap64 ((rd x5_1 x6_1) + 1))) := ⟨_, rfl⟩
                replace H : (if a0 = 0 then (none) else (spec_l05Visits.l0 k1 a0 y412 (Int.tmod (wrap64 (x6_1 + (wrap64 (a1_3)))) a0) (IntKind.i16.wrap (x7_1 + 1)) a1_0 a1_1 a1_2 a1_3 a1_4 a1_5)) = some r := by first | (rw [hy412]; with_reducible exact H) | (have H2_ := (Option.bind_some _ _).symm.trans H; rw [hy412]; with_reducible exact H2_) | (have H2_ := (Option.bind_some _ _).symm.trans H; with_reducible exact H2_) | with_reducible exact H | (rw [hy412]; exact H) | exact H
                have Ny412 := Aside0.mk hy412
                clear hy412
                by_cases c13 : a0 = 0
                · rw [if_pos c13] at H
                  exact absurd H (by simp)
                · rw [if_neg c13] at H
                  have c13b0 : (a0 == 0) = false := beq_eq_false_iff_ne.mpr c13
                  have c13b1 : (a0 != 0) = true := bne_iff_ne.mpr c13
                  have H' := Aside0.mk H
                  clear H
                  have hcz14_0 : wr.cell? ⟨gb407, 0, none⟩ = some (.int .i16 a1_0) := (blk_cell BK407.out 0).trans rfl
                  have hcz14_1 : wr.cell? ⟨gb407, 1, none⟩ = some (.int .i16 a1_1) := (blk_cell BK407.out 1).trans rfl
                  have hcz14_2 : wr.cell? ⟨gb407, 2, none⟩ = some (.int .i16 a1_2) := (blk_cell BK407.out 2).trans rfl
                  have hcz14_3 : wr.cell? ⟨gb407, 3, none⟩ = some (.int .i16 a1_3) := (blk_cell BK407.out 3).trans rfl
                  have hcz14_4 : wr.cell? ⟨gb407, 4, none⟩ = some (.int .i16 a1_4) := (blk_cell BK407.out 4).trans rfl
                  have hcz14_5 : wr.cell? ⟨gb407, 5, none⟩ = some (.int .i8 a1_5) := (blk_cell BK407.out 5).trans rfl
                  have hfz14_0 := blk_frozen BK407.out 0
                  have hfz14_1 := blk_frozen BK407.out 1
                  have hfz14_2 := blk_frozen BK407.out 2
                  have hfz14_3 := blk_frozen BK407.out 3
                  have hfz14_4 := blk_frozen BK407.out 4
                  have hfz14_5 := blk_frozen BK407.out 5
                  obtain ⟨Ao15, co15, eo15⟩ := Kd.R_slice HO_5.out
                  subst eo15
                  have p411 : 0 ≤ (x6_1 : Int) := of_decide_eq_true (by first | (with_reducible assumption) | assumption)
                  have q411 : x6_1 < (x5_1.length : Int) := of_decide_eq_true (by first | (with_reducible assumption) | assumption)
                  obtain ⟨ad411, e411, hx411_0⟩ := Kd.at_int (Kd.R_reads' HO_5.out).2.2 x6_1 p411 q411
                  cases e411
                  replace p411 := eq_true p411
                  replace q411 := eq_true q411
                  have p12 : 0 ≤ (x6_1 : Int) := of_decide_eq_true (by first | (with_reducible assumption) | assumption)
                  have q12 : (x6_1 : Int) < ((x5_1.length : Int) : Int) := of_decide_eq_true (by first | (with_reducible assumption) | assumption)
                  obtain ⟨go12, co12, eo12, gb12, gl12, cl12, HG12⟩ := Kd.R_form HO_5.out (by omega)
                  (first | cases eo12 | (injection eo12 with ea_ en_ ec_; (first | subst ea_ | (injection ea_ with ea_; subst ea_)); subst ec_; clear en_))
                  have GB12 := Aside0.mk gb12
                  have GG12 := Aside0.mk HG12
                  clear gb12 gl12 HG12
                  (first | simp only [add_plain] at hx411_0 | skip)
                  obtain ⟨hx12_0, hf12_0⟩ := Kd.R_celln 0 HO_5.out (x6_1 : Int) p12 q12
                  replace p12 := eq_true p12
                  replace q12 := eq_true q12
                  have HP16 := Kd.R_putg HO_5.out (x6_1 : Int) (wrap64 ((rd x5_1 x6_1) + 1))
                  go_wp2_with (first | ((with_reducible refine gate_store (t := 2) (p := 24) rfl ?_); refine store_event (t := 2) (p := 24) (v := ?vo_w17) (w1 := (wr.setCell ⟨go12, (x6_1 : Int).toNat, none⟩ (.int .i64 (wrap64 ((rd x5_1 x6_1) + 1))))) ?hg ?ho ?hn ?hr ?_; (case ho => rfl); (case hg => rfl); (case hn => rfl); (case hr => first | (go_simp; done) | (go_simp; rfl)); intro w17 hw; have hg : wr.grownBy w17 (some go12) := (by rw [hw]; exact HP16.2); have hp_ : Kd.R (Kd.int .i64) 2 w17 w.heap.size (fun _ => True) (.slice (some ⟨go12, 0, none⟩) x5_1.length co15) y412 := (by rw [hw, Ny412.out]; exact HP16.1); clear HP16; have n0_ := Aside0.mk (hp_); have n1_ := Aside0.mk (blk_grown (g := gb407) (o := .cells #[.int .i16 a1_0, .int .i16 a1_1, .int .i16 a1_2, .int .i16 a1_3, .int .i16 a1_4, .int .i8 a1_5] 40 (0, 0)) (by (with_reducible repeat (first | refine blk_drewN ?_ _ | refine blk_drew ?_ | refine blk_alloc ?_ _)); exact BK407.out) hg (Kd.R_ne HO_5.out BK407.out (by decide))); have n2_ := Aside0.mk ((by rw [hw]; exact below_set (HB.out) GB12.out : Below w.heap.size w w17)); clear HO_5; clear BK407; clear HB; have HO_5 := n0_; have BK407 := n1_; have HB := n2_; clear n0_ n1_ n2_; clear hg hw hp_; have hcz18_0 : w17.cell? ⟨gb407, 0, none⟩ = some (.int .i16 a1_0) := (blk_cell BK407.out 0).trans rfl; have hcz18_1 : w17.cell? ⟨gb407, 1, none⟩ = some (.int .i16 a1_1) := (blk_cell BK407.out 1).trans rfl; have hcz18_2 : w17.cell? ⟨gb407, 2, none⟩ = some (.int .i16 a1_2) := (blk_cell BK407.out 2).trans rfl; have hcz18_3 : w17.cell? ⟨gb407, 3, none⟩ = some (.int .i16 a1_3) := (blk_cell BK407.out 3).trans rfl; have hcz18_4 : w17.cell? ⟨gb407, 4, none⟩ = some (.int .i16 a1_4) := (blk_cell BK407.out 4).trans rfl; have hcz18_5 : w17.cell? ⟨gb407, 5, none⟩ = some (.int .i8 a1_5) := (blk_cell BK407.out 5).trans rfl; have hfz18_0 := blk_frozen BK407.out 0; have hfz18_1 := blk_frozen BK407.out 1; have hfz18_2 := blk_frozen BK407.out 2; have hfz18_3 := blk_frozen BK407.out 3; have hfz18_4 := blk_frozen BK407.out 4; have hfz18_5 := blk_frozen BK407.out 5))
                  go_roundg k1
                  case measure => have := HK1.out; omega
                  case rel => exact ⟨(y412), (Int.tmod (wrap64 (x6_1 + (wrap64 (a1_3)))) a0), (IntKind.i16.wrap (x7_1 + 1)), (by first | rfl | (simp; done) | (simp [*]; done)), (by first | rfl | (simp; done) | (simp [*]; done)), H', ⟨by have := HK1.out; omega⟩, ⟨by (with_reducible repeat (first | apply Kd.R_alloc | apply Kd.R_drewN | apply Kd.R_drew)); exact HO_5.out⟩, ⟨by (with_reducible repeat (first | refine blk_drewN ?_ _ | refine blk_drew ?_ | refine blk_alloc ?_ _)); exact BK407.out⟩, ⟨by repeat (first | (with_reducible first | exact HB.out | apply below_alloc | apply pw_below_drewN | apply below_drew1 | refine below_set ?_ GE407.out) | exact HB.out)⟩⟩
              · rw [if_neg c11] at H
                exact absurd H (by simp)
            · rw [if_neg c10] at H
              exact absurd H (by simp)
          · rw [if_neg c9] at H
            have c9b0 : decide (x7_1 < a1_4) = false := decide_eq_false c9
            clear c9
            obtain rfl := Option.some.inj H
            have hcz19_0 : wr.cell? ⟨gb407, 0, none⟩ = some (.int .i16 a1_0) := (blk_cell BK407.out 0).trans rfl
            have hcz19_1 : wr.cell? ⟨gb407, 1, none⟩ = some (.int .i16 a1_1) := (blk_cell BK407.out 1).trans rfl
            have hcz19_2 : wr.cell? ⟨gb407, 2, none⟩ = some (.int .i16 a1_2) := (blk_cell BK407.out 2).trans rfl
            have hcz19_3 : wr.cell? ⟨gb407, 3, none⟩ = some (.int .i16 a1_3) := (blk_cell BK407.out 3).trans rfl
            have hcz19_4 : wr.cell? ⟨gb407, 4, none⟩ = some (.int .i16 a1_4) := (blk_cell BK407.out 4).trans rfl
            have hcz19_5 : wr.cell? ⟨gb407, 5, none⟩ = some (.int .i8 a1_5) := (blk_cell BK407.out 5).trans rfl
            have hfz19_0 := blk_frozen BK407.out 0
            have hfz19_1 := blk_frozen BK407.out 1
            have hfz19_2 := blk_frozen BK407.out 2
            have hfz19_3 := blk_frozen BK407.out 3
            have hfz19_4 := blk_frozen BK407.out 4
            have hfz19_5 := blk_frozen BK407.out 5
            go_wp2
            go_ret
            exact ⟨_, by first | rfl | (simp [errW_none, errW_some] <;> rfl) | (simp [*, errW_none, errW_some] <;> rfl), by (with_reducible repeat (first | apply Kd.R_alloc | apply Kd.R_drewN | apply Kd.R_drew)); exact HO_5.out, by repeat (first | (with_reducible first | exact HB.out | apply below_alloc | apply pw_below_drewN | apply below_drew1 | refine below_set ?_ GE407.out) | exact HB.out)⟩
    · rw [if_neg c4] at H
      exact absurd H (by simp)
  · rw [if_neg c3] at H
    exact absurd H (by simp)

end Go.Proofs.Ytleeponhjgmioaa.Pa
