-- Written by this claim's own program (printg.py) out of the translation; Lean checks it.
import Derived.Test.YtleeponhjgmioaaPa0
import Derived.Test.YtleeponhjgmioaaPaf68
namespace Go.Proofs.Ytleeponhjgmioaa.Pa
open Go.RowKit Go.Proofs.YtleeponhjgmioaaW.PrintWords Go.Proofs.YtleeponhjgmioaaW.PrintLast Go.Proofs.YtleeponhjgmioaaW.PrintMore
attribute [local go_sem] max2_int min2_int max_two min_two max_three min_three max_four min_four   -- for this text's walks alone
set_option linter.unusedVariables false
set_option linter.unusedSimpArgs false

/-! ### spec_l05Walker: function 81 -/
def spec_l05Walker.j0 : Nat → Bool → Int → Int → Int → Int → Int → Int → Option (Bool)
  | 0, _, _, _, _, _, _, _ => none
  | k + 1, x25, x223000, x223001, x223002, x223003, x223004, x223005 => if x25 = true then (some false) else ((spec_l00In.f (wrap64 (x223003)) 0 60).bind fun t226 => (if t226 = true then ((spec_l00In.f (wrap64 (x223004)) 1 60).bind fun t227 => (if t227 = true then ((spec_l00In.f (wrap64 (x223005)) (-7) 7).bind fun t228 => (some t228)) else (some false))) else (some false)))
def spec_l05Walker.f (k : Nat) (a0 : Int) (a1_0 : Int) (a1_1 : Int) (a1_2 : Int) (a1_3 : Int) (a1_4 : Int) (a1_5 : Int) : Option (Bool) := (spec_l00In.f (wrap64 (a1_0)) 0 10000).bind fun t223 => (if t223 = true then ((spec_l00In.f (wrap64 (a1_1)) 1 100).bind fun t224 => (if t224 = true then ((spec_l00In.f (wrap64 (a1_2)) 0 (wrap64 (a0 - 1))).bind fun t225 => (spec_l05Walker.j0 k (!t225) a1_0 a1_1 a1_2 a1_3 a1_4 a1_5)) else (spec_l05Walker.j0 k true a1_0 a1_1 a1_2 a1_3 a1_4 a1_5))) else (spec_l05Walker.j0 k true a1_0 a1_1 a1_2 a1_3 a1_4 a1_5))
theorem spec_l05Walker.mono_l : ∀ k, (∀ y0 y1 y2 y3 y4 y5 y6, LeO (spec_l05Walker.j0 k y0 y1 y2 y3 y4 y5 y6) (spec_l05Walker.j0 (k + 1) y0 y1 y2 y3 y4 y5 y6))
  | 0 => fun _ _ _ _ _ _ _ r h => by simp [spec_l05Walker.j0] at h
  | k + 1 => by
    have ih0 := spec_l05Walker.mono_l k
    · intro y0 y1 y2 y3 y4 y5 y6
      unfold spec_l05Walker.j0
      repeat' first
      | (with_reducible exact ih0 _ _ _ _ _ _ _)
      | (with_reducible exact LeO.refl _)
      | (with_reducible exact LeO.none _)
      | (with_reducible refine LeO.ite ?_ ?_)
      | (with_reducible refine LeO.bind ?_ (fun _ => ?_))
      | exact ih0 _ _ _ _ _ _ _
      | exact LeO.none _
      | refine LeO.ite ?_ ?_
      | refine LeO.bind ?_ (fun _ => ?_)
theorem spec_l05Walker.mono : ∀ a0 a1 a2 a3 a4 a5 a6 k, LeO (spec_l05Walker.f k a0 a1 a2 a3 a4 a5 a6) (spec_l05Walker.f (k + 1) a0 a1 a2 a3 a4 a5 a6) := by
  intro a0 a1 a2 a3 a4 a5 a6 k
  have ih0 := spec_l05Walker.mono_l k
  unfold spec_l05Walker.f
  repeat' first
      | (with_reducible exact ih0 _ _ _ _ _ _ _)
      | (with_reducible exact LeO.refl _)
      | (with_reducible exact LeO.none _)
      | (with_reducible refine LeO.ite ?_ ?_)
      | (with_reducible refine LeO.bind ?_ (fun _ => ?_))
      | exact ih0 _ _ _ _ _ _ _
      | exact LeO.none _
      | refine LeO.ite ?_ ?_
      | refine LeO.bind ?_ (fun _ => ?_)
set_option maxHeartbeats 8000000 in
set_option maxRecDepth 100000 in
theorem spec_l05Walker.calls (k : Nat) (a0 : Int) (a1_0 : Int) (a1_1 : Int) (a1_2 : Int) (a1_3 : Int) (a1_4 : Int) (a1_5 : Int) (r : Bool) (w : World) (h : spec_l05Walker.f k a0 a1_0 a1_1 a1_2 a1_3 a1_4 a1_5 = some r) :
    Calls Try.prog 81 #[.int .i64 a0, .agg #[.int .i16 a1_0, .int .i16 a1_1, .int .i16 a1_2, .int .i16 a1_3, .int .i16 a1_4, .int .i8 a1_5]] w fun e w' => e = .returned (.bool r) ∧ Below w.heap.size w w' := by
  have hu40 := Try.underlying40
  have HB := Aside0.mk (Below.refl w.heap.size w)
  have H : ((spec_l00In.f (wrap64 (a1_0)) 0 10000).bind fun t223 => (if t223 = true then ((spec_l00In.f (wrap64 (a1_1)) 1 100).bind fun t224 => (if t224 = true then ((spec_l00In.f (wrap64 (a1_2)) 0 (wrap64 (a0 - 1))).bind fun t225 => (spec_l05Walker.j0 k (!t225) a1_0 a1_1 a1_2 a1_3 a1_4 a1_5)) else (spec_l05Walker.j0 k true a1_0 a1_1 a1_2 a1_3 a1_4 a1_5))) else (spec_l05Walker.j0 k true a1_0 a1_1 a1_2 a1_3 a1_4 a1_5))) = some r := h
  clear h
  have HC3 := Aside0.mk H
  clear H
  go_enter Try.func81, Try.ntmps81
  go_upto_region 1 with (first | ((with_reducible refine gate_dst (N := 3) rfl ?_); refine box_event ?hg (N := 3) ?hd (cs := #[.int .i16 a1_0, .int .i16 a1_1, .int .i16 a1_2, .int .i16 a1_3, .int .i16 a1_4, .int .i8 a1_5]) (t := 40) ?hr ?_; (case hd => rfl); (case hg => rfl); (case hr => first | (go_simp; done) | (go_simp; rfl)); intro gb222 hg w4 hbox hb; have n0_ := Aside0.mk (below_step (by repeat (first | (with_reducible first | exact HB.out | apply below_alloc | apply pw_below_drewN | apply below_drew1) | exact HB.out)) hb); have n1_ := Aside0.mk (hbox); have n2_ := Aside0.mk ((by rw [hg]; exact (below_size (by repeat (first | (with_reducible first | exact HB.out | apply below_alloc | apply pw_below_drewN | apply below_drew1) | exact HB.out))) : w.heap.size ≤ gb222)); have n3_ := Aside0.mk ((by rw [hg]; exact (below_size (by repeat (first | (with_reducible first | exact HB.out | apply below_alloc | apply pw_below_drewN | apply below_drew1) | exact HB.out))) : w.heap.size ≤ gb222)); clear HB; have HB := n0_; have BK222 := n1_; have GW222 := n2_; have GE222 := n3_; clear n0_ n1_ n2_ n3_; clear hb hbox hg))
  (try simp only [Act.put, List.setIfInBounds_toArray, List.set_cons_zero, List.set_cons_succ])
  go_cut [25] (fun v25 wc => ∃ (kq : Nat) (x25_2 : Bool), v25 = .bool x25_2 ∧ Aside0 (spec_l05Walker.j0 kq x25_2 a1_0 a1_1 a1_2 a1_3 a1_4 a1_5 = some r) ∧ Aside0 (kq ≤ k) ∧ Aside0 (wc.heap[gb222]? = some (.cells #[.int .i16 a1_0, .int .i16 a1_1, .int .i16 a1_2, .int .i16 a1_3, .int .i16 a1_4, .int .i8 a1_5] 40 (0, 0))) ∧ Aside0 (Below w.heap.size w wc))
  case first =>
    have H := HC3.out
    clear HC3
    replace H := Option.bind_eq_some_iff.mp H
    obtain ⟨t223, A50, H⟩ := H
    replace H : (if t223 = true then ((spec_l00In.f (wrap64 (a1_1)) 1 100).bind fun t224 => (if t224 = true then ((spec_l00In.f (wrap64 (a1_2)) 0 (wrap64 (a0 - 1))).bind fun t225 => (spec_l05Walker.j0 k (!t225) a1_0 a1_1 a1_2 a1_3 a1_4 a1_5)) else (spec_l05Walker.j0 k true a1_0 a1_1 a1_2 a1_3 a1_4 a1_5))) else (spec_l05Walker.j0 k true a1_0 a1_1 a1_2 a1_3 a1_4 a1_5)) = some r := H
    have A5 := Aside0.mk A50
    clear A50
    by_cases c6 : t223 = true
    · subst c6
      have H1 : ((spec_l00In.f (wrap64 (a1_1)) 1 100).bind fun t224 => (if t224 = true then ((spec_l00In.f (wrap64 (a1_2)) 0 (wrap64 (a0 - 1))).bind fun t225 => (spec_l05Walker.j0 k (!t225) a1_0 a1_1 a1_2 a1_3 a1_4 a1_5)) else (spec_l05Walker.j0 k true a1_0 a1_1 a1_2 a1_3 a1_4 a1_5))) = some r := by rw [if_pos rfl] at H; exact H
      clear H
      have H := H1
      clear H1
      replace H := Option.bind_eq_some_iff.mp H
      obtain ⟨t224, A70, H⟩ := H
      replace H : (if t224 = true then ((spec_l00In.f (wrap64 (a1_2)) 0 (wrap64 (a0 - 1))).bind fun t225 => (spec_l05Walker.j0 k (!t225) a1_0 a1_1 a1_2 a1_3 a1_4 a1_5)) else (spec_l05Walker.j0 k true a1_0 a1_1 a1_2 a1_3 a1_4 a1_5)) = some r := H
      have A7 := Aside0.mk A70
      clear A70
      by_cases c8 : t224 = true
      · subst c8
        have H1 : ((spec_l00In.f (wrap64 (a1_2)) 0 (wrap64 (a0 - 1))).bind fun t225 => (spec_l05Walker.j0 k (!t225) a1_0 a1_1 a1_2 a1_3 a1_4 a1_5)) = some r := by rw [if_pos rfl] at H; exact H
        clear H
        have H := H1
        clear H1
        replace H := Option.bind_eq_some_iff.mp H
        obtain ⟨t225, A90, H⟩ := H
        replace H : (spec_l05Walker.j0 k (!t225) a1_0 a1_1 a1_2 a1_3 a1_4 a1_5) = some r := H
        have A9 := Aside0.mk A90
        clear A90
        have H' := Aside0.mk H
        clear H
        have hcz10_0 : w4.cell? ⟨gb222, 0, none⟩ = some (.int .i16 a1_0) := (blk_cell BK222.out 0).trans rfl
        have hcz10_1 : w4.cell? ⟨gb222, 1, none⟩ = some (.int .i16 a1_1) := (blk_cell BK222.out 1).trans rfl
        have hcz10_2 : w4.cell? ⟨gb222, 2, none⟩ = some (.int .i16 a1_2) := (blk_cell BK222.out 2).trans rfl
        have hcz10_3 : w4.cell? ⟨gb222, 3, none⟩ = some (.int .i16 a1_3) := (blk_cell BK222.out 3).trans rfl
        have hcz10_4 : w4.cell? ⟨gb222, 4, none⟩ = some (.int .i16 a1_4) := (blk_cell BK222.out 4).trans rfl
        have hcz10_5 : w4.cell? ⟨gb222, 5, none⟩ = some (.int .i8 a1_5) := (blk_cell BK222.out 5).trans rfl
        have hfz10_0 := blk_frozen BK222.out 0
        have hfz10_1 := blk_frozen BK222.out 1
        have hfz10_2 := blk_frozen BK222.out 2
        have hfz10_3 := blk_frozen BK222.out 3
        have hfz10_4 := blk_frozen BK222.out 4
        have hfz10_5 := blk_frozen BK222.out 5
        go_wp2_with (first | ((with_reducible refine gate_callee (f := 68) rfl ?_); refine goesL_ (some 8) rfl rfl Try.func68 (by kernel_rfl) rfl #[.int .i64 (wrap64 (a1_0)), .int .i64 0, .int .i64 10000] rfl (by (try simp only [List.map_toArray, List.map_cons, List.map_nil]); first | done | rfl | (simp only [List.length_drop, List.length_take]; rfl)) ?_; (with_reducible refine (spec_l00In.calls (wrap64 (a1_0)) 0 10000 true _ A5.out).mono ?_); rintro e w' ⟨rfl, ⟨nd, rfl⟩⟩; refine ⟨_, rfl, ?_⟩) | (go_at_call 68; (with_reducible refine (spec_l00In.calls (wrap64 (a1_1)) 1 100 true _ A7.out).mono ?_); rintro e w' ⟨rfl, ⟨nd, rfl⟩⟩) | (go_at_call 68; (with_reducible refine (spec_l00In.calls (wrap64 (a1_2)) 0 (wrap64 (a0 - 1)) t225 _ A9.out).mono ?_); rintro e w' ⟨rfl, ⟨nd, rfl⟩⟩))
        go_meet
        case rel => exact ⟨_, (!t225), (by first | rfl | (simp; done) | (simp [*]; done)), H', ⟨by first | omega | exact Nat.le_refl _⟩, ⟨by (with_reducible repeat (first | refine blk_drewN ?_ _ | refine blk_drew ?_ | refine blk_alloc ?_ _)); exact BK222.out⟩, ⟨by repeat (first | (with_reducible first | exact HB.out | apply below_alloc | apply pw_below_drewN | apply below_drew1 | refine below_set ?_ GE222.out) | exact HB.out)⟩⟩
      · replace c8 := Bool.eq_false_iff.mpr c8
        subst c8
        have H1 : (spec_l05Walker.j0 k true a1_0 a1_1 a1_2 a1_3 a1_4 a1_5) = some r := by rw [if_neg (show ¬ (false = true) by decide)] at H; exact H
        clear H
        have H := H1
        clear H1
        have H' := Aside0.mk H
        clear H
        have hcz11_0 : w4.cell? ⟨gb222, 0, none⟩ = some (.int .i16 a1_0) := (blk_cell BK222.out 0).trans rfl
        have hcz11_1 : w4.cell? ⟨gb222, 1, none⟩ = some (.int .i16 a1_1) := (blk_cell BK222.out 1).trans rfl
        have hcz11_2 : w4.cell? ⟨gb222, 2, none⟩ = some (.int .i16 a1_2) := (blk_cell BK222.out 2).trans rfl
        have hcz11_3 : w4.cell? ⟨gb222, 3, none⟩ = some (.int .i16 a1_3) := (blk_cell BK222.out 3).trans rfl
        have hcz11_4 : w4.cell? ⟨gb222, 4, none⟩ = some (.int .i16 a1_4) := (blk_cell BK222.out 4).trans rfl
        have hcz11_5 : w4.cell? ⟨gb222, 5, none⟩ = some (.int .i8 a1_5) := (blk_cell BK222.out 5).trans rfl
        have hfz11_0 := blk_frozen BK222.out 0
        have hfz11_1 := blk_frozen BK222.out 1
        have hfz11_2 := blk_frozen BK222.out 2
        have hfz11_3 := blk_frozen BK222.out 3
        have hfz11_4 := blk_frozen BK222.out 4
        have hfz11_5 := blk_frozen BK222.out 5
        go_wp2_with (first | ((with_reducible refine gate_callee (f := 68) rfl ?_); refine goesL_ (some 8) rfl rfl Try.func68 (by kernel_rfl) rfl #[.int .i64 (wrap64 (a1_0)), .int .i64 0, .int .i64 10000] rfl (by (try simp only [List.map_toArray, List.map_cons, List.map_nil]); first | done | rfl | (simp only [List.length_drop, List.length_take]; rfl)) ?_; (with_reducible refine (spec_l00In.calls (wrap64 (a1_0)) 0 10000 true _ A5.out).mono ?_); rintro e w' ⟨rfl, ⟨nd, rfl⟩⟩; refine ⟨_, rfl, ?_⟩) | (go_at_call 68; (with_reducible refine (spec_l00In.calls (wrap64 (a1_1)) 1 100 false _ A7.out).mono ?_); rintro e w' ⟨rfl, ⟨nd, rfl⟩⟩))
        go_meet
        case rel => exact ⟨_, (true), (by first | rfl | (simp; done) | (simp [*]; done)), H', ⟨by first | omega | exact Nat.le_refl _⟩, ⟨by (with_reducible repeat (first | refine blk_drewN ?_ _ | refine blk_drew ?_ | refine blk_alloc ?_ _)); exact BK222.out⟩, ⟨by repeat (first | (with_reducible first | exact HB.out | apply below_alloc | apply pw_below_drewN | apply below_drew1 | refine below_set ?_ GE222.out) | exact HB.out)⟩⟩
    · replace c6 := Bool.eq_false_iff.mpr c6
      subst c6
      have H1 : (spec_l05Walker.j0 k true a1_0 a1_1 a1_2 a1_3 a1_4 a1_5) = some r := by rw [if_neg (show ¬ (false = true) by decide)] at H; exact H
      clear H
      have H := H1
      clear H1
      have H' := Aside0.mk H
      clear H
      have hcz12_0 : w4.cell? ⟨gb222, 0, none⟩ = some (.int .i16 a1_0) := (blk_cell BK222.out 0).trans rfl
      have hcz12_1 : w4.cell? ⟨gb222, 1, none⟩ = some (.int .i16 a1_1) := (blk_cell BK222.out 1).trans rfl
      have hcz12_2 : w4.cell? ⟨gb222, 2, none⟩ = some (.int .i16 a1_2) := (blk_cell BK222.out 2).trans rfl
      have hcz12_3 : w4.cell? ⟨gb222, 3, none⟩ = some (.int .i16 a1_3) := (blk_cell BK222.out 3).trans rfl
      have hcz12_4 : w4.cell? ⟨gb222, 4, none⟩ = some (.int .i16 a1_4) := (blk_cell BK222.out 4).trans rfl
      have hcz12_5 : w4.cell? ⟨gb222, 5, none⟩ = some (.int .i8 a1_5) := (blk_cell BK222.out 5).trans rfl
      have hfz12_0 := blk_frozen BK222.out 0
      have hfz12_1 := blk_frozen BK222.out 1
      have hfz12_2 := blk_frozen BK222.out 2
      have hfz12_3 := blk_frozen BK222.out 3
      have hfz12_4 := blk_frozen BK222.out 4
      have hfz12_5 := blk_frozen BK222.out 5
      go_wp2_with (first | ((with_reducible refine gate_callee (f := 68) rfl ?_); refine goesL_ (some 8) rfl rfl Try.func68 (by kernel_rfl) rfl #[.int .i64 (wrap64 (a1_0)), .int .i64 0, .int .i64 10000] rfl (by (try simp only [List.map_toArray, List.map_cons, List.map_nil]); first | done | rfl | (simp only [List.length_drop, List.length_take]; rfl)) ?_; (with_reducible refine (spec_l00In.calls (wrap64 (a1_0)) 0 10000 false _ A5.out).mono ?_); rintro e w' ⟨rfl, ⟨nd, rfl⟩⟩; refine ⟨_, rfl, ?_⟩))
      go_meet
      case rel => exact ⟨_, (true), (by first | rfl | (simp; done) | (simp [*]; done)), H', ⟨by first | omega | exact Nat.le_refl _⟩, ⟨by (with_reducible repeat (first | refine blk_drewN ?_ _ | refine blk_drew ?_ | refine blk_alloc ?_ _)); exact BK222.out⟩, ⟨by repeat (first | (with_reducible first | exact HB.out | apply below_alloc | apply pw_below_drewN | apply below_drew1 | refine below_set ?_ GE222.out) | exact HB.out)⟩⟩
  case rest =>
    clear HC3
    try clear p2
    try clear c6
    try clear p6
    try clear c8
    try clear hcz10_0
    try clear hcz10_1
    try clear hcz10_2
    try clear hcz10_3
    try clear hcz10_4
    try clear hcz10_5
    try clear hcz11_0
    try clear hcz11_1
    try clear hcz11_2
    try clear hcz11_3
    try clear hcz11_4
    try clear hcz11_5
    try clear hcz12_0
    try clear hcz12_1
    try clear hcz12_2
    try clear hcz12_3
    try clear hcz12_4
    try clear hcz12_5
    try clear hfz10_0
    try clear hfz10_1
    try clear hfz10_2
    try clear hfz10_3
    try clear hfz10_4
    try clear hfz10_5
    try clear hfz11_0
    try clear hfz11_1
    try clear hfz11_2
    try clear hfz11_3
    try clear hfz11_4
    try clear hfz11_5
    try clear hfz12_0
    try clear hfz12_1
    try clear hfz12_2
    try clear hfz12_3
    try clear hfz12_4
    try clear hfz12_5
    obtain ⟨kq, x25_2, rfl, HA, HJ2, BK222, HB⟩ := hcut
    cases kq with
    | zero => exact absurd HA.out (by simp [spec_l05Walker.j0])
    | succ kj2 =>
      have H := HA.out
      clear HA
      simp only [spec_l05Walker.j0] at H
      by_cases c13 : x25_2 = true
      · subst c13
        have H1 : (some false) = some r := by rw [if_pos rfl] at H; exact H
        clear H
        have H := H1
        clear H1
        obtain rfl := Option.some.inj H
        go_wp2
        go_ret
        exact ⟨by first | rfl | (simp [errW_none, errW_some] <;> rfl) | (simp [*, errW_none, errW_some] <;> rfl), by repeat (first | (with_reducible first | exact HB.out | apply below_alloc | apply pw_below_drewN | apply below_drew1 | refine below_set ?_ GE222.out) | exact HB.out)⟩
      · replace c13 := Bool.eq_false_iff.mpr c13
        subst c13
        have H1 : ((spec_l00In.f (wrap64 (a1_3)) 0 60).bind fun t226 => (if t226 = true then ((spec_l00In.f (wrap64 (a1_4)) 1 60).bind fun t227 => (if t227 = true then ((spec_l00In.f (wrap64 (a1_5)) (-7) 7).bind fun t228 => (some t228)) else (some false))) else (some false))) = some r := by rw [if_neg (show ¬ (false = true) by decide)] at H; exact H
        clear H
        have H := H1
        clear H1
        replace H := Option.bind_eq_some_iff.mp H
        obtain ⟨t226, A140, H⟩ := H
        replace H : (if t226 = true then ((spec_l00In.f (wrap64 (a1_4)) 1 60).bind fun t227 => (if t227 = true then ((spec_l00In.f (wrap64 (a1_5)) (-7) 7).bind fun t228 => (some t228)) else (some false))) else (some false)) = some r := H
        have A14 := Aside0.mk A140
        clear A140
        by_cases c15 : t226 = true
        · subst c15
          have H1 : ((spec_l00In.f (wrap64 (a1_4)) 1 60).bind fun t227 => (if t227 = true then ((spec_l00In.f (wrap64 (a1_5)) (-7) 7).bind fun t228 => (some t228)) else (some false))) = some r := by rw [if_pos rfl] at H; exact H
          clear H
          have H := H1
          clear H1
          replace H := Option.bind_eq_some_iff.mp H
          obtain ⟨t227, A160, H⟩ := H
          replace H : (if t227 = true then ((spec_l00In.f (wrap64 (a1_5)) (-7) 7).bind fun t228 => (some t228)) else (some false)) = some r := H
          have A16 := Aside0.mk A160
          clear A160
          by_cases c17 : t227 = true
          · subst c17
            have H1 : ((spec_l00In.f (wrap64 (a1_5)) (-7) 7).bind fun t228 => (some t228)) = some r := by rw [if_pos rfl] at H; exact H
            clear H
            have H := H1
            clear H1
            replace H := Option.bind_eq_some_iff.mp H
            obtain ⟨t228, A180, H⟩ := H
            replace H : (some t228) = some r := H
            have A18 := Aside0.mk A180
            clear A180
            obtain rfl := Option.some.inj H
            have hcz19_0 : wc.cell? ⟨gb222, 0, none⟩ = some (.int .i16 a1_0) := (blk_cell BK222.out 0).trans rfl
            have hcz19_1 : wc.cell? ⟨gb222, 1, none⟩ = some (.int .i16 a1_1) := (blk_cell BK222.out 1).trans rfl
            have hcz19_2 : wc.cell? ⟨gb222, 2, none⟩ = some (.int .i16 a1_2) := (blk_cell BK222.out 2).trans rfl
            have hcz19_3 : wc.cell? ⟨gb222, 3, none⟩ = some (.int .i16 a1_3) := (blk_cell BK222.out 3).trans rfl
            have hcz19_4 : wc.cell? ⟨gb222, 4, none⟩ = some (.int .i16 a1_4) := (blk_cell BK222.out 4).trans rfl
            have hcz19_5 : wc.cell? ⟨gb222, 5, none⟩ = some (.int .i8 a1_5) := (blk_cell BK222.out 5).trans rfl
            have hfz19_0 := blk_frozen BK222.out 0
            have hfz19_1 := blk_frozen BK222.out 1
            have hfz19_2 := blk_frozen BK222.out 2
            have hfz19_3 := blk_frozen BK222.out 3
            have hfz19_4 := blk_frozen BK222.out 4
            have hfz19_5 := blk_frozen BK222.out 5
            go_wp2_with (first | ((with_reducible refine gate_callee (f := 68) rfl ?_); refine goesL_ (some 29) rfl rfl Try.func68 (by kernel_rfl) rfl #[.int .i64 (wrap64 (a1_3)), .int .i64 0, .int .i64 60] rfl (by (try simp only [List.map_toArray, List.map_cons, List.map_nil]); first | done | rfl | (simp only [List.length_drop, List.length_take]; rfl)) ?_; (with_reducible refine (spec_l00In.calls (wrap64 (a1_3)) 0 60 true _ A14.out).mono ?_); rintro e w' ⟨rfl, ⟨nd, rfl⟩⟩; refine ⟨_, rfl, ?_⟩) | (go_at_call 68; (with_reducible refine (spec_l00In.calls (wrap64 (a1_4)) 1 60 true _ A16.out).mono ?_); rintro e w' ⟨rfl, ⟨nd, rfl⟩⟩) | (go_at_call 68; (with_reducible refine (spec_l00In.calls (wrap64 (a1_5)) (-7) 7 t228 _ A18.out).mono ?_); rintro e w' ⟨rfl, ⟨nd, rfl⟩⟩))
            go_ret
            exact ⟨by first | rfl | (simp [errW_none, errW_some] <;> rfl) | (simp [*, errW_none, errW_some] <;> rfl), by repeat (first | (with_reducible first | exact HB.out | apply below_alloc | apply pw_below_drewN | apply below_drew1 | refine below_set ?_ GE222.out) | exact HB.out)⟩
          · replace c17 := Bool.eq_false_iff.mpr c17
            subst c17
            have H1 : (some false) = some r := by rw [if_neg (show ¬ (false = true) by decide)] at H; exact H
            clear H
            have H := H1
            clear H1
            obtain rfl := Option.some.inj H
            have hcz20_0 : wc.cell? ⟨gb222, 0, none⟩ = some (.int .i16 a1_0) := (blk_cell BK222.out 0).trans rfl
            have hcz20_1 : wc.cell? ⟨gb222, 1, none⟩ = some (.int .i16 a1_1) := (blk_cell BK222.out 1).trans rfl
            have hcz20_2 : wc.cell? ⟨gb222, 2, none⟩ = some (.int .i16 a1_2) := (blk_cell BK222.out 2).trans rfl
            have hcz20_3 : wc.cell? ⟨gb222, 3, none⟩ = some (.int .i16 a1_3) := (blk_cell BK222.out 3).trans rfl
            have hcz20_4 : wc.cell? ⟨gb222, 4, none⟩ = some (.int .i16 a1_4) := (blk_cell BK222.out 4).trans rfl
            have hcz20_5 : wc.cell? ⟨gb222, 5, none⟩ = some (.int .i8 a1_5) := (blk_cell BK222.out 5).trans rfl
            have hfz20_0 := blk_frozen BK222.out 0
            have hfz20_1 := blk_frozen BK222.out 1
            have hfz20_2 := blk_frozen BK222.out 2
            have hfz20_3 := blk_frozen BK222.out 3
            have hfz20_4 := blk_frozen BK222.out 4
            have hfz20_5 := blk_frozen BK222.out 5
            go_wp2_with (first | ((with_reducible refine gate_callee (f := 68) rfl ?_); refine goesL_ (some 29) rfl rfl Try.func68 (by kernel_rfl) rfl #[.int .i64 (wrap64 (a1_3)), .int .i64 0, .int .i64 60] rfl (by (try simp only [List.map_toArray, List.map_cons, List.map_nil]); first | done | rfl | (simp only [List.length_drop, List.length_take]; rfl)) ?_; (with_reducible refine (spec_l00In.calls (wrap64 (a1_3)) 0 60 true _ A14.out).mono ?_); rintro e w' ⟨rfl, ⟨nd, rfl⟩⟩; refine ⟨_, rfl, ?_⟩) | (go_at_call 68; (with_reducible refine (spec_l00In.calls (wrap64 (a1_4)) 1 60 false _ A16.out).mono ?_); rintro e w' ⟨rfl, ⟨nd, rfl⟩⟩))
            go_ret
            exact ⟨by first | rfl | (simp [errW_none, errW_some] <;> rfl) | (simp [*, errW_none, errW_some] <;> rfl), by repeat (first | (with_reducible first | exact HB.out | apply below_alloc | apply pw_below_drewN | apply below_drew1 | refine below_set ?_ GE222.out) | exact HB.out)⟩
        · replace c15 := Bool.eq_false_iff.mpr c15
          subst c15
          have H1 : (some false) = some r := by rw [if_neg (show ¬ (false = true) by decide)] at H; exact H
          clear H
          have H := H1
          clear H1
          obtain rfl := Option.some.inj H
          have hcz21_0 : wc.cell? ⟨gb222, 0, none⟩ = some (.int .i16 a1_0) := (blk_cell BK222.out 0).trans rfl
          have hcz21_1 : wc.cell? ⟨gb222, 1, none⟩ = some (.int .i16 a1_1) := (blk_cell BK222.out 1).trans rfl
          have hcz21_2 : wc.cell? ⟨gb222, 2, none⟩ = some (.int .i16 a1_2) := (blk_cell BK222.out 2).trans rfl
          have hcz21_3 : wc.cell? ⟨gb222, 3, none⟩ = some (.int .i16 a1_3) := (blk_cell BK222.out 3).trans rfl
          have hcz21_4 : wc.cell? ⟨gb222, 4, none⟩ = some (.int .i16 a1_4) := (blk_cell BK222.out 4).trans rfl
          have hcz21_5 : wc.cell? ⟨gb222, 5, none⟩ = some (.int .i8 a1_5) := (blk_cell BK222.out 5).trans rfl
          have hfz21_0 := blk_frozen BK222.out 0
          have hfz21_1 := blk_frozen BK222.out 1
          have hfz21_2 := blk_frozen BK222.out 2
          have hfz21_3 := blk_frozen BK222.out 3
          have hfz21_4 := blk_frozen BK222.out 4
          have hfz21_5 := blk_frozen BK222.out 5
          go_wp2_with (first | ((with_reducible refine gate_callee (f := 68) rfl ?_); refine goesL_ (some 29) rfl rfl Try.func68 (by kernel_rfl) rfl #[.int .i64 (wrap64 (a1_3)), .int .i64 0, .int .i64 60] rfl (by (try simp only [List.map_toArray, List.map_cons, List.map_nil]); first | done | rfl | (simp only [List.length_drop, List.length_take]; rfl)) ?_; (with_reducible refine (spec_l00In.calls (wrap64 (a1_3)) 0 60 false _ A14.out).mono ?_); rintro e w' ⟨rfl, ⟨nd, rfl⟩⟩; refine ⟨_, rfl, ?_⟩))
          go_ret
          exact ⟨by first | rfl | (simp [errW_none, errW_some] <;> rfl) | (simp [*, errW_none, errW_some] <;> rfl), by repeat (first | (with_reducible first | exact HB.out | apply below_alloc | apply pw_below_drewN | apply below_drew1 | refine below_set ?_ GE222.out) | exact HB.out)⟩

end Go.Proofs.Ytleeponhjgmioaa.Pa
