-- Written by this claim's own program (printg.py) out of the translation; Lean checks it.
import Derived.Test.YtleeponhjgmioaaPa0
import Derived.Test.YtleeponhjgmioaaPaf56
import Derived.Test.YtleeponhjgmioaaPaf57
import Derived.Test.YtleeponhjgmioaaPaf58
import Derived.Test.YtleeponhjgmioaaPaf73
namespace Go.Proofs.Ytleeponhjgmioaa.Pa
open Go.RowKit Go.Proofs.YtleeponhjgmioaaW.PrintWords Go.Proofs.YtleeponhjgmioaaW.PrintLast Go.Proofs.YtleeponhjgmioaaW.PrintMore
attribute [local go_sem] max2_int min2_int max_two min_two max_three min_three max_four min_four   -- for this text's walks alone
set_option linter.unusedVariables false
set_option linter.unusedSimpArgs false

/-! ### spec_MeetingDay: function 44 -/
def spec_MeetingDay.l0 : Nat → Int → Int → Int → Int → Int → Int → Int → Int → Int → Int → Int → Int → Int → Int → Option (Int × Int)
  | 0, _, _, _, _, _, _, _, _, _, _, _, _, _, _ => none
  | k + 1, x11, x12, x480000, x480001, x480002, x480003, x480004, x480005, x481000, x481001, x481002, x481003, x481004, x481005 => if x12 < (wrap64 ((wrap64 (x480001)) * (wrap64 (x481001)))) then ((spec_l05On.f x480000 x480001 x480002 x480003 x480004 x480005 (wrap64 (x11 + x12))).bind fun t488 => (if t488 = true then ((spec_l05On.f x481000 x481001 x481002 x481003 x481004 x481005 (wrap64 (x11 + x12))).bind fun t489 => (if t489 = true then (some (wrap64 (x11 + x12), 0)) else (spec_MeetingDay.l0 k x11 (wrap64 (x12 + 1)) x480000 x480001 x480002 x480003 x480004 x480005 x481000 x481001 x481002 x481003 x481004 x481005))) else (spec_MeetingDay.l0 k x11 (wrap64 (x12 + 1)) x480000 x480001 x480002 x480003 x480004 x480005 x481000 x481001 x481002 x481003 x481004 x481005))) else (some (0, 6))
def spec_MeetingDay.f (k : Nat) (a0 : Int) (a1_0 : Int) (a1_1 : Int) (a1_2 : Int) (a1_3 : Int) (a1_4 : Int) (a1_5 : Int) (a2_0 : Int) (a2_1 : Int) (a2_2 : Int) (a2_3 : Int) (a2_4 : Int) (a2_5 : Int) (a3 : Int) : Option (Int × Int) := (spec_l05Day.f a3).bind fun t484 => ((spec_l05Asked.f k a0 (([(⟨a1_0, a1_1, a1_2, a1_3, a1_4, a1_5⟩ : S40), (⟨a2_0, a2_1, a2_2, a2_3, a2_4, a2_5⟩ : S40)] : List (S40))) t484).bind fun t485 => (if t485 = 0 then ((spec_l00Max.f (wrap64 (a1_0)) (wrap64 (a2_0))).bind fun t486 => ((spec_l00Max.f a3 t486).bind fun t487 => (spec_MeetingDay.l0 k t487 0 a1_0 a1_1 a1_2 a1_3 a1_4 a1_5 a2_0 a2_1 a2_2 a2_3 a2_4 a2_5))) else (some (0, t485))))
theorem spec_MeetingDay.mono_l : ∀ k, (∀ y0 y1 y2 y3 y4 y5 y6 y7 y8 y9 y10 y11 y12 y13, LeO (spec_MeetingDay.l0 k y0 y1 y2 y3 y4 y5 y6 y7 y8 y9 y10 y11 y12 y13) (spec_MeetingDay.l0 (k + 1) y0 y1 y2 y3 y4 y5 y6 y7 y8 y9 y10 y11 y12 y13))
  | 0 => fun _ _ _ _ _ _ _ _ _ _ _ _ _ _ r h => by simp [spec_MeetingDay.l0] at h
  | k + 1 => by
    have ih0 := spec_MeetingDay.mono_l k
    · intro y0 y1 y2 y3 y4 y5 y6 y7 y8 y9 y10 y11 y12 y13
      unfold spec_MeetingDay.l0
      repeat' first
      | (with_reducible exact ih0 _ _ _ _ _ _ _ _ _ _ _ _ _ _)
      | (with_reducible exact spec_l05Asked.mono _ _ _ _)
      | (with_reducible exact LeO.refl _)
      | (with_reducible exact LeO.none _)
      | (with_reducible refine LeO.ite ?_ ?_)
      | (with_reducible refine LeO.bind ?_ (fun _ => ?_))
      | exact ih0 _ _ _ _ _ _ _ _ _ _ _ _ _ _
      | exact spec_l05Asked.mono _ _ _ _
      | exact LeO.none _
      | refine LeO.ite ?_ ?_
      | refine LeO.bind ?_ (fun _ => ?_)
theorem spec_MeetingDay.mono : ∀ a0 a1 a2 a3 a4 a5 a6 a7 a8 a9 a10 a11 a12 a13 k, LeO (spec_MeetingDay.f k a0 a1 a2 a3 a4 a5 a6 a7 a8 a9 a10 a11 a12 a13) (spec_MeetingDay.f (k + 1) a0 a1 a2 a3 a4 a5 a6 a7 a8 a9 a10 a11 a12 a13) := by
  intro a0 a1 a2 a3 a4 a5 a6 a7 a8 a9 a10 a11 a12 a13 k
  have ih0 := spec_MeetingDay.mono_l k
  unfold spec_MeetingDay.f
  repeat' first
      | (with_reducible exact ih0 _ _ _ _ _ _ _ _ _ _ _ _ _ _)
      | (with_reducible exact spec_l05Asked.mono _ _ _ _)
      | (with_reducible exact LeO.refl _)
      | (with_reducible exact LeO.none _)
      | (with_reducible refine LeO.ite ?_ ?_)
      | (with_reducible refine LeO.bind ?_ (fun _ => ?_))
      | exact ih0 _ _ _ _ _ _ _ _ _ _ _ _ _ _
      | exact spec_l05Asked.mono _ _ _ _
      | exact LeO.none _
      | refine LeO.ite ?_ ?_
      | refine LeO.bind ?_ (fun _ => ?_)
def spec_MeetingDay.T1 : Bool × List (List Nat × List Nat) := (true, [([], []), ([], []), ([], []), ([1, 2], [1, 2]), ([], []), ([4], [4]), ([0, 3, 5, 5], [0, 3, 5]), ([6, 6, 0, 1, 2, 3, 4, 5, 6], [6])])
def spec_MeetingDay.B1 : List Nat := [0, 0, 0, 6, 0, 16, 63, 127]
theorem spec_MeetingDay.tab1 : rtab .any (opsOf Try.f44 1) = spec_MeetingDay.T1 := by kernel_rfl
theorem spec_MeetingDay.bits1 : waitsOk spec_MeetingDay.T1.2 spec_MeetingDay.B1 = true := by kernel_rfl
set_option maxHeartbeats 8000000 in
set_option maxRecDepth 100000 in
theorem spec_MeetingDay.calls (k : Nat) (a0 : Int) (a1_0 : Int) (a1_1 : Int) (a1_2 : Int) (a1_3 : Int) (a1_4 : Int) (a1_5 : Int) (a2_0 : Int) (a2_1 : Int) (a2_2 : Int) (a2_3 : Int) (a2_4 : Int) (a2_5 : Int) (a3 : Int) (r1 : Int) (r2 : Int) (w : World) (h : spec_MeetingDay.f k a0 a1_0 a1_1 a1_2 a1_3 a1_4 a1_5 a2_0 a2_1 a2_2 a2_3 a2_4 a2_5 a3 = some (r1, r2)) :
    Calls Try.prog 44 #[.int .i64 a0, .agg #[.int .i16 a1_0, .int .i16 a1_1, .int .i16 a1_2, .int .i16 a1_3, .int .i16 a1_4, .int .i8 a1_5], .agg #[.int .i16 a2_0, .int .i16 a2_1, .int .i16 a2_2, .int .i16 a2_3, .int .i16 a2_4, .int .i8 a2_5], .int .i64 a3] w fun e w' => e = .returned (.tuple #[.int .i64 r1, .int .i64 r2]) ∧ Below w.heap.size w w' := by
  have hu40 := Try.underlying40
  have HB := Aside0.mk (Below.refl w.heap.size w)
  have H : ((spec_l05Day.f a3).bind fun t484 => ((spec_l05Asked.f k a0 (([(⟨a1_0, a1_1, a1_2, a1_3, a1_4, a1_5⟩ : S40), (⟨a2_0, a2_1, a2_2, a2_3, a2_4, a2_5⟩ : S40)] : List (S40))) t484).bind fun t485 => (if t485 = 0 then ((spec_l00Max.f (wrap64 (a1_0)) (wrap64 (a2_0))).bind fun t486 => ((spec_l00Max.f a3 t486).bind fun t487 => (spec_MeetingDay.l0 k t487 0 a1_0 a1_1 a1_2 a1_3 a1_4 a1_5 a2_0 a2_1 a2_2 a2_3 a2_4 a2_5))) else (some (0, t485))))) = some (r1, r2) := h
  clear h
  obtain ⟨y481, hy481⟩ : ∃ y_ : List (S40), y_ = (([(⟨a1_0, a1_1, a1_2, a1_3, a1_4, a1_5⟩ : S40), (⟨a2_0, a2_1, a2_2, a2_3, a2_4, a2_5⟩ : S40)] : List (S40))) := ⟨_, rfl⟩
  replace H : ((spec_l05Day.f a3).bind fun t484 => ((spec_l05Asked.f k a0 y481 t484).bind fun t485 => (if t485 = 0 then ((spec_l00Max.f (wrap64 (a1_0)) (wrap64 (a2_0))).bind fun t486 => ((spec_l00Max.f a3 t486).bind fun t487 => (spec_MeetingDay.l0 k t487 0 a1_0 a1_1 a1_2 a1_3 a1_4 a1_5 a2_0 a2_1 a2_2 a2_3 a2_4 a2_5))) else (some (0, t485))))) = some (r1, r2) := by first | (rw [hy481]; with_reducible exact H) | (have H2_ := (Option.bind_some _ _).symm.trans H; rw [hy481]; with_reducible exact H2_) | (have H2_ := (Option.bind_some _ _).symm.trans H; with_reducible exact H2_) | with_reducible exact H | (rw [hy481]; exact H) | exact H
  have Ny481 := Aside0.mk hy481
  clear hy481
  replace H := Option.bind_eq_some_iff.mp H
  obtain ⟨t484, A50, H⟩ := H
  replace H : ((spec_l05Asked.f k a0 y481 t484).bind fun t485 => (if t485 = 0 then ((spec_l00Max.f (wrap64 (a1_0)) (wrap64 (a2_0))).bind fun t486 => ((spec_l00Max.f a3 t486).bind fun t487 => (spec_MeetingDay.l0 k t487 0 a1_0 a1_1 a1_2 a1_3 a1_4 a1_5 a2_0 a2_1 a2_2 a2_3 a2_4 a2_5))) else (some (0, t485)))) = some (r1, r2) := H
  have A5 := Aside0.mk A50
  clear A50
  replace H := Option.bind_eq_some_iff.mp H
  obtain ⟨t485, A60, H⟩ := H
  replace H : (if t485 = 0 then ((spec_l00Max.f (wrap64 (a1_0)) (wrap64 (a2_0))).bind fun t486 => ((spec_l00Max.f a3 t486).bind fun t487 => (spec_MeetingDay.l0 k t487 0 a1_0 a1_1 a1_2 a1_3 a1_4 a1_5 a2_0 a2_1 a2_2 a2_3 a2_4 a2_5))) else (some (0, t485))) = some (r1, r2) := H
  have A6 := Aside0.mk A60
  clear A60
  by_cases c7 : t485 = 0
  · rw [if_pos c7] at H
    have c7b0 : (t485 == 0) = true := beq_iff_eq.mpr c7
    have c7b1 : (t485 != 0) = false := bne_eq_false_iff_eq.mpr c7
    clear c7
    replace H := Option.bind_eq_some_iff.mp H
    obtain ⟨t486, A80, H⟩ := H
    replace H : ((spec_l00Max.f a3 t486).bind fun t487 => (spec_MeetingDay.l0 k t487 0 a1_0 a1_1 a1_2 a1_3 a1_4 a1_5 a2_0 a2_1 a2_2 a2_3 a2_4 a2_5)) = some (r1, r2) := H
    have A8 := Aside0.mk A80
    clear A80
    replace H := Option.bind_eq_some_iff.mp H
    obtain ⟨t487, A90, H⟩ := H
    replace H : (spec_MeetingDay.l0 k t487 0 a1_0 a1_1 a1_2 a1_3 a1_4 a1_5 a2_0 a2_1 a2_2 a2_3 a2_4 a2_5) = some (r1, r2) := H
    have A9 := Aside0.mk A90
    clear A90
    have H' := Aside0.mk H
    clear H
    go_enter Try.func44, Try.ntmps44
    try go_wp2_with (first | ((with_reducible refine gate_dst (N := 5) rfl ?_); refine box_event ?hg (N := 5) ?hd (cs := #[.int .i16 a1_0, .int .i16 a1_1, .int .i16 a1_2, .int .i16 a1_3, .int .i16 a1_4, .int .i8 a1_5]) (t := 40) ?hr ?_; (case hd => rfl); (case hg => rfl); (case hr => first | (go_simp; done) | (go_simp; rfl)); intro gb479 hg w10 hbox hb; have n0_ := Aside0.mk (below_step (by repeat (first | (with_reducible first | exact HB.out | apply below_alloc | apply pw_below_drewN | apply below_drew1) | exact HB.out)) hb); have n1_ := Aside0.mk (hbox); have n2_ := Aside0.mk ((by rw [hg]; exact (below_size (by repeat (first | (with_reducible first | exact HB.out | apply below_alloc | apply pw_below_drewN | apply below_drew1) | exact HB.out))) : w.heap.size ≤ gb479)); have n3_ := Aside0.mk ((by rw [hg]; exact (below_size (by repeat (first | (with_reducible first | exact HB.out | apply below_alloc | apply pw_below_drewN | apply below_drew1) | exact HB.out))) : w.heap.size ≤ gb479)); clear HB; have HB := n0_; have BK479 := n1_; have GW479 := n2_; have GE479 := n3_; clear n0_ n1_ n2_ n3_; clear hb hbox hg) | ((with_reducible refine gate_dst (N := 6) rfl ?_); refine box_event ?hg (N := 6) ?hd (cs := #[.int .i16 a2_0, .int .i16 a2_1, .int .i16 a2_2, .int .i16 a2_3, .int .i16 a2_4, .int .i8 a2_5]) (t := 40) ?hr ?_; (case hd => rfl); (case hg => rfl); (case hr => first | (go_simp; done) | (go_simp; rfl)); intro gb480 hg w11 hbox hb; have n0_ := Aside0.mk (blk_below (g := gb479) (o := .cells #[.int .i16 a1_0, .int .i16 a1_1, .int .i16 a1_2, .int .i16 a1_3, .int .i16 a1_4, .int .i8 a1_5] 40 (0, 0)) (by (with_reducible repeat (first | refine blk_drewN ?_ _ | refine blk_drew ?_ | refine blk_alloc ?_ _)); exact BK479.out) hb); have n1_ := Aside0.mk (below_step (by repeat (first | (with_reducible first | exact HB.out | apply below_alloc | apply pw_below_drewN | apply below_drew1 | refine below_set ?_ GE479.out) | exact HB.out)) hb); have n2_ := Aside0.mk (hbox); have n3_ := Aside0.mk ((by rw [hg]; exact (below_size (by repeat (first | (with_reducible first | exact HB.out | apply below_alloc | apply pw_below_drewN | apply below_drew1 | refine below_set ?_ GE479.out) | exact HB.out))) : w.heap.size ≤ gb480)); have n4_ := Aside0.mk ((by rw [hg]; exact (below_size (by repeat (first | (with_reducible first | exact HB.out | apply below_alloc | apply pw_below_drewN | apply below_drew1 | refine below_set ?_ GE479.out) | exact HB.out))) : w.heap.size ≤ gb480)); have n5_ := Aside0.mk ((by rw [hg]; exact Nat.ne_of_lt (blk_lt (g := gb479) (o := .cells #[.int .i16 a1_0, .int .i16 a1_1, .int .i16 a1_2, .int .i16 a1_3, .int .i16 a1_4, .int .i8 a1_5] 40 (0, 0)) (by (with_reducible repeat (first | refine blk_drewN ?_ _ | refine blk_drew ?_ | refine blk_alloc ?_ _)); exact BK479.out)) : gb479 ≠ gb480)); have n6_ := Aside0.mk ((by rw [hg]; exact Nat.ne_of_gt (blk_lt (g := gb479) (o := .cells #[.int .i16 a1_0, .int .i16 a1_1, .int .i16 a1_2, .int .i16 a1_3, .int .i16 a1_4, .int .i8 a1_5] 40 (0, 0)) (by (with_reducible repeat (first | refine blk_drewN ?_ _ | refine blk_drew ?_ | refine blk_alloc ?_ _)); exact BK479.out)) : gb480 ≠ gb479)); clear BK479; clear HB; have BK479 := n0_; have HB := n1_; have BK480 := n2_; have GW480 := n3_; have GE480 := n4_; have NB479_480 := n5_; have NB480_479 := n6_; clear n0_ n1_ n2_ n3_ n4_ n5_ n6_; clear hb hbox hg))
    have n0_ := Aside0.mk (blk_drew BK479.out)
    have n1_ := Aside0.mk (blk_drew BK480.out)
    have n2_ := Aside0.mk (below_drew1 HB.out)
    clear BK479
    clear BK480
    clear HB
    have BK479 := n0_
    have BK480 := n1_
    have HB := n2_
    clear n0_ n1_ n2_
    refine start_ (n := 8) (S := fun w' => w'.cell? ⟨gb479, 0, none⟩ = some (.int .i16 a1_0) ∧ w'.cell? ⟨gb479, 1, none⟩ = some (.int .i16 a1_1) ∧ w'.cell? ⟨gb479, 2, none⟩ = some (.int .i16 a1_2) ∧ w'.cell? ⟨gb479, 3, none⟩ = some (.int .i16 a1_3) ∧ w'.cell? ⟨gb479, 4, none⟩ = some (.int .i16 a1_4) ∧ w'.cell? ⟨gb479, 5, none⟩ = some (.int .i8 a1_5) ∧ w'.cell? ⟨gb480, 0, none⟩ = some (.int .i16 a2_0) ∧ w'.cell? ⟨gb480, 1, none⟩ = some (.int .i16 a2_1) ∧ w'.cell? ⟨gb480, 2, none⟩ = some (.int .i16 a2_2) ∧ w'.cell? ⟨gb480, 3, none⟩ = some (.int .i16 a2_3) ∧ w'.cell? ⟨gb480, 4, none⟩ = some (.int .i16 a2_4) ∧ w'.cell? ⟨gb480, 5, none⟩ = some (.int .i8 a2_5)) (ds := []) #[false, false, false, false, false, false, false, false] (by kernel_rfl) rfl rfl ⟨(blk_cell BK479.out 0).trans rfl, (blk_cell BK479.out 1).trans rfl, (blk_cell BK479.out 2).trans rfl, (blk_cell BK479.out 3).trans rfl, (blk_cell BK479.out 4).trans rfl, (blk_cell BK479.out 5).trans rfl, (blk_cell BK480.out 0).trans rfl, (blk_cell BK480.out 1).trans rfl, (blk_cell BK480.out 2).trans rfl, (blk_cell BK480.out 3).trans rfl, (blk_cell BK480.out 4).trans rfl, (blk_cell BK480.out 5).trans rfl⟩ (fun hHeld => ?_); refine with_tabW spec_MeetingDay.tab1 spec_MeetingDay.bits1 (fun HT_ HW_ => ?_)
    generalize w11.drew = w12 at BK479 BK480 HB hHeld ⊢
    refine pure_ (i := 0) (N := some 13) (v := ?_) (a' := ?_) #[true, false, false, false, false, false, false, false] rfl rfl (any_of HT_.out (by kernel_rfl)) (fun _ _ _ h => h) (Or.inl ⟨by rfl, ?_⟩) ?_ ?_
    rotate_left
    · intro w'
      go_simp
      with_reducible rfl
    rotate_left
    · simp only [Act.put, List.setIfInBounds_toArray, List.set_cons_zero, List.set_cons_succ, i64_w, i32_w]
      rfl
    refine pure_ (i := 4) (N := some 17) (v := ?_) (a' := ?_) #[true, false, false, false, true, false, false, false] rfl rfl (any_of HT_.out (by kernel_rfl)) (fun _ _ _ h => h) (Or.inl ⟨by rfl, ?_⟩) ?_ ?_
    rotate_left
    · intro w'
      go_simp
      with_reducible rfl
    rotate_left
    · simp only [Act.put, List.setIfInBounds_toArray, List.set_cons_zero, List.set_cons_succ, i64_w, i32_w]
      rfl
    refine take_ (i := 1) (N := some 14) (v := ?_) (a' := ?_) #[true, true, false, false, true, false, false, false] rfl rfl (take_ofW HT_.out HW_.out (by kernel_rfl)) (fun _ _ _ h => h) (Or.inl ⟨by rfl, ?_⟩) hHeld ?_ ?_
    rotate_left
    · rintro w' ⟨s0, s1, s2, s3, s4, s5, s6, s7, s8, s9, s10, s11⟩
      go_simp
      with_reducible rfl
    rotate_left
    · simp only [Act.put, List.setIfInBounds_toArray, List.set_cons_zero, List.set_cons_succ, i64_w, i32_w]
      rfl
    refine take_ (i := 2) (N := some 15) (v := ?_) (a' := ?_) #[true, true, true, false, true, false, false, false] rfl rfl (take_ofW HT_.out HW_.out (by kernel_rfl)) (fun _ _ _ h => h) (Or.inl ⟨by rfl, ?_⟩) hHeld ?_ ?_
    rotate_left
    · rintro w' ⟨s0, s1, s2, s3, s4, s5, s6, s7, s8, s9, s10, s11⟩
      go_simp
      with_reducible rfl
    rotate_left
    · simp only [Act.put, List.setIfInBounds_toArray, List.set_cons_zero, List.set_cons_succ, i64_w, i32_w]
      rfl
    refine join_ (σ := Value) 2 #[true, true, true, true, true, true, false, false] (fun s_ => [(16, s_), (18, .bool t484)]) (fun s_ w' => (w'.cell? ⟨gb479, 0, none⟩ = some (.int .i16 a1_0) ∧ w'.cell? ⟨gb479, 1, none⟩ = some (.int .i16 a1_1) ∧ w'.cell? ⟨gb479, 2, none⟩ = some (.int .i16 a1_2) ∧ w'.cell? ⟨gb479, 3, none⟩ = some (.int .i16 a1_3) ∧ w'.cell? ⟨gb479, 4, none⟩ = some (.int .i16 a1_4) ∧ w'.cell? ⟨gb479, 5, none⟩ = some (.int .i8 a1_5) ∧ w'.cell? ⟨gb480, 0, none⟩ = some (.int .i16 a2_0) ∧ w'.cell? ⟨gb480, 1, none⟩ = some (.int .i16 a2_1) ∧ w'.cell? ⟨gb480, 2, none⟩ = some (.int .i16 a2_2) ∧ w'.cell? ⟨gb480, 3, none⟩ = some (.int .i16 a2_3) ∧ w'.cell? ⟨gb480, 4, none⟩ = some (.int .i16 a2_4) ∧ w'.cell? ⟨gb480, 5, none⟩ = some (.int .i8 a2_5)) ∧ (Kd.R k40 40 w' w.heap.size (fun k_ => k_ ≠ gb479 ∧ k_ ≠ gb480) s_ y481) ∧ (w'.heap[gb479]? = some (.cells #[.int .i16 a1_0, .int .i16 a1_1, .int .i16 a1_2, .int .i16 a1_3, .int .i16 a1_4, .int .i8 a1_5] 40 (0, 0))) ∧ (w'.heap[gb480]? = some (.cells #[.int .i16 a2_0, .int .i16 a2_1, .int .i16 a2_2, .int .i16 a2_3, .int .i16 a2_4, .int .i8 a2_5] 40 (0, 0))) ∧ (Below w.heap.size w w')) ?_ ?_
    rotate_left
    · intro hCont
      refine two_ (i := 3) (j := 5) (Ni := some 16) (Nj := some 18) #[true, true, true, true, true, false, false, false] #[true, true, true, false, true, true, false, false] rfl rfl rfl rfl (two_of HT_.out (by kernel_rfl)) (by decide) (by decide) (fun K hK => ?_) (fun K hK => ?_)
      · skip
        refine Kd.R_lit_step k40 _ 40 ?hg (N := 16) ?hd (xs := ([(⟨a1_0, a1_1, a1_2, a1_3, a1_4, a1_5⟩ : S40), (⟨a2_0, a2_1, a2_2, a2_3, a2_4, a2_5⟩ : S40)] : List (S40))) (inner := [.int .i16 a1_0, .int .i16 a1_1, .int .i16 a1_2, .int .i16 a1_3, .int .i16 a1_4, .int .i8 a1_5, .int .i16 a2_0, .int .i16 a2_1, .int .i16 a2_2, .int .i16 a2_3, .int .i16 a2_4, .int .i8 a2_5]) (ok := fun _ => True) (okp := fun _ => True) ?hr ?hp (fun _ hk => hk) trivial (Below.refl _ _) (Nat.le_refl _) (by simp) ?_; (case hd => rfl); (case hg => rfl); (case hr => first | (go_simp; done) | (go_simp; rfl)); (case hp => exact (Reps.c6 (show Kd.M k40 _ _ _ (⟨a1_0, a1_1, a1_2, a1_3, a1_4, a1_5⟩ : S40) [.int .i16 a1_0, .int .i16 a1_1, .int .i16 a1_2, .int .i16 a1_3, .int .i16 a1_4, .int .i8 a1_5] from (k40_mkM _ _ _ (⟨a1_0, a1_1, a1_2, a1_3, a1_4, a1_5⟩ : S40) )) (Reps.c6 (show Kd.M k40 _ _ _ (⟨a2_0, a2_1, a2_2, a2_3, a2_4, a2_5⟩ : S40) [.int .i16 a2_0, .int .i16 a2_1, .int .i16 a2_2, .int .i16 a2_3, .int .i16 a2_4, .int .i8 a2_5] from (k40_mkM _ _ _ (⟨a2_0, a2_1, a2_2, a2_3, a2_4, a2_5⟩ : S40) )) (Reps.none _ _))))
        intro v482 w13 ho14 hb hg_ hnew_
        clear hg_ hnew_
        (first | rw [← Ny481.out] at ho14 | (simp only [Int.reduceToNat] at ho14; rw [← Ny481.out] at ho14))
        have n0_ := Aside0.mk (Kd.R_lower (Kd.R_newB (Kd.R_newB ho14 (g := gb479) (o := .cells #[.int .i16 a1_0, .int .i16 a1_1, .int .i16 a1_2, .int .i16 a1_3, .int .i16 a1_4, .int .i8 a1_5] 40 (0, 0)) (by (with_reducible repeat (first | refine blk_drewN ?_ _ | refine blk_drew ?_ | refine blk_alloc ?_ _)); exact BK479.out)) (g := gb480) (o := .cells #[.int .i16 a2_0, .int .i16 a2_1, .int .i16 a2_2, .int .i16 a2_3, .int .i16 a2_4, .int .i8 a2_5] 40 (0, 0)) (by (with_reducible repeat (first | refine blk_drewN ?_ _ | refine blk_drew ?_ | refine blk_alloc ?_ _)); exact BK480.out)) (below_size (by repeat (first | (with_reducible first | exact HB.out | apply below_alloc | apply pw_below_drewN | apply below_drew1 | refine below_set ?_ GE479.out | refine below_set ?_ GE480.out) | exact HB.out))))
        have n1_ := Aside0.mk (blk_below (g := gb479) (o := .cells #[.int .i16 a1_0, .int .i16 a1_1, .int .i16 a1_2, .int .i16 a1_3, .int .i16 a1_4, .int .i8 a1_5] 40 (0, 0)) (by (with_reducible repeat (first | refine blk_drewN ?_ _ | refine blk_drew ?_ | refine blk_alloc ?_ _)); exact BK479.out) hb)
        have n2_ := Aside0.mk (blk_below (g := gb480) (o := .cells #[.int .i16 a2_0, .int .i16 a2_1, .int .i16 a2_2, .int .i16 a2_3, .int .i16 a2_4, .int .i8 a2_5] 40 (0, 0)) (by (with_reducible repeat (first | refine blk_drewN ?_ _ | refine blk_drew ?_ | refine blk_alloc ?_ _)); exact BK480.out) hb)
        have n3_ := Aside0.mk (below_step (by repeat (first | (with_reducible first | exact HB.out | apply below_alloc | apply pw_below_drewN | apply below_drew1 | refine below_set ?_ GE479.out | refine below_set ?_ GE480.out) | exact HB.out)) hb)
        clear BK479
        clear BK480
        clear HB
        have HO483 := n0_
        have BK479 := n1_
        have BK480 := n2_
        have HB := n3_
        clear n0_ n1_ n2_ n3_
        clear hb ho14
        refine hK.out _ _ ⟨(blk_cell BK479.out 0).trans rfl, (blk_cell BK479.out 1).trans rfl, (blk_cell BK479.out 2).trans rfl, (blk_cell BK479.out 3).trans rfl, (blk_cell BK479.out 4).trans rfl, (blk_cell BK479.out 5).trans rfl, (blk_cell BK480.out 0).trans rfl, (blk_cell BK480.out 1).trans rfl, (blk_cell BK480.out 2).trans rfl, (blk_cell BK480.out 3).trans rfl, (blk_cell BK480.out 4).trans rfl, (blk_cell BK480.out 5).trans rfl⟩ (fun hHeld => ?_)
        clear hK K
        refine norm_ (a' := ?_) ?_ ?_
        rotate_left
        · show Act.put _ (some 16) _ = _
          simp only [Act.put, List.setIfInBounds_toArray, List.set_cons_zero, List.set_cons_succ, i64_w, i32_w]
          rfl
        refine one_ (i := 5) (N := some 18) #[true, true, true, true, true, true, false, false] rfl rfl (one_of HT_.out (by kernel_rfl)) (by decide) (fun K hK => ?_)
        refine goes_ Try.func57 (by kernel_rfl) rfl #[.int .i64 a3] (by rfl) rfl rfl (by (try simp only [List.map_toArray, List.map_cons, List.map_nil]); first | done | rfl | (simp only [List.length_drop, List.length_take]; rfl)) ?_
        with_reducible refine (spec_l05Day.calls a3 t484 _ A5.out).mono ?_
        rintro e w' ⟨rfl, ⟨nd, rfl⟩⟩
        refine ⟨_, rfl, ?_⟩
        refine hK.out _ _ ⟨(blk_cell BK479.out 0).trans rfl, (blk_cell BK479.out 1).trans rfl, (blk_cell BK479.out 2).trans rfl, (blk_cell BK479.out 3).trans rfl, (blk_cell BK479.out 4).trans rfl, (blk_cell BK479.out 5).trans rfl, (blk_cell BK480.out 0).trans rfl, (blk_cell BK480.out 1).trans rfl, (blk_cell BK480.out 2).trans rfl, (blk_cell BK480.out 3).trans rfl, (blk_cell BK480.out 4).trans rfl, (blk_cell BK480.out 5).trans rfl⟩ (fun hHeld => ?_)
        clear hK K
        refine norm_ (a' := ?_) ?_ ?_
        rotate_left
        · show Act.put _ (some 18) _ = _
          simp only [Act.put, List.setIfInBounds_toArray, List.set_cons_zero, List.set_cons_succ, i64_w, i32_w]
          rfl
        exact norm_ (by simp only [putAll, Act.put, List.setIfInBounds_toArray, List.set_cons_zero, List.set_cons_succ]) (hCont (v482) _ ⟨hHeld, (by (with_reducible repeat (first | apply Kd.R_alloc | apply Kd.R_drewN | apply Kd.R_drew)); exact Kd.R_mono HO483.out (fun _ hk => ⟨hk.1.2, hk.2⟩)), (by (with_reducible repeat (first | refine blk_drewN ?_ _ | refine blk_drew ?_ | refine blk_alloc ?_ _)); exact BK479.out), (by (with_reducible repeat (first | refine blk_drewN ?_ _ | refine blk_drew ?_ | refine blk_alloc ?_ _)); exact BK480.out), (by repeat (first | (with_reducible first | exact HB.out | apply below_alloc | apply pw_below_drewN | apply below_drew1 | refine below_set ?_ GE479.out | refine below_set ?_ GE480.out) | exact HB.out))⟩)
      · skip
        refine goes_ Try.func57 (by kernel_rfl) rfl #[.int .i64 a3] (by rfl) rfl rfl (by (try simp only [List.map_toArray, List.map_cons, List.map_nil]); first | done | rfl | (simp only [List.length_drop, List.length_take]; rfl)) ?_
        with_reducible refine (spec_l05Day.calls a3 t484 _ A5.out).mono ?_
        rintro e w' ⟨rfl, ⟨nd, rfl⟩⟩
        refine ⟨_, rfl, ?_⟩
        refine hK.out _ _ ⟨(blk_cell BK479.out 0).trans rfl, (blk_cell BK479.out 1).trans rfl, (blk_cell BK479.out 2).trans rfl, (blk_cell BK479.out 3).trans rfl, (blk_cell BK479.out 4).trans rfl, (blk_cell BK479.out 5).trans rfl, (blk_cell BK480.out 0).trans rfl, (blk_cell BK480.out 1).trans rfl, (blk_cell BK480.out 2).trans rfl, (blk_cell BK480.out 3).trans rfl, (blk_cell BK480.out 4).trans rfl, (blk_cell BK480.out 5).trans rfl⟩ (fun hHeld => ?_)
        clear hK K
        refine norm_ (a' := ?_) ?_ ?_
        rotate_left
        · show Act.put _ (some 18) _ = _
          simp only [Act.put, List.setIfInBounds_toArray, List.set_cons_zero, List.set_cons_succ, i64_w, i32_w]
          rfl
        refine one_ (i := 3) (N := some 16) #[true, true, true, true, true, true, false, false] rfl rfl (one_of HT_.out (by kernel_rfl)) (by decide) (fun K hK => ?_)
        refine Kd.R_lit_step k40 _ 40 ?hg (N := 16) ?hd (xs := ([(⟨a1_0, a1_1, a1_2, a1_3, a1_4, a1_5⟩ : S40), (⟨a2_0, a2_1, a2_2, a2_3, a2_4, a2_5⟩ : S40)] : List (S40))) (inner := [.int .i16 a1_0, .int .i16 a1_1, .int .i16 a1_2, .int .i16 a1_3, .int .i16 a1_4, .int .i8 a1_5, .int .i16 a2_0, .int .i16 a2_1, .int .i16 a2_2, .int .i16 a2_3, .int .i16 a2_4, .int .i8 a2_5]) (ok := fun _ => True) (okp := fun _ => True) ?hr ?hp (fun _ hk => hk) trivial (Below.refl _ _) (Nat.le_refl _) (by simp) ?_; (case hd => rfl); (case hg => rfl); (case hr => first | (go_simp; done) | (go_simp; rfl)); (case hp => exact (Reps.c6 (show Kd.M k40 _ _ _ (⟨a1_0, a1_1, a1_2, a1_3, a1_4, a1_5⟩ : S40) [.int .i16 a1_0, .int .i16 a1_1, .int .i16 a1_2, .int .i16 a1_3, .int .i16 a1_4, .int .i8 a1_5] from (k40_mkM _ _ _ (⟨a1_0, a1_1, a1_2, a1_3, a1_4, a1_5⟩ : S40) )) (Reps.c6 (show Kd.M k40 _ _ _ (⟨a2_0, a2_1, a2_2, a2_3, a2_4, a2_5⟩ : S40) [.int .i16 a2_0, .int .i16 a2_1, .int .i16 a2_2, .int .i16 a2_3, .int .i16 a2_4, .int .i8 a2_5] from (k40_mkM _ _ _ (⟨a2_0, a2_1, a2_2, a2_3, a2_4, a2_5⟩ : S40) )) (Reps.none _ _))))
        intro v482 w13 ho14 hb hg_ hnew_
        clear hg_ hnew_
        (first | rw [← Ny481.out] at ho14 | (simp only [Int.reduceToNat] at ho14; rw [← Ny481.out] at ho14))
        have n0_ := Aside0.mk (Kd.R_lower (Kd.R_newB (Kd.R_newB ho14 (g := gb479) (o := .cells #[.int .i16 a1_0, .int .i16 a1_1, .int .i16 a1_2, .int .i16 a1_3, .int .i16 a1_4, .int .i8 a1_5] 40 (0, 0)) (by (with_reducible repeat (first | refine blk_drewN ?_ _ | refine blk_drew ?_ | refine blk_alloc ?_ _)); exact BK479.out)) (g := gb480) (o := .cells #[.int .i16 a2_0, .int .i16 a2_1, .int .i16 a2_2, .int .i16 a2_3, .int .i16 a2_4, .int .i8 a2_5] 40 (0, 0)) (by (with_reducible repeat (first | refine blk_drewN ?_ _ | refine blk_drew ?_ | refine blk_alloc ?_ _)); exact BK480.out)) (below_size (by repeat (first | (with_reducible first | exact HB.out | apply below_alloc | apply pw_below_drewN | apply below_drew1 | refine below_set ?_ GE479.out | refine below_set ?_ GE480.out) | exact HB.out))))
        have n1_ := Aside0.mk (blk_below (g := gb479) (o := .cells #[.int .i16 a1_0, .int .i16 a1_1, .int .i16 a1_2, .int .i16 a1_3, .int .i16 a1_4, .int .i8 a1_5] 40 (0, 0)) (by (with_reducible repeat (first | refine blk_drewN ?_ _ | refine blk_drew ?_ | refine blk_alloc ?_ _)); exact BK479.out) hb)
        have n2_ := Aside0.mk (blk_below (g := gb480) (o := .cells #[.int .i16 a2_0, .int .i16 a2_1, .int .i16 a2_2, .int .i16 a2_3, .int .i16 a2_4, .int .i8 a2_5] 40 (0, 0)) (by (with_reducible repeat (first | refine blk_drewN ?_ _ | refine blk_drew ?_ | refine blk_alloc ?_ _)); exact BK480.out) hb)
        have n3_ := Aside0.mk (below_step (by repeat (first | (with_reducible first | exact HB.out | apply below_alloc | apply pw_below_drewN | apply below_drew1 | refine below_set ?_ GE479.out | refine below_set ?_ GE480.out) | exact HB.out)) hb)
        clear BK479
        clear BK480
        clear HB
        have HO483 := n0_
        have BK479 := n1_
        have BK480 := n2_
        have HB := n3_
        clear n0_ n1_ n2_ n3_
        clear hb ho14
        refine hK.out _ _ ⟨(blk_cell BK479.out 0).trans rfl, (blk_cell BK479.out 1).trans rfl, (blk_cell BK479.out 2).trans rfl, (blk_cell BK479.out 3).trans rfl, (blk_cell BK479.out 4).trans rfl, (blk_cell BK479.out 5).trans rfl, (blk_cell BK480.out 0).trans rfl, (blk_cell BK480.out 1).trans rfl, (blk_cell BK480.out 2).trans rfl, (blk_cell BK480.out 3).trans rfl, (blk_cell BK480.out 4).trans rfl, (blk_cell BK480.out 5).trans rfl⟩ (fun hHeld => ?_)
        clear hK K
        refine norm_ (a' := ?_) ?_ ?_
        rotate_left
        · show Act.put _ (some 16) _ = _
          simp only [Act.put, List.setIfInBounds_toArray, List.set_cons_zero, List.set_cons_succ, i64_w, i32_w]
          rfl
        exact norm_ (by simp only [putAll, Act.put, List.setIfInBounds_toArray, List.set_cons_zero, List.set_cons_succ]) (hCont (v482) _ ⟨hHeld, (by (with_reducible repeat (first | apply Kd.R_alloc | apply Kd.R_drewN | apply Kd.R_drew)); exact Kd.R_mono HO483.out (fun _ hk => ⟨hk.1.2, hk.2⟩)), (by (with_reducible repeat (first | refine blk_drewN ?_ _ | refine blk_drew ?_ | refine blk_alloc ?_ _)); exact BK479.out), (by (with_reducible repeat (first | refine blk_drewN ?_ _ | refine blk_drew ?_ | refine blk_alloc ?_ _)); exact BK480.out), (by repeat (first | (with_reducible first | exact HB.out | apply below_alloc | apply pw_below_drewN | apply below_drew1 | refine below_set ?_ GE479.out | refine below_set ?_ GE480.out) | exact HB.out))⟩)
    rintro v482 w15 ⟨hS_, h0_, h1_, h2_, h3_⟩
    have n0_ : Aside0 (Kd.R k40 40 w15 w.heap.size (fun k_ => k_ ≠ gb479 ∧ k_ ≠ gb480) v482 y481) := ⟨h0_⟩
    have n1_ : Aside0 (w15.heap[gb479]? = some (.cells #[.int .i16 a1_0, .int .i16 a1_1, .int .i16 a1_2, .int .i16 a1_3, .int .i16 a1_4, .int .i8 a1_5] 40 (0, 0))) := ⟨h1_⟩
    have n2_ : Aside0 (w15.heap[gb480]? = some (.cells #[.int .i16 a2_0, .int .i16 a2_1, .int .i16 a2_2, .int .i16 a2_3, .int .i16 a2_4, .int .i8 a2_5] 40 (0, 0))) := ⟨h2_⟩
    have n3_ : Aside0 (Below w.heap.size w w15) := ⟨h3_⟩
    clear BK479
    clear BK480
    clear HB
    clear h0_ h1_ h2_ h3_
    have HO483 := n0_
    have BK479 := n1_
    have BK480 := n2_
    have HB := n3_
    clear n0_ n1_ n2_ n3_
    have hHeld : w15.cell? ⟨gb479, 0, none⟩ = some (.int .i16 a1_0) ∧ w15.cell? ⟨gb479, 1, none⟩ = some (.int .i16 a1_1) ∧ w15.cell? ⟨gb479, 2, none⟩ = some (.int .i16 a1_2) ∧ w15.cell? ⟨gb479, 3, none⟩ = some (.int .i16 a1_3) ∧ w15.cell? ⟨gb479, 4, none⟩ = some (.int .i16 a1_4) ∧ w15.cell? ⟨gb479, 5, none⟩ = some (.int .i8 a1_5) ∧ w15.cell? ⟨gb480, 0, none⟩ = some (.int .i16 a2_0) ∧ w15.cell? ⟨gb480, 1, none⟩ = some (.int .i16 a2_1) ∧ w15.cell? ⟨gb480, 2, none⟩ = some (.int .i16 a2_2) ∧ w15.cell? ⟨gb480, 3, none⟩ = some (.int .i16 a2_3) ∧ w15.cell? ⟨gb480, 4, none⟩ = some (.int .i16 a2_4) ∧ w15.cell? ⟨gb480, 5, none⟩ = some (.int .i8 a2_5) := hS_
    obtain ⟨Ao16, co16, eo16⟩ := Kd.R_slice HO483.out
    (first | subst eo16 | (injection eo16 with f1_ f2_ f3_; have f4_ := f1_.symm; have f5_ := f3_.symm; clear f1_ f2_ f3_; subst f4_; subst f5_))
    refine norm_ (a' := ?_) ?_ ?_
    rotate_left
    · simp only [putAll, Act.put, List.setIfInBounds_toArray, List.set_cons_zero, List.set_cons_succ]
      rfl
    refine one_ (i := 6) (N := some 19) #[true, true, true, true, true, true, true, false] rfl rfl (one_of HT_.out (by kernel_rfl)) (by decide) (fun K hK => ?_)
    refine goes_ Try.func56 (by kernel_rfl) rfl #[.int .i64 a0, .slice Ao16 y481.length co16, .bool t484] (by rfl) rfl rfl (by (try simp only [List.map_toArray, List.map_cons, List.map_nil]); first | done | rfl | (simp only [List.length_drop, List.length_take]; rfl)) ?_
    with_reducible refine (spec_l05Asked.calls k a0 _ _ y481 t484 t485 _ ?side1 ?side2 A6.out).mono ?_
    (case side1 => repeat (first | exact (Kd.R_reads' HO483.out).2.2 | (with_reducible refine Kd.C_alloc ?_ _) | (with_reducible refine Kd.C_drewN ?_ _) | (with_reducible refine Kd.C_drew ?_)))
    (case side2 => exact (Kd.R_reads' HO483.out).2.1)
    rintro e w17 ⟨rfl, hb⟩
    refine ⟨_, rfl, ?_⟩
    have n0_ := Aside0.mk (Kd.R_below (by (with_reducible repeat (first | apply Kd.R_alloc | apply Kd.R_drewN | apply Kd.R_drew)); exact HO483.out) hb)
    have n1_ := Aside0.mk (blk_below (g := gb479) (o := .cells #[.int .i16 a1_0, .int .i16 a1_1, .int .i16 a1_2, .int .i16 a1_3, .int .i16 a1_4, .int .i8 a1_5] 40 (0, 0)) (by (with_reducible repeat (first | refine blk_drewN ?_ _ | refine blk_drew ?_ | refine blk_alloc ?_ _)); exact BK479.out) hb)
    have n2_ := Aside0.mk (blk_below (g := gb480) (o := .cells #[.int .i16 a2_0, .int .i16 a2_1, .int .i16 a2_2, .int .i16 a2_3, .int .i16 a2_4, .int .i8 a2_5] 40 (0, 0)) (by (with_reducible repeat (first | refine blk_drewN ?_ _ | refine blk_drew ?_ | refine blk_alloc ?_ _)); exact BK480.out) hb)
    have n3_ := Aside0.mk (below_step (by repeat (first | (with_reducible first | exact HB.out | apply below_alloc | apply pw_below_drewN | apply below_drew1 | refine below_set ?_ GE479.out | refine below_set ?_ GE480.out) | exact HB.out)) hb)
    clear HO483
    clear BK479
    clear BK480
    clear HB
    have HO483 := n0_
    have BK479 := n1_
    have BK480 := n2_
    have HB := n3_
    clear n0_ n1_ n2_ n3_
    (try clear hb)
    (try clear hb2)
    (try clear hk)
    (try clear hi)
    refine hK.out _ _ ⟨(blk_cell BK479.out 0).trans rfl, (blk_cell BK479.out 1).trans rfl, (blk_cell BK479.out 2).trans rfl, (blk_cell BK479.out 3).trans rfl, (blk_cell BK479.out 4).trans rfl, (blk_cell BK479.out 5).trans rfl, (blk_cell BK480.out 0).trans rfl, (blk_cell BK480.out 1).trans rfl, (blk_cell BK480.out 2).trans rfl, (blk_cell BK480.out 3).trans rfl, (blk_cell BK480.out 4).trans rfl, (blk_cell BK480.out 5).trans rfl⟩ (fun hHeld => ?_)
    clear hK K
    refine norm_ (a' := ?_) ?_ ?_
    rotate_left
    · show Act.put _ (some 19) _ = _
      simp only [Act.put, List.setIfInBounds_toArray, List.set_cons_zero, List.set_cons_succ, i64_w, i32_w]
      rfl
    refine pure_ (i := 7) (N := some 10) (v := ?_) (a' := ?_) #[true, true, true, true, true, true, true, true] rfl rfl (any_of HT_.out (by kernel_rfl)) (fun _ _ _ h => h) (Or.inl ⟨by rfl, ?_⟩) ?_ ?_
    rotate_left
    · intro w'
      go_simp
      with_reducible rfl
    rotate_left
    · simp only [Act.put, List.setIfInBounds_toArray, List.set_cons_zero, List.set_cons_succ, i64_w, i32_w]
      rfl
    refine done_ (done_of HT_.out (by kernel_rfl)) ?_
    have hnb18 := NB479_480.out
    have hnc18 := NB480_479.out
    have hcz19_0 : w17.cell? ⟨gb479, 0, none⟩ = some (.int .i16 a1_0) := (blk_cell BK479.out 0).trans rfl
    have hcz19_1 : w17.cell? ⟨gb479, 1, none⟩ = some (.int .i16 a1_1) := (blk_cell BK479.out 1).trans rfl
    have hcz19_2 : w17.cell? ⟨gb479, 2, none⟩ = some (.int .i16 a1_2) := (blk_cell BK479.out 2).trans rfl
    have hcz19_3 : w17.cell? ⟨gb479, 3, none⟩ = some (.int .i16 a1_3) := (blk_cell BK479.out 3).trans rfl
    have hcz19_4 : w17.cell? ⟨gb479, 4, none⟩ = some (.int .i16 a1_4) := (blk_cell BK479.out 4).trans rfl
    have hcz19_5 : w17.cell? ⟨gb479, 5, none⟩ = some (.int .i8 a1_5) := (blk_cell BK479.out 5).trans rfl
    have hfz19_0 := blk_frozen BK479.out 0
    have hfz19_1 := blk_frozen BK479.out 1
    have hfz19_2 := blk_frozen BK479.out 2
    have hfz19_3 := blk_frozen BK479.out 3
    have hfz19_4 := blk_frozen BK479.out 4
    have hfz19_5 := blk_frozen BK479.out 5
    have hcz20_0 : w17.cell? ⟨gb480, 0, none⟩ = some (.int .i16 a2_0) := (blk_cell BK480.out 0).trans rfl
    have hcz20_1 : w17.cell? ⟨gb480, 1, none⟩ = some (.int .i16 a2_1) := (blk_cell BK480.out 1).trans rfl
    have hcz20_2 : w17.cell? ⟨gb480, 2, none⟩ = some (.int .i16 a2_2) := (blk_cell BK480.out 2).trans rfl
    have hcz20_3 : w17.cell? ⟨gb480, 3, none⟩ = some (.int .i16 a2_3) := (blk_cell BK480.out 3).trans rfl
    have hcz20_4 : w17.cell? ⟨gb480, 4, none⟩ = some (.int .i16 a2_4) := (blk_cell BK480.out 4).trans rfl
    have hcz20_5 : w17.cell? ⟨gb480, 5, none⟩ = some (.int .i8 a2_5) := (blk_cell BK480.out 5).trans rfl
    have hfz20_0 := blk_frozen BK480.out 0
    have hfz20_1 := blk_frozen BK480.out 1
    have hfz20_2 := blk_frozen BK480.out 2
    have hfz20_3 := blk_frozen BK480.out 3
    have hfz20_4 := blk_frozen BK480.out 4
    have hfz20_5 := blk_frozen BK480.out 5
    try go_wp2_with (first | ((with_reducible refine gate_callee (f := 73) rfl ?_); refine goesL_ (some 30) rfl rfl Try.func73 (by kernel_rfl) rfl #[.int .i64 (wrap64 (a1_0)), .int .i64 (wrap64 (a2_0))] rfl (by (try simp only [List.map_toArray, List.map_cons, List.map_nil]); first | done | rfl | (simp only [List.length_drop, List.length_take]; rfl)) ?_; (with_reducible refine (spec_l00Max.calls (wrap64 (a1_0)) (wrap64 (a2_0)) t486 _ A8.out).mono ?_); rintro e w' ⟨rfl, ⟨nd, rfl⟩⟩; refine ⟨_, rfl, ?_⟩) | ((with_reducible refine gate_callee (f := 73) rfl ?_); refine goesL_ (some 31) rfl rfl Try.func73 (by kernel_rfl) rfl #[.int .i64 a3, .int .i64 t486] rfl (by (try simp only [List.map_toArray, List.map_cons, List.map_nil]); first | done | rfl | (simp only [List.length_drop, List.length_take]; rfl)) ?_; (with_reducible refine (spec_l00Max.calls a3 t486 t487 _ A9.out).mono ?_); rintro e w' ⟨rfl, ⟨nd, rfl⟩⟩; refine ⟨_, rfl, ?_⟩))
    go_loopg [12] k (fun kq v12 w' => ∃ (x12_1 : Int), v12 = .int .i64 x12_1 ∧ Aside0 (spec_MeetingDay.l0 kq t487 x12_1 a1_0 a1_1 a1_2 a1_3 a1_4 a1_5 a2_0 a2_1 a2_2 a2_3 a2_4 a2_5 = some (r1, r2)) ∧ Aside0 (kq ≤ k) ∧ Aside0 (w'.heap[gb479]? = some (.cells #[.int .i16 a1_0, .int .i16 a1_1, .int .i16 a1_2, .int .i16 a1_3, .int .i16 a1_4, .int .i8 a1_5] 40 (0, 0))) ∧ Aside0 (w'.heap[gb480]? = some (.cells #[.int .i16 a2_0, .int .i16 a2_1, .int .i16 a2_2, .int .i16 a2_3, .int .i16 a2_4, .int .i8 a2_5] 40 (0, 0))) ∧ Aside0 (Below w.heap.size w w'))
    case atStart => exact ⟨(0), (by first | rfl | (simp; done) | (simp [*]; done)), H', ⟨Nat.le_refl _⟩, ⟨by (with_reducible repeat (first | refine blk_drewN ?_ _ | refine blk_drew ?_ | refine blk_alloc ?_ _)); exact BK479.out⟩, ⟨by (with_reducible repeat (first | refine blk_drewN ?_ _ | refine blk_drew ?_ | refine blk_alloc ?_ _)); exact BK480.out⟩, ⟨by repeat (first | (with_reducible first | exact HB.out | apply below_alloc | apply pw_below_drewN | apply below_drew1 | refine below_set ?_ GE479.out | refine below_set ?_ GE480.out) | exact HB.out)⟩⟩
    case round =>
      clear H'
      try clear c1
      try clear p2
      try clear c4
      try clear c5
      try clear c6
      try clear p6
      try clear c7
      try clear c7b0
      try clear c7b1
      try clear c18
      try clear hcz19_0
      try clear hcz19_1
      try clear hcz19_2
      try clear hcz19_3
      try clear hcz19_4
      try clear hcz19_5
      try clear hcz20_0
      try clear hcz20_1
      try clear hcz20_2
      try clear hcz20_3
      try clear hcz20_4
      try clear hcz20_5
      try clear hfz19_0
      try clear hfz19_1
      try clear hfz19_2
      try clear hfz19_3
      try clear hfz19_4
      try clear hfz19_5
      try clear hfz20_0
      try clear hfz20_1
      try clear hfz20_2
      try clear hfz20_3
      try clear hfz20_4
      try clear hfz20_5
      obtain ⟨x12_1, rfl, HA, HK1, BK479, BK480, HB⟩ := hrel
      cases gk with
      | zero => exact absurd HA.out (by simp [spec_MeetingDay.l0])
      | succ k1 =>
        have H := HA.out
        clear HA
        simp only [spec_MeetingDay.l0] at H
        by_cases c21 : x12_1 < (wrap64 ((wrap64 (a1_1)) * (wrap64 (a2_1))))
        · rw [if_pos c21] at H
          have c21b0 : decide (x12_1 < (wrap64 ((wrap64 (a1_1)) * (wrap64 (a2_1))))) = true := decide_eq_true c21
          clear c21
          replace H := Option.bind_eq_some_iff.mp H
          obtain ⟨t488, A220, H⟩ := H
          replace H : (if t488 = true then ((spec_l05On.f a2_0 a2_1 a2_2 a2_3 a2_4 a2_5 (wrap64 (t487 + x12_1))).bind fun t489 => (if t489 = true then (some (wrap64 (t487 + x12_1), 0)) else (spec_MeetingDay.l0 k1 t487 (wrap64 (x12_1 + 1)) a1_0 a1_1 a1_2 a1_3 a1_4 a1_5 a2_0 a2_1 a2_2 a2_3 a2_4 a2_5))) else (spec_MeetingDay.l0 k1 t487 (wrap64 (x12_1 + 1)) a1_0 a1_1 a1_2 a1_3 a1_4 a1_5 a2_0 a2_1 a2_2 a2_3 a2_4 a2_5)) = some (r1, r2) := H
          have A22 := Aside0.mk A220
          clear A220
          by_cases c23 : t488 = true
          · subst c23
            have H1 : ((spec_l05On.f a2_0 a2_1 a2_2 a2_3 a2_4 a2_5 (wrap64 (t487 + x12_1))).bind fun t489 => (if t489 = true then (some (wrap64 (t487 + x12_1), 0)) else (spec_MeetingDay.l0 k1 t487 (wrap64 (x12_1 + 1)) a1_0 a1_1 a1_2 a1_3 a1_4 a1_5 a2_0 a2_1 a2_2 a2_3 a2_4 a2_5))) = some (r1, r2) := by rw [if_pos rfl] at H; exact H
            clear H
            have H := H1
            clear H1
            replace H := Option.bind_eq_some_iff.mp H
            obtain ⟨t489, A240, H⟩ := H
            replace H : (if t489 = true then (some (wrap64 (t487 + x12_1), 0)) else (spec_MeetingDay.l0 k1 t487 (wrap64 (x12_1 + 1)) a1_0 a1_1 a1_2 a1_3 a1_4 a1_5 a2_0 a2_1 a2_2 a2_3 a2_4 a2_5)) = some (r1, r2) := H
            have A24 := Aside0.mk A240
            clear A240
            by_cases c25 : t489 = true
            · subst c25
              have H1 : (some (wrap64 (t487 + x12_1), 0)) = some (r1, r2) := by rw [if_pos rfl] at H; exact H
              clear H
              have H := H1
              clear H1
              simp only [Option.some.injEq, Prod.mk.injEq] at H
              obtain ⟨rfl, rfl⟩ := H
              have hnb26 := NB479_480.out
              have hnc26 := NB480_479.out
              have hcz27_0 : wr.cell? ⟨gb479, 0, none⟩ = some (.int .i16 a1_0) := (blk_cell BK479.out 0).trans rfl
              have hcz27_1 : wr.cell? ⟨gb479, 1, none⟩ = some (.int .i16 a1_1) := (blk_cell BK479.out 1).trans rfl
              have hcz27_2 : wr.cell? ⟨gb479, 2, none⟩ = some (.int .i16 a1_2) := (blk_cell BK479.out 2).trans rfl
              have hcz27_3 : wr.cell? ⟨gb479, 3, none⟩ = some (.int .i16 a1_3) := (blk_cell BK479.out 3).trans rfl
              have hcz27_4 : wr.cell? ⟨gb479, 4, none⟩ = some (.int .i16 a1_4) := (blk_cell BK479.out 4).trans rfl
              have hcz27_5 : wr.cell? ⟨gb479, 5, none⟩ = some (.int .i8 a1_5) := (blk_cell BK479.out 5).trans rfl
              have hfz27_0 := blk_frozen BK479.out 0
              have hfz27_1 := blk_frozen BK479.out 1
              have hfz27_2 := blk_frozen BK479.out 2
              have hfz27_3 := blk_frozen BK479.out 3
              have hfz27_4 := blk_frozen BK479.out 4
              have hfz27_5 := blk_frozen BK479.out 5
              have hcz28_0 : wr.cell? ⟨gb480, 0, none⟩ = some (.int .i16 a2_0) := (blk_cell BK480.out 0).trans rfl
              have hcz28_1 : wr.cell? ⟨gb480, 1, none⟩ = some (.int .i16 a2_1) := (blk_cell BK480.out 1).trans rfl
              have hcz28_2 : wr.cell? ⟨gb480, 2, none⟩ = some (.int .i16 a2_2) := (blk_cell BK480.out 2).trans rfl
              have hcz28_3 : wr.cell? ⟨gb480, 3, none⟩ = some (.int .i16 a2_3) := (blk_cell BK480.out 3).trans rfl
              have hcz28_4 : wr.cell? ⟨gb480, 4, none⟩ = some (.int .i16 a2_4) := (blk_cell BK480.out 4).trans rfl
              have hcz28_5 : wr.cell? ⟨gb480, 5, none⟩ = some (.int .i8 a2_5) := (blk_cell BK480.out 5).trans rfl
              have hfz28_0 := blk_frozen BK480.out 0
              have hfz28_1 := blk_frozen BK480.out 1
              have hfz28_2 := blk_frozen BK480.out 2
              have hfz28_3 := blk_frozen BK480.out 3
              have hfz28_4 := blk_frozen BK480.out 4
              have hfz28_5 := blk_frozen BK480.out 5
              go_wp2_with (first | ((with_reducible refine gate_callee (f := 58) rfl ?_); refine goesL_ (some 47) rfl rfl Try.func58 (by kernel_rfl) rfl #[.agg #[.int .i16 a1_0, .int .i16 a1_1, .int .i16 a1_2, .int .i16 a1_3, .int .i16 a1_4, .int .i8 a1_5], .int .i64 (wrap64 (t487 + x12_1))] rfl (by (try simp only [List.map_toArray, List.map_cons, List.map_nil]); first | done | rfl | (simp only [List.length_drop, List.length_take]; rfl)) ?_; (with_reducible refine (spec_l05On.calls a1_0 a1_1 a1_2 a1_3 a1_4 a1_5 (wrap64 (t487 + x12_1)) true _ A22.out).mono ?_); rintro e w29 ⟨rfl, hb⟩; refine ⟨_, rfl, ?_⟩; have n0_ := Aside0.mk (blk_below (g := gb479) (o := .cells #[.int .i16 a1_0, .int .i16 a1_1, .int .i16 a1_2, .int .i16 a1_3, .int .i16 a1_4, .int .i8 a1_5] 40 (0, 0)) (by (with_reducible repeat (first | refine blk_drewN ?_ _ | refine blk_drew ?_ | refine blk_alloc ?_ _)); exact BK479.out) hb); have n1_ := Aside0.mk (blk_below (g := gb480) (o := .cells #[.int .i16 a2_0, .int .i16 a2_1, .int .i16 a2_2, .int .i16 a2_3, .int .i16 a2_4, .int .i8 a2_5] 40 (0, 0)) (by (with_reducible repeat (first | refine blk_drewN ?_ _ | refine blk_drew ?_ | refine blk_alloc ?_ _)); exact BK480.out) hb); have n2_ := Aside0.mk (below_step (by repeat (first | (with_reducible first | exact HB.out | apply below_alloc | apply pw_below_drewN | apply below_drew1 | refine below_set ?_ GE479.out | refine below_set ?_ GE480.out) | exact HB.out)) hb); clear BK479; clear BK480; clear HB; have BK479 := n0_; have BK480 := n1_; have HB := n2_; clear n0_ n1_ n2_; (try clear hb); (try clear hb2); (try clear hk); (try clear hi); have hcz30_0 : w29.cell? ⟨gb480, 0, none⟩ = some (.int .i16 a2_0) := (blk_cell BK480.out 0).trans rfl; have hcz30_1 : w29.cell? ⟨gb480, 1, none⟩ = some (.int .i16 a2_1) := (blk_cell BK480.out 1).trans rfl; have hcz30_2 : w29.cell? ⟨gb480, 2, none⟩ = some (.int .i16 a2_2) := (blk_cell BK480.out 2).trans rfl; have hcz30_3 : w29.cell? ⟨gb480, 3, none⟩ = some (.int .i16 a2_3) := (blk_cell BK480.out 3).trans rfl; have hcz30_4 : w29.cell? ⟨gb480, 4, none⟩ = some (.int .i16 a2_4) := (blk_cell BK480.out 4).trans rfl; have hcz30_5 : w29.cell? ⟨gb480, 5, none⟩ = some (.int .i8 a2_5) := (blk_cell BK480.out 5).trans rfl; have hfz30_0 := blk_frozen BK480.out 0; have hfz30_1 := blk_frozen BK480.out 1; have hfz30_2 := blk_frozen BK480.out 2; have hfz30_3 := blk_frozen BK480.out 3; have hfz30_4 := blk_frozen BK480.out 4; have hfz30_5 := blk_frozen BK480.out 5) | (go_at_call 58; (with_reducible refine (spec_l05On.calls a2_0 a2_1 a2_2 a2_3 a2_4 a2_5 (wrap64 (t487 + x12_1)) true _ A24.out).mono ?_); rintro e w31 ⟨rfl, hb⟩; have n0_ := Aside0.mk (blk_below (g := gb479) (o := .cells #[.int .i16 a1_0, .int .i16 a1_1, .int .i16 a1_2, .int .i16 a1_3, .int .i16 a1_4, .int .i8 a1_5] 40 (0, 0)) (by (with_reducible repeat (first | refine blk_drewN ?_ _ | refine blk_drew ?_ | refine blk_alloc ?_ _)); exact BK479.out) hb); have n1_ := Aside0.mk (blk_below (g := gb480) (o := .cells #[.int .i16 a2_0, .int .i16 a2_1, .int .i16 a2_2, .int .i16 a2_3, .int .i16 a2_4, .int .i8 a2_5] 40 (0, 0)) (by (with_reducible repeat (first | refine blk_drewN ?_ _ | refine blk_drew ?_ | refine blk_alloc ?_ _)); exact BK480.out) hb); have n2_ := Aside0.mk (below_step (by repeat (first | (with_reducible first | exact HB.out | apply below_alloc | apply pw_below_drewN | apply below_drew1 | refine below_set ?_ GE479.out | refine below_set ?_ GE480.out) | exact HB.out)) hb); clear BK479; clear BK480; clear HB; have BK479 := n0_; have BK480 := n1_; have HB := n2_; clear n0_ n1_ n2_; (try clear hb); (try clear hb2); (try clear hk); (try clear hi)))
              go_ret2
              exact ⟨by first | rfl | (simp [errW_none, errW_some] <;> rfl) | (simp [*, errW_none, errW_some] <;> rfl), by repeat (first | (with_reducible first | exact HB.out | apply below_alloc | apply pw_below_drewN | apply below_drew1 | refine below_set ?_ GE479.out | refine below_set ?_ GE480.out) | exact HB.out)⟩
            · replace c25 := Bool.eq_false_iff.mpr c25
              subst c25
              have H1 : (spec_MeetingDay.l0 k1 t487 (wrap64 (x12_1 + 1)) a1_0 a1_1 a1_2 a1_3 a1_4 a1_5 a2_0 a2_1 a2_2 a2_3 a2_4 a2_5) = some (r1, r2) := by rw [if_neg (show ¬ (false = true) by decide)] at H; exact H
              clear H
              have H := H1
              clear H1
              have H' := Aside0.mk H
              clear H
              have hnb32 := NB479_480.out
              have hnc32 := NB480_479.out
              have hcz33_0 : wr.cell? ⟨gb479, 0, none⟩ = some (.int .i16 a1_0) := (blk_cell BK479.out 0).trans rfl
              have hcz33_1 : wr.cell? ⟨gb479, 1, none⟩ = some (.int .i16 a1_1) := (blk_cell BK479.out 1).trans rfl
              have hcz33_2 : wr.cell? ⟨gb479, 2, none⟩ = some (.int .i16 a1_2) := (blk_cell BK479.out 2).trans rfl
              have hcz33_3 : wr.cell? ⟨gb479, 3, none⟩ = some (.int .i16 a1_3) := (blk_cell BK479.out 3).trans rfl
              have hcz33_4 : wr.cell? ⟨gb479, 4, none⟩ = some (.int .i16 a1_4) := (blk_cell BK479.out 4).trans rfl
              have hcz33_5 : wr.cell? ⟨gb479, 5, none⟩ = some (.int .i8 a1_5) := (blk_cell BK479.out 5).trans rfl
              have hfz33_0 := blk_frozen BK479.out 0
              have hfz33_1 := blk_frozen BK479.out 1
              have hfz33_2 := blk_frozen BK479.out 2
              have hfz33_3 := blk_frozen BK479.out 3
              have hfz33_4 := blk_frozen BK479.out 4
              have hfz33_5 := blk_frozen BK479.out 5
              have hcz34_0 : wr.cell? ⟨gb480, 0, none⟩ = some (.int .i16 a2_0) := (blk_cell BK480.out 0).trans rfl
              have hcz34_1 : wr.cell? ⟨gb480, 1, none⟩ = some (.int .i16 a2_1) := (blk_cell BK480.out 1).trans rfl
              have hcz34_2 : wr.cell? ⟨gb480, 2, none⟩ = some (.int .i16 a2_2) := (blk_cell BK480.out 2).trans rfl
              have hcz34_3 : wr.cell? ⟨gb480, 3, none⟩ = some (.int .i16 a2_3) := (blk_cell BK480.out 3).trans rfl
              have hcz34_4 : wr.cell? ⟨gb480, 4, none⟩ = some (.int .i16 a2_4) := (blk_cell BK480.out 4).trans rfl
              have hcz34_5 : wr.cell? ⟨gb480, 5, none⟩ = some (.int .i8 a2_5) := (blk_cell BK480.out 5).trans rfl
              have hfz34_0 := blk_frozen BK480.out 0
              have hfz34_1 := blk_frozen BK480.out 1
              have hfz34_2 := blk_frozen BK480.out 2
              have hfz34_3 := blk_frozen BK480.out 3
              have hfz34_4 := blk_frozen BK480.out 4
              have hfz34_5 := blk_frozen BK480.out 5
              go_wp2_with (first | ((with_reducible refine gate_callee (f := 58) rfl ?_); refine goesL_ (some 47) rfl rfl Try.func58 (by kernel_rfl) rfl #[.agg #[.int .i16 a1_0, .int .i16 a1_1, .int .i16 a1_2, .int .i16 a1_3, .int .i16 a1_4, .int .i8 a1_5], .int .i64 (wrap64 (t487 + x12_1))] rfl (by (try simp only [List.map_toArray, List.map_cons, List.map_nil]); first | done | rfl | (simp only [List.length_drop, List.length_take]; rfl)) ?_; (with_reducible refine (spec_l05On.calls a1_0 a1_1 a1_2 a1_3 a1_4 a1_5 (wrap64 (t487 + x12_1)) true _ A22.out).mono ?_); rintro e w35 ⟨rfl, hb⟩; refine ⟨_, rfl, ?_⟩; have n0_ := Aside0.mk (blk_below (g := gb479) (o := .cells #[.int .i16 a1_0, .int .i16 a1_1, .int .i16 a1_2, .int .i16 a1_3, .int .i16 a1_4, .int .i8 a1_5] 40 (0, 0)) (by (with_reducible repeat (first | refine blk_drewN ?_ _ | refine blk_drew ?_ | refine blk_alloc ?_ _)); exact BK479.out) hb); have n1_ := Aside0.mk (blk_below (g := gb480) (o := .cells #[.int .i16 a2_0, .int .i16 a2_1, .int .i16 a2_2, .int .i16 a2_3, .int .i16 a2_4, .int .i8 a2_5] 40 (0, 0)) (by (with_reducible repeat (first | refine blk_drewN ?_ _ | refine blk_drew ?_ | refine blk_alloc ?_ _)); exact BK480.out) hb); have n2_ := Aside0.mk (below_step (by repeat (first | (with_reducible first | exact HB.out | apply below_alloc | apply pw_below_drewN | apply below_drew1 | refine below_set ?_ GE479.out | refine below_set ?_ GE480.out) | exact HB.out)) hb); clear BK479; clear BK480; clear HB; have BK479 := n0_; have BK480 := n1_; have HB := n2_; clear n0_ n1_ n2_; (try clear hb); (try clear hb2); (try clear hk); (try clear hi); have hcz36_0 : w35.cell? ⟨gb480, 0, none⟩ = some (.int .i16 a2_0) := (blk_cell BK480.out 0).trans rfl; have hcz36_1 : w35.cell? ⟨gb480, 1, none⟩ = some (.int .i16 a2_1) := (blk_cell BK480.out 1).trans rfl; have hcz36_2 : w35.cell? ⟨gb480, 2, none⟩ = some (.int .i16 a2_2) := (blk_cell BK480.out 2).trans rfl; have hcz36_3 : w35.cell? ⟨gb480, 3, none⟩ = some (.int .i16 a2_3) := (blk_cell BK480.out 3).trans rfl; have hcz36_4 : w35.cell? ⟨gb480, 4, none⟩ = some (.int .i16 a2_4) := (blk_cell BK480.out 4).trans rfl; have hcz36_5 : w35.cell? ⟨gb480, 5, none⟩ = some (.int .i8 a2_5) := (blk_cell BK480.out 5).trans rfl; have hfz36_0 := blk_frozen BK480.out 0; have hfz36_1 := blk_frozen BK480.out 1; have hfz36_2 := blk_frozen BK480.out 2; have hfz36_3 := blk_frozen BK480.out 3; have hfz36_4 := blk_frozen BK480.out 4; have hfz36_5 := blk_frozen BK480.out 5) | (go_at_call 58; (with_reducible refine (spec_l05On.calls a2_0 a2_1 a2_2 a2_3 a2_4 a2_5 (wrap64 (t487 + x12_1)) false _ A24.out).mono ?_); rintro e w37 ⟨rfl, hb⟩; have n0_ := Aside0.mk (blk_below (g := gb479) (o := .cells #[.int .i16 a1_0, .int .i16 a1_1, .int .i16 a1_2, .int .i16 a1_3, .int .i16 a1_4, .int .i8 a1_5] 40 (0, 0)) (by (with_reducible repeat (first | refine blk_drewN ?_ _ | refine blk_drew ?_ | refine blk_alloc ?_ _)); exact BK479.out) hb); have n1_ := Aside0.mk (blk_below (g := gb480) (o := .cells #[.int .i16 a2_0, .int .i16 a2_1, .int .i16 a2_2, .int .i16 a2_3, .int .i16 a2_4, .int .i8 a2_5] 40 (0, 0)) (by (with_reducible repeat (first | refine blk_drewN ?_ _ | refine blk_drew ?_ | refine blk_alloc ?_ _)); exact BK480.out) hb); have n2_ := Aside0.mk (below_step (by repeat (first | (with_reducible first | exact HB.out | apply below_alloc | apply pw_below_drewN | apply below_drew1 | refine below_set ?_ GE479.out | refine below_set ?_ GE480.out) | exact HB.out)) hb); clear BK479; clear BK480; clear HB; have BK479 := n0_; have BK480 := n1_; have HB := n2_; clear n0_ n1_ n2_; (try clear hb); (try clear hb2); (try clear hk); (try clear hi)))
              go_roundg k1
              case measure => have := HK1.out; omega
              case rel => exact ⟨(wrap64 (x12_1 + 1)), (by first | rfl | (simp; done) | (simp [*]; done)), H', ⟨by have := HK1.out; omega⟩, ⟨by (with_reducible repeat (first | refine blk_drewN ?_ _ | refine blk_drew ?_ | refine blk_alloc ?_ _)); exact BK479.out⟩, ⟨by (with_reducible repeat (first | refine blk_drewN ?_ _ | refine blk_drew ?_ | refine blk_alloc ?_ _)); exact BK480.out⟩, ⟨by repeat (first | (with_reducible first | exact HB.out | apply below_alloc | apply pw_below_drewN | apply below_drew1 | refine below_set ?_ GE479.out | refine below_set ?_ GE480.out) | exact HB.out)⟩⟩
          · replace c23 := Bool.eq_false_iff.mpr c23
            subst c23
            have H1 : (spec_MeetingDay.l0 k1 t487 (wrap64 (x12_1 + 1)) a1_0 a1_1 a1_2 a1_3 a1_4 a1_5 a2_0 a2_1 a2_2 a2_3 a2_4 a2_5) = some (r1, r2) := by rw [if_neg (show ¬ (false = true) by decide)] at H; exact H
            clear H
            have H := H1
            clear H1
            have H' := Aside0.mk H
            clear H
            have hnb38 := NB479_480.out
            have hnc38 := NB480_479.out
            have hcz39_0 : wr.cell? ⟨gb479, 0, none⟩ = some (.int .i16 a1_0) := (blk_cell BK479.out 0).trans rfl
            have hcz39_1 : wr.cell? ⟨gb479, 1, none⟩ = some (.int .i16 a1_1) := (blk_cell BK479.out 1).trans rfl
            have hcz39_2 : wr.cell? ⟨gb479, 2, none⟩ = some (.int .i16 a1_2) := (blk_cell BK479.out 2).trans rfl
            have hcz39_3 : wr.cell? ⟨gb479, 3, none⟩ = some (.int .i16 a1_3) := (blk_cell BK479.out 3).trans rfl
            have hcz39_4 : wr.cell? ⟨gb479, 4, none⟩ = some (.int .i16 a1_4) := (blk_cell BK479.out 4).trans rfl
            have hcz39_5 : wr.cell? ⟨gb479, 5, none⟩ = some (.int .i8 a1_5) := (blk_cell BK479.out 5).trans rfl
            have hfz39_0 := blk_frozen BK479.out 0
            have hfz39_1 := blk_frozen BK479.out 1
            have hfz39_2 := blk_frozen BK479.out 2
            have hfz39_3 := blk_frozen BK479.out 3
            have hfz39_4 := blk_frozen BK479.out 4
            have hfz39_5 := blk_frozen BK479.out 5
            have hcz40_0 : wr.cell? ⟨gb480, 0, none⟩ = some (.int .i16 a2_0) := (blk_cell BK480.out 0).trans rfl
            have hcz40_1 : wr.cell? ⟨gb480, 1, none⟩ = some (.int .i16 a2_1) := (blk_cell BK480.out 1).trans rfl
            have hcz40_2 : wr.cell? ⟨gb480, 2, none⟩ = some (.int .i16 a2_2) := (blk_cell BK480.out 2).trans rfl
            have hcz40_3 : wr.cell? ⟨gb480, 3, none⟩ = some (.int .i16 a2_3) := (blk_cell BK480.out 3).trans rfl
            have hcz40_4 : wr.cell? ⟨gb480, 4, none⟩ = some (.int .i16 a2_4) := (blk_cell BK480.out 4).trans rfl
            have hcz40_5 : wr.cell? ⟨gb480, 5, none⟩ = some (.int .i8 a2_5) := (blk_cell BK480.out 5).trans rfl
            have hfz40_0 := blk_frozen BK480.out 0
            have hfz40_1 := blk_frozen BK480.out 1
            have hfz40_2 := blk_frozen BK480.out 2
            have hfz40_3 := blk_frozen BK480.out 3
            have hfz40_4 := blk_frozen BK480.out 4
            have hfz40_5 := blk_frozen BK480.out 5
            go_wp2_with (first | ((with_reducible refine gate_callee (f := 58) rfl ?_); refine goesL_ (some 47) rfl rfl Try.func58 (by kernel_rfl) rfl #[.agg #[.int .i16 a1_0, .int .i16 a1_1, .int .i16 a1_2, .int .i16 a1_3, .int .i16 a1_4, .int .i8 a1_5], .int .i64 (wrap64 (t487 + x12_1))] rfl (by (try simp only [List.map_toArray, List.map_cons, List.map_nil]); first | done | rfl | (simp only [List.length_drop, List.length_take]; rfl)) ?_; (with_reducible refine (spec_l05On.calls a1_0 a1_1 a1_2 a1_3 a1_4 a1_5 (wrap64 (t487 + x12_1)) false _ A22.out).mono ?_); rintro e w41 ⟨rfl, hb⟩; refine ⟨_, rfl, ?_⟩; have n0_ := Aside0.mk (blk_below (g := gb479) (o := .cells #[.int .i16 a1_0, .int .i16 a1_1, .int .i16 a1_2, .int .i16 a1_3, .int .i16 a1_4, .int .i8 a1_5] 40 (0, 0)) (by (with_reducible repeat (first | refine blk_drewN ?_ _ | refine blk_drew ?_ | refine blk_alloc ?_ _)); exact BK479.out) hb); have n1_ := Aside0.mk (blk_below (g := gb480) (o := .cells #[.int .i16 a2_0, .int .i16 a2_1, .int .i16 a2_2, .int .i16 a2_3, .int .i16 a2_4, .int .i8 a2_5] 40 (0, 0)) (by (with_reducible repeat (first | refine blk_drewN ?_ _ | refine blk_drew ?_ | refine blk_alloc ?_ _)); exact BK480.out) hb); have n2_ := Aside0.mk (below_step (by repeat (first | (with_reducible first | exact HB.out | apply below_alloc | apply pw_below_drewN | apply below_drew1 | refine below_set ?_ GE479.out | refine below_set ?_ GE480.out) | exact HB.out)) hb); clear BK479; clear BK480; clear HB; have BK479 := n0_; have BK480 := n1_; have HB := n2_; clear n0_ n1_ n2_; (try clear hb); (try clear hb2); (try clear hk); (try clear hi)))
            go_roundg k1
            case measure => have := HK1.out; omega
            case rel => exact ⟨(wrap64 (x12_1 + 1)), (by first | rfl | (simp; done) | (simp [*]; done)), H', ⟨by have := HK1.out; omega⟩, ⟨by (with_reducible repeat (first | refine blk_drewN ?_ _ | refine blk_drew ?_ | refine blk_alloc ?_ _)); exact BK479.out⟩, ⟨by (with_reducible repeat (first | refine blk_drewN ?_ _ | refine blk_drew ?_ | refine blk_alloc ?_ _)); exact BK480.out⟩, ⟨by repeat (first | (with_reducible first | exact HB.out | apply below_alloc | apply pw_below_drewN | apply below_drew1 | refine below_set ?_ GE479.out | refine below_set ?_ GE480.out) | exact HB.out)⟩⟩
        · rw [if_neg c21] at H
          have c21b0 : decide (x12_1 < (wrap64 ((wrap64 (a1_1)) * (wrap64 (a2_1))))) = false := decide_eq_false c21
          clear c21
          simp only [Option.some.injEq, Prod.mk.injEq] at H
          obtain ⟨rfl, rfl⟩ := H
          have hnb42 := NB479_480.out
          have hnc42 := NB480_479.out
          have hcz43_0 : wr.cell? ⟨gb479, 0, none⟩ = some (.int .i16 a1_0) := (blk_cell BK479.out 0).trans rfl
          have hcz43_1 : wr.cell? ⟨gb479, 1, none⟩ = some (.int .i16 a1_1) := (blk_cell BK479.out 1).trans rfl
          have hcz43_2 : wr.cell? ⟨gb479, 2, none⟩ = some (.int .i16 a1_2) := (blk_cell BK479.out 2).trans rfl
          have hcz43_3 : wr.cell? ⟨gb479, 3, none⟩ = some (.int .i16 a1_3) := (blk_cell BK479.out 3).trans rfl
          have hcz43_4 : wr.cell? ⟨gb479, 4, none⟩ = some (.int .i16 a1_4) := (blk_cell BK479.out 4).trans rfl
          have hcz43_5 : wr.cell? ⟨gb479, 5, none⟩ = some (.int .i8 a1_5) := (blk_cell BK479.out 5).trans rfl
          have hfz43_0 := blk_frozen BK479.out 0
          have hfz43_1 := blk_frozen BK479.out 1
          have hfz43_2 := blk_frozen BK479.out 2
          have hfz43_3 := blk_frozen BK479.out 3
          have hfz43_4 := blk_frozen BK479.out 4
          have hfz43_5 := blk_frozen BK479.out 5
          have hcz44_0 : wr.cell? ⟨gb480, 0, none⟩ = some (.int .i16 a2_0) := (blk_cell BK480.out 0).trans rfl
          have hcz44_1 : wr.cell? ⟨gb480, 1, none⟩ = some (.int .i16 a2_1) := (blk_cell BK480.out 1).trans rfl
          have hcz44_2 : wr.cell? ⟨gb480, 2, none⟩ = some (.int .i16 a2_2) := (blk_cell BK480.out 2).trans rfl
          have hcz44_3 : wr.cell? ⟨gb480, 3, none⟩ = some (.int .i16 a2_3) := (blk_cell BK480.out 3).trans rfl
          have hcz44_4 : wr.cell? ⟨gb480, 4, none⟩ = some (.int .i16 a2_4) := (blk_cell BK480.out 4).trans rfl
          have hcz44_5 : wr.cell? ⟨gb480, 5, none⟩ = some (.int .i8 a2_5) := (blk_cell BK480.out 5).trans rfl
          have hfz44_0 := blk_frozen BK480.out 0
          have hfz44_1 := blk_frozen BK480.out 1
          have hfz44_2 := blk_frozen BK480.out 2
          have hfz44_3 := blk_frozen BK480.out 3
          have hfz44_4 := blk_frozen BK480.out 4
          have hfz44_5 := blk_frozen BK480.out 5
          go_wp2
          go_ret2
          exact ⟨by first | rfl | (simp [errW_none, errW_some] <;> rfl) | (simp [*, errW_none, errW_some] <;> rfl), by repeat (first | (with_reducible first | exact HB.out | apply below_alloc | apply pw_below_drewN | apply below_drew1 | refine below_set ?_ GE479.out | refine below_set ?_ GE480.out) | exact HB.out)⟩
  · rw [if_neg c7] at H
    have c7b0 : (t485 == 0) = false := beq_eq_false_iff_ne.mpr c7
    have c7b1 : (t485 != 0) = true := bne_iff_ne.mpr c7
    simp only [Option.some.injEq, Prod.mk.injEq] at H
    obtain ⟨rfl, rfl⟩ := H
    go_enter Try.func44, Try.ntmps44
    try go_wp2_with (first | ((with_reducible refine gate_dst (N := 5) rfl ?_); refine box_event ?hg (N := 5) ?hd (cs := #[.int .i16 a1_0, .int .i16 a1_1, .int .i16 a1_2, .int .i16 a1_3, .int .i16 a1_4, .int .i8 a1_5]) (t := 40) ?hr ?_; (case hd => rfl); (case hg => rfl); (case hr => first | (go_simp; done) | (go_simp; rfl)); intro gb479 hg w45 hbox hb; have n0_ := Aside0.mk (below_step (by repeat (first | (with_reducible first | exact HB.out | apply below_alloc | apply pw_below_drewN | apply below_drew1) | exact HB.out)) hb); have n1_ := Aside0.mk (hbox); have n2_ := Aside0.mk ((by rw [hg]; exact (below_size (by repeat (first | (with_reducible first | exact HB.out | apply below_alloc | apply pw_below_drewN | apply below_drew1) | exact HB.out))) : w.heap.size ≤ gb479)); have n3_ := Aside0.mk ((by rw [hg]; exact (below_size (by repeat (first | (with_reducible first | exact HB.out | apply below_alloc | apply pw_below_drewN | apply below_drew1) | exact HB.out))) : w.heap.size ≤ gb479)); clear HB; have HB := n0_; have BK479 := n1_; have GW479 := n2_; have GE479 := n3_; clear n0_ n1_ n2_ n3_; clear hb hbox hg) | ((with_reducible refine gate_dst (N := 6) rfl ?_); refine box_event ?hg (N := 6) ?hd (cs := #[.int .i16 a2_0, .int .i16 a2_1, .int .i16 a2_2, .int .i16 a2_3, .int .i16 a2_4, .int .i8 a2_5]) (t := 40) ?hr ?_; (case hd => rfl); (case hg => rfl); (case hr => first | (go_simp; done) | (go_simp; rfl)); intro gb480 hg w46 hbox hb; have n0_ := Aside0.mk (blk_below (g := gb479) (o := .cells #[.int .i16 a1_0, .int .i16 a1_1, .int .i16 a1_2, .int .i16 a1_3, .int .i16 a1_4, .int .i8 a1_5] 40 (0, 0)) (by (with_reducible repeat (first | refine blk_drewN ?_ _ | refine blk_drew ?_ | refine blk_alloc ?_ _)); exact BK479.out) hb); have n1_ := Aside0.mk (below_step (by repeat (first | (with_reducible first | exact HB.out | apply below_alloc | apply pw_below_drewN | apply below_drew1 | refine below_set ?_ GE479.out) | exact HB.out)) hb); have n2_ := Aside0.mk (hbox); have n3_ := Aside0.mk ((by rw [hg]; exact (below_size (by repeat (first | (with_reducible first | exact HB.out | apply below_alloc | apply pw_below_drewN | apply below_drew1 | refine below_set ?_ GE479.out) | exact HB.out))) : w.heap.size ≤ gb480)); have n4_ := Aside0.mk ((by rw [hg]; exact (below_size (by repeat (first | (with_reducible first | exact HB.out | apply below_alloc | apply pw_below_drewN | apply below_drew1 | refine below_set ?_ GE479.out) | exact HB.out))) : w.heap.size ≤ gb480)); have n5_ := Aside0.mk ((by rw [hg]; exact Nat.ne_of_lt (blk_lt (g := gb479) (o := .cells #[.int .i16 a1_0, .int .i16 a1_1, .int .i16 a1_2, .int .i16 a1_3, .int .i16 a1_4, .int .i8 a1_5] 40 (0, 0)) (by (with_reducible repeat (first | refine blk_drewN ?_ _ | refine blk_drew ?_ | refine blk_alloc ?_ _)); exact BK479.out)) : gb479 ≠ gb480)); have n6_ := Aside0.mk ((by rw [hg]; exact Nat.ne_of_gt (blk_lt (g := gb479) (o := .cells #[.int .i16 a1_0, .int .i16 a1_1, .int .i16 a1_2, .int .i16 a1_3, .int .i16 a1_4, .int .i8 a1_5] 40 (0, 0)) (by (with_reducible repeat (first | refine blk_drewN ?_ _ | refine blk_drew ?_ | refine blk_alloc ?_ _)); exact BK479.out)) : gb480 ≠ gb479)); clear BK479; clear HB; have BK479 := n0_; have HB := n1_; have BK480 := n2_; have GW480 := n3_; have GE480 := n4_; have NB479_480 := n5_; have NB480_479 := n6_; clear n0_ n1_ n2_ n3_ n4_ n5_ n6_; clear hb hbox hg))
    have n0_ := Aside0.mk (blk_drew BK479.out)
    have n1_ := Aside0.mk (blk_drew BK480.out)
    have n2_ := Aside0.mk (below_drew1 HB.out)
    clear BK479
    clear BK480
    clear HB
    have BK479 := n0_
    have BK480 := n1_
    have HB := n2_
    clear n0_ n1_ n2_
    refine start_ (n := 8) (S := fun w' => w'.cell? ⟨gb479, 0, none⟩ = some (.int .i16 a1_0) ∧ w'.cell? ⟨gb479, 1, none⟩ = some (.int .i16 a1_1) ∧ w'.cell? ⟨gb479, 2, none⟩ = some (.int .i16 a1_2) ∧ w'.cell? ⟨gb479, 3, none⟩ = some (.int .i16 a1_3) ∧ w'.cell? ⟨gb479, 4, none⟩ = some (.int .i16 a1_4) ∧ w'.cell? ⟨gb479, 5, none⟩ = some (.int .i8 a1_5) ∧ w'.cell? ⟨gb480, 0, none⟩ = some (.int .i16 a2_0) ∧ w'.cell? ⟨gb480, 1, none⟩ = some (.int .i16 a2_1) ∧ w'.cell? ⟨gb480, 2, none⟩ = some (.int .i16 a2_2) ∧ w'.cell? ⟨gb480, 3, none⟩ = some (.int .i16 a2_3) ∧ w'.cell? ⟨gb480, 4, none⟩ = some (.int .i16 a2_4) ∧ w'.cell? ⟨gb480, 5, none⟩ = some (.int .i8 a2_5)) (ds := []) #[false, false, false, false, false, false, false, false] (by kernel_rfl) rfl rfl ⟨(blk_cell BK479.out 0).trans rfl, (blk_cell BK479.out 1).trans rfl, (blk_cell BK479.out 2).trans rfl, (blk_cell BK479.out 3).trans rfl, (blk_cell BK479.out 4).trans rfl, (blk_cell BK479.out 5).trans rfl, (blk_cell BK480.out 0).trans rfl, (blk_cell BK480.out 1).trans rfl, (blk_cell BK480.out 2).trans rfl, (blk_cell BK480.out 3).trans rfl, (blk_cell BK480.out 4).trans rfl, (blk_cell BK480.out 5).trans rfl⟩ (fun hHeld => ?_); refine with_tabW spec_MeetingDay.tab1 spec_MeetingDay.bits1 (fun HT_ HW_ => ?_)
    generalize w46.drew = w47 at BK479 BK480 HB hHeld ⊢
    refine pure_ (i := 0) (N := some 13) (v := ?_) (a' := ?_) #[true, false, false, false, false, false, false, false] rfl rfl (any_of HT_.out (by kernel_rfl)) (fun _ _ _ h => h) (Or.inl ⟨by rfl, ?_⟩) ?_ ?_
    rotate_left
    · intro w'
      go_simp
      with_reducible rfl
    rotate_left
    · simp only [Act.put, List.setIfInBounds_toArray, List.set_cons_zero, List.set_cons_succ, i64_w, i32_w]
      rfl
    refine pure_ (i := 4) (N := some 17) (v := ?_) (a' := ?_) #[true, false, false, false, true, false, false, false] rfl rfl (any_of HT_.out (by kernel_rfl)) (fun _ _ _ h => h) (Or.inl ⟨by rfl, ?_⟩) ?_ ?_
    rotate_left
    · intro w'
      go_simp
      with_reducible rfl
    rotate_left
    · simp only [Act.put, List.setIfInBounds_toArray, List.set_cons_zero, List.set_cons_succ, i64_w, i32_w]
      rfl
    refine take_ (i := 1) (N := some 14) (v := ?_) (a' := ?_) #[true, true, false, false, true, false, false, false] rfl rfl (take_ofW HT_.out HW_.out (by kernel_rfl)) (fun _ _ _ h => h) (Or.inl ⟨by rfl, ?_⟩) hHeld ?_ ?_
    rotate_left
    · rintro w' ⟨s0, s1, s2, s3, s4, s5, s6, s7, s8, s9, s10, s11⟩
      go_simp
      with_reducible rfl
    rotate_left
    · simp only [Act.put, List.setIfInBounds_toArray, List.set_cons_zero, List.set_cons_succ, i64_w, i32_w]
      rfl
    refine take_ (i := 2) (N := some 15) (v := ?_) (a' := ?_) #[true, true, true, false, true, false, false, false] rfl rfl (take_ofW HT_.out HW_.out (by kernel_rfl)) (fun _ _ _ h => h) (Or.inl ⟨by rfl, ?_⟩) hHeld ?_ ?_
    rotate_left
    · rintro w' ⟨s0, s1, s2, s3, s4, s5, s6, s7, s8, s9, s10, s11⟩
      go_simp
      with_reducible rfl
    rotate_left
    · simp only [Act.put, List.setIfInBounds_toArray, List.set_cons_zero, List.set_cons_succ, i64_w, i32_w]
      rfl
    refine join_ (σ := Value) 2 #[true, true, true, true, true, true, false, false] (fun s_ => [(16, s_), (18, .bool t484)]) (fun s_ w' => (w'.cell? ⟨gb479, 0, none⟩ = some (.int .i16 a1_0) ∧ w'.cell? ⟨gb479, 1, none⟩ = some (.int .i16 a1_1) ∧ w'.cell? ⟨gb479, 2, none⟩ = some (.int .i16 a1_2) ∧ w'.cell? ⟨gb479, 3, none⟩ = some (.int .i16 a1_3) ∧ w'.cell? ⟨gb479, 4, none⟩ = some (.int .i16 a1_4) ∧ w'.cell? ⟨gb479, 5, none⟩ = some (.int .i8 a1_5) ∧ w'.cell? ⟨gb480, 0, none⟩ = some (.int .i16 a2_0) ∧ w'.cell? ⟨gb480, 1, none⟩ = some (.int .i16 a2_1) ∧ w'.cell? ⟨gb480, 2, none⟩ = some (.int .i16 a2_2) ∧ w'.cell? ⟨gb480, 3, none⟩ = some (.int .i16 a2_3) ∧ w'.cell? ⟨gb480, 4, none⟩ = some (.int .i16 a2_4) ∧ w'.cell? ⟨gb480, 5, none⟩ = some (.int .i8 a2_5)) ∧ (Kd.R k40 40 w' w.heap.size (fun k_ => k_ ≠ gb479 ∧ k_ ≠ gb480) s_ y481) ∧ (w'.heap[gb479]? = some (.cells #[.int .i16 a1_0, .int .i16 a1_1, .int .i16 a1_2, .int .i16 a1_3, .int .i16 a1_4, .int .i8 a1_5] 40 (0, 0))) ∧ (w'.heap[gb480]? = some (.cells #[.int .i16 a2_0, .int .i16 a2_1, .int .i16 a2_2, .int .i16 a2_3, .int .i16 a2_4, .int .i8 a2_5] 40 (0, 0))) ∧ (Below w.heap.size w w')) ?_ ?_
    rotate_left
    · intro hCont
      refine two_ (i := 3) (j := 5) (Ni := some 16) (Nj := some 18) #[true, true, true, true, true, false, false, false] #[true, true, true, false, true, true, false, false] rfl rfl rfl rfl (two_of HT_.out (by kernel_rfl)) (by decide) (by decide) (fun K hK => ?_) (fun K hK => ?_)
      · skip
        refine Kd.R_lit_step k40 _ 40 ?hg (N := 16) ?hd (xs := ([(⟨a1_0, a1_1, a1_2, a1_3, a1_4, a1_5⟩ : S40), (⟨a2_0, a2_1, a2_2, a2_3, a2_4, a2_5⟩ : S40)] : List (S40))) (inner := [.int .i16 a1_0, .int .i16 a1_1, .int .i16 a1_2, .int .i16 a1_3, .int .i16 a1_4, .int .i8 a1_5, .int .i16 a2_0, .int .i16 a2_1, .int .i16 a2_2, .int .i16 a2_3, .int .i16 a2_4, .int .i8 a2_5]) (ok := fun _ => True) (okp := fun _ => True) ?hr ?hp (fun _ hk => hk) trivial (Below.refl _ _) (Nat.le_refl _) (by simp) ?_; (case hd => rfl); (case hg => rfl); (case hr => first | (go_simp; done) | (go_simp; rfl)); (case hp => exact (Reps.c6 (show Kd.M k40 _ _ _ (⟨a1_0, a1_1, a1_2, a1_3, a1_4, a1_5⟩ : S40) [.int .i16 a1_0, .int .i16 a1_1, .int .i16 a1_2, .int .i16 a1_3, .int .i16 a1_4, .int .i8 a1_5] from (k40_mkM _ _ _ (⟨a1_0, a1_1, a1_2, a1_3, a1_4, a1_5⟩ : S40) )) (Reps.c6 (show Kd.M k40 _ _ _ (⟨a2_0, a2_1, a2_2, a2_3, a2_4, a2_5⟩ : S40) [.int .i16 a2_0, .int .i16 a2_1, .int .i16 a2_2, .int .i16 a2_3, .int .i16 a2_4, .int .i8 a2_5] from (k40_mkM _ _ _ (⟨a2_0, a2_1, a2_2, a2_3, a2_4, a2_5⟩ : S40) )) (Reps.none _ _))))
        intro v482 w48 ho49 hb hg_ hnew_
        clear hg_ hnew_
        (first | rw [← Ny481.out] at ho49 | (simp only [Int.reduceToNat] at ho49; rw [← Ny481.out] at ho49))
        have n0_ := Aside0.mk (Kd.R_lower (Kd.R_newB (Kd.R_newB ho49 (g := gb479) (o := .cells #[.int .i16 a1_0, .int .i16 a1_1, .int .i16 a1_2, .int .i16 a1_3, .int .i16 a1_4, .int .i8 a1_5] 40 (0, 0)) (by (with_reducible repeat (first | refine blk_drewN ?_ _ | refine blk_drew ?_ | refine blk_alloc ?_ _)); exact BK479.out)) (g := gb480) (o := .cells #[.int .i16 a2_0, .int .i16 a2_1, .int .i16 a2_2, .int .i16 a2_3, .int .i16 a2_4, .int .i8 a2_5] 40 (0, 0)) (by (with_reducible repeat (first | refine blk_drewN ?_ _ | refine blk_drew ?_ | refine blk_alloc ?_ _)); exact BK480.out)) (below_size (by repeat (first | (with_reducible first | exact HB.out | apply below_alloc | apply pw_below_drewN | apply below_drew1 | refine below_set ?_ GE479.out | refine below_set ?_ GE480.out) | exact HB.out))))
        have n1_ := Aside0.mk (blk_below (g := gb479) (o := .cells #[.int .i16 a1_0, .int .i16 a1_1, .int .i16 a1_2, .int .i16 a1_3, .int .i16 a1_4, .int .i8 a1_5] 40 (0, 0)) (by (with_reducible repeat (first | refine blk_drewN ?_ _ | refine blk_drew ?_ | refine blk_alloc ?_ _)); exact BK479.out) hb)
        have n2_ := Aside0.mk (blk_below (g := gb480) (o := .cells #[.int .i16 a2_0, .int .i16 a2_1, .int .i16 a2_2, .int .i16 a2_3, .int .i16 a2_4, .int .i8 a2_5] 40 (0, 0)) (by (with_reducible repeat (first | refine blk_drewN ?_ _ | refine blk_drew ?_ | refine blk_alloc ?_ _)); exact BK480.out) hb)
        have n3_ := Aside0.mk (below_step (by repeat (first | (with_reducible first | exact HB.out | apply below_alloc | apply pw_below_drewN | apply below_drew1 | refine below_set ?_ GE479.out | refine below_set ?_ GE480.out) | exact HB.out)) hb)
        clear BK479
        clear BK480
        clear HB
        have HO483 := n0_
        have BK479 := n1_
        have BK480 := n2_
        have HB := n3_
        clear n0_ n1_ n2_ n3_
        clear hb ho49
        refine hK.out _ _ ⟨(blk_cell BK479.out 0).trans rfl, (blk_cell BK479.out 1).trans rfl, (blk_cell BK479.out 2).trans rfl, (blk_cell BK479.out 3).trans rfl, (blk_cell BK479.out 4).trans rfl, (blk_cell BK479.out 5).trans rfl, (blk_cell BK480.out 0).trans rfl, (blk_cell BK480.out 1).trans rfl, (blk_cell BK480.out 2).trans rfl, (blk_cell BK480.out 3).trans rfl, (blk_cell BK480.out 4).trans rfl, (blk_cell BK480.out 5).trans rfl⟩ (fun hHeld => ?_)
        clear hK K
        refine norm_ (a' := ?_) ?_ ?_
        rotate_left
        · show Act.put _ (some 16) _ = _
          simp only [Act.put, List.setIfInBounds_toArray, List.set_cons_zero, List.set_cons_succ, i64_w, i32_w]
          rfl
        refine one_ (i := 5) (N := some 18) #[true, true, true, true, true, true, false, false] rfl rfl (one_of HT_.out (by kernel_rfl)) (by decide) (fun K hK => ?_)
        refine goes_ Try.func57 (by kernel_rfl) rfl #[.int .i64 a3] (by rfl) rfl rfl (by (try simp only [List.map_toArray, List.map_cons, List.map_nil]); first | done | rfl | (simp only [List.length_drop, List.length_take]; rfl)) ?_
        with_reducible refine (spec_l05Day.calls a3 t484 _ A5.out).mono ?_
        rintro e w' ⟨rfl, ⟨nd, rfl⟩⟩
        refine ⟨_, rfl, ?_⟩
        refine hK.out _ _ ⟨(blk_cell BK479.out 0).trans rfl, (blk_cell BK479.out 1).trans rfl, (blk_cell BK479.out 2).trans rfl, (blk_cell BK479.out 3).trans rfl, (blk_cell BK479.out 4).trans rfl, (blk_cell BK479.out 5).trans rfl, (blk_cell BK480.out 0).trans rfl, (blk_cell BK480.out 1).trans rfl, (blk_cell BK480.out 2).trans rfl, (blk_cell BK480.out 3).trans rfl, (blk_cell BK480.out 4).trans rfl, (blk_cell BK480.out 5).trans rfl⟩ (fun hHeld => ?_)
        clear hK K
        refine norm_ (a' := ?_) ?_ ?_
        rotate_left
        · show Act.put _ (some 18) _ = _
          simp only [Act.put, List.setIfInBounds_toArray, List.set_cons_zero, List.set_cons_succ, i64_w, i32_w]
          rfl
        exact norm_ (by simp only [putAll, Act.put, List.setIfInBounds_toArray, List.set_cons_zero, List.set_cons_succ]) (hCont (v482) _ ⟨hHeld, (by (with_reducible repeat (first | apply Kd.R_alloc | apply Kd.R_drewN | apply Kd.R_drew)); exact Kd.R_mono HO483.out (fun _ hk => ⟨hk.1.2, hk.2⟩)), (by (with_reducible repeat (first | refine blk_drewN ?_ _ | refine blk_drew ?_ | refine blk_alloc ?_ _)); exact BK479.out), (by (with_reducible repeat (first | refine blk_drewN ?_ _ | refine blk_drew ?_ | refine blk_alloc ?_ _)); exact BK480.out), (by repeat (first | (with_reducible first | exact HB.out | apply below_alloc | apply pw_below_drewN | apply below_drew1 | refine below_set ?_ GE479.out | refine below_set ?_ GE480.out) | exact HB.out))⟩)
      · skip
        refine goes_ Try.func57 (by kernel_rfl) rfl #[.int .i64 a3] (by rfl) rfl rfl (by (try simp only [List.map_toArray, List.map_cons, List.map_nil]); first | done | rfl | (simp only [List.length_drop, List.length_take]; rfl)) ?_
        with_reducible refine (spec_l05Day.calls a3 t484 _ A5.out).mono ?_
        rintro e w' ⟨rfl, ⟨nd, rfl⟩⟩
        refine ⟨_, rfl, ?_⟩
        refine hK.out _ _ ⟨(blk_cell BK479.out 0).trans rfl, (blk_cell BK479.out 1).trans rfl, (blk_cell BK479.out 2).trans rfl, (blk_cell BK479.out 3).trans rfl, (blk_cell BK479.out 4).trans rfl, (blk_cell BK479.out 5).trans rfl, (blk_cell BK480.out 0).trans rfl, (blk_cell BK480.out 1).trans rfl, (blk_cell BK480.out 2).trans rfl, (blk_cell BK480.out 3).trans rfl, (blk_cell BK480.out 4).trans rfl, (blk_cell BK480.out 5).trans rfl⟩ (fun hHeld => ?_)
        clear hK K
        refine norm_ (a' := ?_) ?_ ?_
        rotate_left
        · show Act.put _ (some 18) _ = _
          simp only [Act.put, List.setIfInBounds_toArray, List.set_cons_zero, List.set_cons_succ, i64_w, i32_w]
          rfl
        refine one_ (i := 3) (N := some 16) #[true, true, true, true, true, true, false, false] rfl rfl (one_of HT_.out (by kernel_rfl)) (by decide) (fun K hK => ?_)
        refine Kd.R_lit_step k40 _ 40 ?hg (N := 16) ?hd (xs := ([(⟨a1_0, a1_1, a1_2, a1_3, a1_4, a1_5⟩ : S40), (⟨a2_0, a2_1, a2_2, a2_3, a2_4, a2_5⟩ : S40)] : List (S40))) (inner := [.int .i16 a1_0, .int .i16 a1_1, .int .i16 a1_2, .int .i16 a1_3, .int .i16 a1_4, .int .i8 a1_5, .int .i16 a2_0, .int .i16 a2_1, .int .i16 a2_2, .int .i16 a2_3, .int .i16 a2_4, .int .i8 a2_5]) (ok := fun _ => True) (okp := fun _ => True) ?hr ?hp (fun _ hk => hk) trivial (Below.refl _ _) (Nat.le_refl _) (by simp) ?_; (case hd => rfl); (case hg => rfl); (case hr => first | (go_simp; done) | (go_simp; rfl)); (case hp => exact (Reps.c6 (show Kd.M k40 _ _ _ (⟨a1_0, a1_1, a1_2, a1_3, a1_4, a1_5⟩ : S40) [.int .i16 a1_0, .int .i16 a1_1, .int .i16 a1_2, .int .i16 a1_3, .int .i16 a1_4, .int .i8 a1_5] from (k40_mkM _ _ _ (⟨a1_0, a1_1, a1_2, a1_3, a1_4, a1_5⟩ : S40) )) (Reps.c6 (show Kd.M k40 _ _ _ (⟨a2_0, a2_1, a2_2, a2_3, a2_4, a2_5⟩ : S40) [.int .i16 a2_0, .int .i16 a2_1, .int .i16 a2_2, .int .i16 a2_3, .int .i16 a2_4, .int .i8 a2_5] from (k40_mkM _ _ _ (⟨a2_0, a2_1, a2_2, a2_3, a2_4, a2_5⟩ : S40) )) (Reps.none _ _))))
        intro v482 w48 ho49 hb hg_ hnew_
        clear hg_ hnew_
        (first | rw [← Ny481.out] at ho49 | (simp only [Int.reduceToNat] at ho49; rw [← Ny481.out] at ho49))
        have n0_ := Aside0.mk (Kd.R_lower (Kd.R_newB (Kd.R_newB ho49 (g := gb479) (o := .cells #[.int .i16 a1_0, .int .i16 a1_1, .int .i16 a1_2, .int .i16 a1_3, .int .i16 a1_4, .int .i8 a1_5] 40 (0, 0)) (by (with_reducible repeat (first | refine blk_drewN ?_ _ | refine blk_drew ?_ | refine blk_alloc ?_ _)); exact BK479.out)) (g := gb480) (o := .cells #[.int .i16 a2_0, .int .i16 a2_1, .int .i16 a2_2, .int .i16 a2_3, .int .i16 a2_4, .int .i8 a2_5] 40 (0, 0)) (by (with_reducible repeat (first | refine blk_drewN ?_ _ | refine blk_drew ?_ | refine blk_alloc ?_ _)); exact BK480.out)) (below_size (by repeat (first | (with_reducible first | exact HB.out | apply below_alloc | apply pw_below_drewN | apply below_drew1 | refine below_set ?_ GE479.out | refine below_set ?_ GE480.out) | exact HB.out))))
        have n1_ := Aside0.mk (blk_below (g := gb479) (o := .cells #[.int .i16 a1_0, .int .i16 a1_1, .int .i16 a1_2, .int .i16 a1_3, .int .i16 a1_4, .int .i8 a1_5] 40 (0, 0)) (by (with_reducible repeat (first | refine blk_drewN ?_ _ | refine blk_drew ?_ | refine blk_alloc ?_ _)); exact BK479.out) hb)
        have n2_ := Aside0.mk (blk_below (g := gb480) (o := .cells #[.int .i16 a2_0, .int .i16 a2_1, .int .i16 a2_2, .int .i16 a2_3, .int .i16 a2_4, .int .i8 a2_5] 40 (0, 0)) (by (with_reducible repeat (first | refine blk_drewN ?_ _ | refine blk_drew ?_ | refine blk_alloc ?_ _)); exact BK480.out) hb)
        have n3_ := Aside0.mk (below_step (by repeat (first | (with_reducible first | exact HB.out | apply below_alloc | apply pw_below_drewN | apply below_drew1 | refine below_set ?_ GE479.out | refine below_set ?_ GE480.out) | exact HB.out)) hb)
        clear BK479
        clear BK480
        clear HB
        have HO483 := n0_
        have BK479 := n1_
        have BK480 := n2_
        have HB := n3_
        clear n0_ n1_ n2_ n3_
        clear hb ho49
        refine hK.out _ _ ⟨(blk_cell BK479.out 0).trans rfl, (blk_cell BK479.out 1).trans rfl, (blk_cell BK479.out 2).trans rfl, (blk_cell BK479.out 3).trans rfl, (blk_cell BK479.out 4).trans rfl, (blk_cell BK479.out 5).trans rfl, (blk_cell BK480.out 0).trans rfl, (blk_cell BK480.out 1).trans rfl, (blk_cell BK480.out 2).trans rfl, (blk_cell BK480.out 3).trans rfl, (blk_cell BK480.out 4).trans rfl, (blk_cell BK480.out 5).trans rfl⟩ (fun hHeld => ?_)
        clear hK K
        refine norm_ (a' := ?_) ?_ ?_
        rotate_left
        · show Act.put _ (some 16) _ = _
          simp only [Act.put, List.setIfInBounds_toArray, List.set_cons_zero, List.set_cons_succ, i64_w, i32_w]
          rfl
        exact norm_ (by simp only [putAll, Act.put, List.setIfInBounds_toArray, List.set_cons_zero, List.set_cons_succ]) (hCont (v482) _ ⟨hHeld, (by (with_reducible repeat (first | apply Kd.R_alloc | apply Kd.R_drewN | apply Kd.R_drew)); exact Kd.R_mono HO483.out (fun _ hk => ⟨hk.1.2, hk.2⟩)), (by (with_reducible repeat (first | refine blk_drewN ?_ _ | refine blk_drew ?_ | refine blk_alloc ?_ _)); exact BK479.out), (by (with_reducible repeat (first | refine blk_drewN ?_ _ | refine blk_drew ?_ | refine blk_alloc ?_ _)); exact BK480.out), (by repeat (first | (with_reducible first | exact HB.out | apply below_alloc | apply pw_below_drewN | apply below_drew1 | refine below_set ?_ GE479.out | refine below_set ?_ GE480.out) | exact HB.out))⟩)
    rintro v482 w50 ⟨hS_, h0_, h1_, h2_, h3_⟩
    have n0_ : Aside0 (Kd.R k40 40 w50 w.heap.size (fun k_ => k_ ≠ gb479 ∧ k_ ≠ gb480) v482 y481) := ⟨h0_⟩
    have n1_ : Aside0 (w50.heap[gb479]? = some (.cells #[.int .i16 a1_0, .int .i16 a1_1, .int .i16 a1_2, .int .i16 a1_3, .int .i16 a1_4, .int .i8 a1_5] 40 (0, 0))) := ⟨h1_⟩
    have n2_ : Aside0 (w50.heap[gb480]? = some (.cells #[.int .i16 a2_0, .int .i16 a2_1, .int .i16 a2_2, .int .i16 a2_3, .int .i16 a2_4, .int .i8 a2_5] 40 (0, 0))) := ⟨h2_⟩
    have n3_ : Aside0 (Below w.heap.size w w50) := ⟨h3_⟩
    clear BK479
    clear BK480
    clear HB
    clear h0_ h1_ h2_ h3_
    have HO483 := n0_
    have BK479 := n1_
    have BK480 := n2_
    have HB := n3_
    clear n0_ n1_ n2_ n3_
    have hHeld : w50.cell? ⟨gb479, 0, none⟩ = some (.int .i16 a1_0) ∧ w50.cell? ⟨gb479, 1, none⟩ = some (.int .i16 a1_1) ∧ w50.cell? ⟨gb479, 2, none⟩ = some (.int .i16 a1_2) ∧ w50.cell? ⟨gb479, 3, none⟩ = some (.int .i16 a1_3) ∧ w50.cell? ⟨gb479, 4, none⟩ = some (.int .i16 a1_4) ∧ w50.cell? ⟨gb479, 5, none⟩ = some (.int .i8 a1_5) ∧ w50.cell? ⟨gb480, 0, none⟩ = some (.int .i16 a2_0) ∧ w50.cell? ⟨gb480, 1, none⟩ = some (.int .i16 a2_1) ∧ w50.cell? ⟨gb480, 2, none⟩ = some (.int .i16 a2_2) ∧ w50.cell? ⟨gb480, 3, none⟩ = some (.int .i16 a2_3) ∧ w50.cell? ⟨gb480, 4, none⟩ = some (.int .i16 a2_4) ∧ w50.cell? ⟨gb480, 5, none⟩ = some (.int .i8 a2_5) := hS_
    obtain ⟨Ao51, co51, eo51⟩ := Kd.R_slice HO483.out
    (first | subst eo51 | (injection eo51 with f1_ f2_ f3_; have f4_ := f1_.symm; have f5_ := f3_.symm; clear f1_ f2_ f3_; subst f4_; subst f5_))
    refine norm_ (a' := ?_) ?_ ?_
    rotate_left
    · simp only [putAll, Act.put, List.setIfInBounds_toArray, List.set_cons_zero, List.set_cons_succ]
      rfl
    refine one_ (i := 6) (N := some 19) #[true, true, true, true, true, true, true, false] rfl rfl (one_of HT_.out (by kernel_rfl)) (by decide) (fun K hK => ?_)
    refine goes_ Try.func56 (by kernel_rfl) rfl #[.int .i64 a0, .slice Ao51 y481.length co51, .bool t484] (by rfl) rfl rfl (by (try simp only [List.map_toArray, List.map_cons, List.map_nil]); first | done | rfl | (simp only [List.length_drop, List.length_take]; rfl)) ?_
    with_reducible refine (spec_l05Asked.calls k a0 _ _ y481 t484 t485 _ ?side1 ?side2 A6.out).mono ?_
    (case side1 => repeat (first | exact (Kd.R_reads' HO483.out).2.2 | (with_reducible refine Kd.C_alloc ?_ _) | (with_reducible refine Kd.C_drewN ?_ _) | (with_reducible refine Kd.C_drew ?_)))
    (case side2 => exact (Kd.R_reads' HO483.out).2.1)
    rintro e w52 ⟨rfl, hb⟩
    refine ⟨_, rfl, ?_⟩
    have n0_ := Aside0.mk (Kd.R_below (by (with_reducible repeat (first | apply Kd.R_alloc | apply Kd.R_drewN | apply Kd.R_drew)); exact HO483.out) hb)
    have n1_ := Aside0.mk (blk_below (g := gb479) (o := .cells #[.int .i16 a1_0, .int .i16 a1_1, .int .i16 a1_2, .int .i16 a1_3, .int .i16 a1_4, .int .i8 a1_5] 40 (0, 0)) (by (with_reducible repeat (first | refine blk_drewN ?_ _ | refine blk_drew ?_ | refine blk_alloc ?_ _)); exact BK479.out) hb)
    have n2_ := Aside0.mk (blk_below (g := gb480) (o := .cells #[.int .i16 a2_0, .int .i16 a2_1, .int .i16 a2_2, .int .i16 a2_3, .int .i16 a2_4, .int .i8 a2_5] 40 (0, 0)) (by (with_reducible repeat (first | refine blk_drewN ?_ _ | refine blk_drew ?_ | refine blk_alloc ?_ _)); exact BK480.out) hb)
    have n3_ := Aside0.mk (below_step (by repeat (first | (with_reducible first | exact HB.out | apply below_alloc | apply pw_below_drewN | apply below_drew1 | refine below_set ?_ GE479.out | refine below_set ?_ GE480.out) | exact HB.out)) hb)
    clear HO483
    clear BK479
    clear BK480
    clear HB
    have HO483 := n0_
    have BK479 := n1_
    have BK480 := n2_
    have HB := n3_
    clear n0_ n1_ n2_ n3_
    (try clear hb)
    (try clear hb2)
    (try clear hk)
    (try clear hi)
    refine hK.out _ _ ⟨(blk_cell BK479.out 0).trans rfl, (blk_cell BK479.out 1).trans rfl, (blk_cell BK479.out 2).trans rfl, (blk_cell BK479.out 3).trans rfl, (blk_cell BK479.out 4).trans rfl, (blk_cell BK479.out 5).trans rfl, (blk_cell BK480.out 0).trans rfl, (blk_cell BK480.out 1).trans rfl, (blk_cell BK480.out 2).trans rfl, (blk_cell BK480.out 3).trans rfl, (blk_cell BK480.out 4).trans rfl, (blk_cell BK480.out 5).trans rfl⟩ (fun hHeld => ?_)
    clear hK K
    refine norm_ (a' := ?_) ?_ ?_
    rotate_left
    · show Act.put _ (some 19) _ = _
      simp only [Act.put, List.setIfInBounds_toArray, List.set_cons_zero, List.set_cons_succ, i64_w, i32_w]
      rfl
    refine pure_ (i := 7) (N := some 10) (v := ?_) (a' := ?_) #[true, true, true, true, true, true, true, true] rfl rfl (any_of HT_.out (by kernel_rfl)) (fun _ _ _ h => h) (Or.inl ⟨by rfl, ?_⟩) ?_ ?_
    rotate_left
    · intro w'
      go_simp
      with_reducible rfl
    rotate_left
    · simp only [Act.put, List.setIfInBounds_toArray, List.set_cons_zero, List.set_cons_succ, i64_w, i32_w]
      rfl
    refine done_ (done_of HT_.out (by kernel_rfl)) ?_
    try go_wp2
    go_ret2
    exact ⟨by first | rfl | (simp [errW_none, errW_some] <;> rfl) | (simp [*, errW_none, errW_some] <;> rfl), by repeat (first | (with_reducible first | exact HB.out | apply below_alloc | apply pw_below_drewN | apply below_drew1 | refine below_set ?_ GE479.out | refine below_set ?_ GE480.out) | exact HB.out)⟩

end Go.Proofs.Ytleeponhjgmioaa.Pa
