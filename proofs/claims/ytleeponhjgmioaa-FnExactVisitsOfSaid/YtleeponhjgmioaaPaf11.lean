-- Written by this claim's own program (printg.py) out of the translation; Lean checks it.
import Derived.Test.YtleeponhjgmioaaPa0
import Derived.Test.YtleeponhjgmioaaPaLaw0
import Derived.Test.YtleeponhjgmioaaPaf28
import Derived.Test.YtleeponhjgmioaaPaf39
import Derived.Test.YtleeponhjgmioaaPaf40
import Derived.Test.YtleeponhjgmioaaPaf41
import Derived.Test.YtleeponhjgmioaaPaf42
import Derived.Test.YtleeponhjgmioaaPaf43
namespace Go.Proofs.Ytleeponhjgmioaa.Pa
open Go.RowKit Go.Proofs.YtleeponhjgmioaaW.PrintWords Go.Proofs.YtleeponhjgmioaaW.PrintLast Go.Proofs.YtleeponhjgmioaaW.PrintMore
attribute [local go_sem] max2_int min2_int max_two min_two max_three min_three max_four min_four   -- for this text's walks alone
set_option linter.unusedVariables false
set_option linter.unusedSimpArgs false

/-! ### laws_FnExactVisitsOf: function 11 -/
mutual
def laws_FnExactVisitsOf.j0 : Nat → Int → List Int → Int → List Int → Bool → Int → Int → Int → Int → Int → Int → Option (Bool)
  | 0, _, _, _, _, _, _, _, _, _, _, _ => none
  | k + 1, x0, x5, x6, x7, x35, x443000, x443001, x443002, x443003, x443004, x443005 => if x35 = true then (some false) else ((laws_markInt64S.f k x7 1).bind fun bt464 => ((laws_heldInt64S.f k bt464.2 1).bind fun t466 => (if t466 < 0 then (some false) else (if t466 = bt464.1 then ((laws_toWalker.f x443000 x443001 x443002 x443003 x443004 x443005).bind fun bt467 => ((impl_VisitsOf.f k x0 bt467.1 bt467.2.1 bt467.2.2.1 bt467.2.2.2.1 bt467.2.2.2.2.1 bt467.2.2.2.2.2).bind fun bt473 => ((laws_eqInt64S.f k bt473.1 x5).bind fun t477 => (if t477 = true then (laws_FnExactVisitsOf.j1 k bt464.2 bt464.1 (bt473.2 != x6)) else (laws_FnExactVisitsOf.j1 k bt464.2 bt464.1 true))))) else (some false)))))
def laws_FnExactVisitsOf.j1 : Nat → List Int → Int → Bool → Option (Bool)
  | 0, _, _, _ => none
  | k + 1, x7, x9, x62 => if x62 = true then (some false) else ((laws_heldInt64S.f k x7 1).bind fun t478 => (if t478 < 0 then (some false) else (if t478 = x9 then (some true) else (some false))))
end
def laws_FnExactVisitsOf.f (k : Nat) (a0 : Int) (a1_0 : Int) (a1_1 : Int) (a1_2 : Int) (a1_3 : Int) (a1_4 : Int) (a1_5 : Int) : Option (Bool) := (laws_toWalker.f a1_0 a1_1 a1_2 a1_3 a1_4 a1_5).bind fun bt443 => ((spec_VisitsOf.f k a0 bt443.1 bt443.2.1 bt443.2.2.1 bt443.2.2.2.1 bt443.2.2.2.2.1 bt443.2.2.2.2.2).bind fun bt449 => ((laws_toWalker.f a1_0 a1_1 a1_2 a1_3 a1_4 a1_5).bind fun bt453 => ((impl_VisitsOf.f k a0 bt453.1 bt453.2.1 bt453.2.2.1 bt453.2.2.2.1 bt453.2.2.2.2.1 bt453.2.2.2.2.2).bind fun bt459 => ((laws_eqInt64S.f k bt459.1 bt449.1).bind fun t463 => (if t463 = true then (laws_FnExactVisitsOf.j0 k a0 bt449.1 bt449.2 bt459.1 (bt459.2 != bt449.2) a1_0 a1_1 a1_2 a1_3 a1_4 a1_5) else (laws_FnExactVisitsOf.j0 k a0 bt449.1 bt449.2 bt459.1 true a1_0 a1_1 a1_2 a1_3 a1_4 a1_5))))))
theorem laws_FnExactVisitsOf.mono_l : ∀ k, (∀ y0 y1 y2 y3 y4 y5 y6 y7 y8 y9 y10, LeO (laws_FnExactVisitsOf.j0 k y0 y1 y2 y3 y4 y5 y6 y7 y8 y9 y10) (laws_FnExactVisitsOf.j0 (k + 1) y0 y1 y2 y3 y4 y5 y6 y7 y8 y9 y10)) ∧ (∀ y0 y1 y2, LeO (laws_FnExactVisitsOf.j1 k y0 y1 y2) (laws_FnExactVisitsOf.j1 (k + 1) y0 y1 y2))
  | 0 => ⟨fun _ _ _ _ _ _ _ _ _ _ _ r h => by simp [laws_FnExactVisitsOf.j0] at h, fun _ _ _ r h => by simp [laws_FnExactVisitsOf.j1] at h⟩
  | k + 1 => by
    obtain ⟨ih0, ih1⟩ := laws_FnExactVisitsOf.mono_l k
    refine ⟨?_, ?_⟩
    · intro y0 y1 y2 y3 y4 y5 y6 y7 y8 y9 y10
      unfold laws_FnExactVisitsOf.j0
      repeat' first
      | (with_reducible exact ih0 _ _ _ _ _ _ _ _ _ _ _)
      | (with_reducible exact ih1 _ _ _)
      | (with_reducible exact impl_VisitsOf.mono _ _ _ _ _ _ _ _)
      | (with_reducible exact laws_eqInt64S.mono _ _ _)
      | (with_reducible exact laws_heldInt64S.mono _ _ _)
      | (with_reducible exact laws_markInt64S.mono _ _ _)
      | (with_reducible exact spec_VisitsOf.mono _ _ _ _ _ _ _ _)
      | (with_reducible exact LeO.refl _)
      | (with_reducible exact LeO.none _)
      | (with_reducible refine LeO.ite ?_ ?_)
      | (with_reducible refine LeO.bind ?_ (fun _ => ?_))
      | exact ih0 _ _ _ _ _ _ _ _ _ _ _
      | exact ih1 _ _ _
      | exact impl_VisitsOf.mono _ _ _ _ _ _ _ _
      | exact laws_eqInt64S.mono _ _ _
      | exact laws_heldInt64S.mono _ _ _
      | exact laws_markInt64S.mono _ _ _
      | exact spec_VisitsOf.mono _ _ _ _ _ _ _ _
      | exact LeO.none _
      | refine LeO.ite ?_ ?_
      | refine LeO.bind ?_ (fun _ => ?_)
    · intro y0 y1 y2
      unfold laws_FnExactVisitsOf.j1
      repeat' first
      | (with_reducible exact ih0 _ _ _ _ _ _ _ _ _ _ _)
      | (with_reducible exact ih1 _ _ _)
      | (with_reducible exact impl_VisitsOf.mono _ _ _ _ _ _ _ _)
      | (with_reducible exact laws_eqInt64S.mono _ _ _)
      | (with_reducible exact laws_heldInt64S.mono _ _ _)
      | (with_reducible exact laws_markInt64S.mono _ _ _)
      | (with_reducible exact spec_VisitsOf.mono _ _ _ _ _ _ _ _)
      | (with_reducible exact LeO.refl _)
      | (with_reducible exact LeO.none _)
      | (with_reducible refine LeO.ite ?_ ?_)
      | (with_reducible refine LeO.bind ?_ (fun _ => ?_))
      | exact ih0 _ _ _ _ _ _ _ _ _ _ _
      | exact ih1 _ _ _
      | exact impl_VisitsOf.mono _ _ _ _ _ _ _ _
      | exact laws_eqInt64S.mono _ _ _
      | exact laws_heldInt64S.mono _ _ _
      | exact laws_markInt64S.mono _ _ _
      | exact spec_VisitsOf.mono _ _ _ _ _ _ _ _
      | exact LeO.none _
      | refine LeO.ite ?_ ?_
      | refine LeO.bind ?_ (fun _ => ?_)
theorem laws_FnExactVisitsOf.mono : ∀ a0 a1 a2 a3 a4 a5 a6 k, LeO (laws_FnExactVisitsOf.f k a0 a1 a2 a3 a4 a5 a6) (laws_FnExactVisitsOf.f (k + 1) a0 a1 a2 a3 a4 a5 a6) := by
  intro a0 a1 a2 a3 a4 a5 a6 k
  obtain ⟨ih0, ih1⟩ := laws_FnExactVisitsOf.mono_l k
  unfold laws_FnExactVisitsOf.f
  repeat' first
      | (with_reducible exact ih0 _ _ _ _ _ _ _ _ _ _ _)
      | (with_reducible exact ih1 _ _ _)
      | (with_reducible exact impl_VisitsOf.mono _ _ _ _ _ _ _ _)
      | (with_reducible exact laws_eqInt64S.mono _ _ _)
      | (with_reducible exact laws_heldInt64S.mono _ _ _)
      | (with_reducible exact laws_markInt64S.mono _ _ _)
      | (with_reducible exact spec_VisitsOf.mono _ _ _ _ _ _ _ _)
      | (with_reducible exact LeO.refl _)
      | (with_reducible exact LeO.none _)
      | (with_reducible refine LeO.ite ?_ ?_)
      | (with_reducible refine LeO.bind ?_ (fun _ => ?_))
      | exact ih0 _ _ _ _ _ _ _ _ _ _ _
      | exact ih1 _ _ _
      | exact impl_VisitsOf.mono _ _ _ _ _ _ _ _
      | exact laws_eqInt64S.mono _ _ _
      | exact laws_heldInt64S.mono _ _ _
      | exact laws_markInt64S.mono _ _ _
      | exact spec_VisitsOf.mono _ _ _ _ _ _ _ _
      | exact LeO.none _
      | refine LeO.ite ?_ ?_
      | refine LeO.bind ?_ (fun _ => ?_)
set_option maxHeartbeats 8000000 in
set_option maxRecDepth 100000 in
theorem laws_FnExactVisitsOf.calls (k : Nat) (a0 : Int) (a1_0 : Int) (a1_1 : Int) (a1_2 : Int) (a1_3 : Int) (a1_4 : Int) (a1_5 : Int) (r : Bool) (w : World) (h : laws_FnExactVisitsOf.f k a0 a1_0 a1_1 a1_2 a1_3 a1_4 a1_5 = some r) :
    Calls Try.prog 11 #[.int .i64 a0, .agg #[.int .i16 a1_0, .int .i16 a1_1, .int .i16 a1_2, .int .i16 a1_3, .int .i16 a1_4, .int .i8 a1_5]] w fun e w' => e = .returned (.bool r) ∧ Below w.heap.size w w' := by
  have hu37 := Try.underlying37
  have HB := Aside0.mk (Below.refl w.heap.size w)
  have H : ((laws_toWalker.f a1_0 a1_1 a1_2 a1_3 a1_4 a1_5).bind fun bt443 => ((spec_VisitsOf.f k a0 bt443.1 bt443.2.1 bt443.2.2.1 bt443.2.2.2.1 bt443.2.2.2.2.1 bt443.2.2.2.2.2).bind fun bt449 => ((laws_toWalker.f a1_0 a1_1 a1_2 a1_3 a1_4 a1_5).bind fun bt453 => ((impl_VisitsOf.f k a0 bt453.1 bt453.2.1 bt453.2.2.1 bt453.2.2.2.1 bt453.2.2.2.2.1 bt453.2.2.2.2.2).bind fun bt459 => ((laws_eqInt64S.f k bt459.1 bt449.1).bind fun t463 => (if t463 = true then (laws_FnExactVisitsOf.j0 k a0 bt449.1 bt449.2 bt459.1 (bt459.2 != bt449.2) a1_0 a1_1 a1_2 a1_3 a1_4 a1_5) else (laws_FnExactVisitsOf.j0 k a0 bt449.1 bt449.2 bt459.1 true a1_0 a1_1 a1_2 a1_3 a1_4 a1_5))))))) = some r := h
  clear h
  replace H := Option.bind_eq_some_iff.mp H
  obtain ⟨⟨t443, t444, t445, t446, t447, t448⟩, A30, H⟩ := H
  replace H : ((spec_VisitsOf.f k a0 t443 t444 t445 t446 t447 t448).bind fun bt449 => ((laws_toWalker.f a1_0 a1_1 a1_2 a1_3 a1_4 a1_5).bind fun bt453 => ((impl_VisitsOf.f k a0 bt453.1 bt453.2.1 bt453.2.2.1 bt453.2.2.2.1 bt453.2.2.2.2.1 bt453.2.2.2.2.2).bind fun bt459 => ((laws_eqInt64S.f k bt459.1 bt449.1).bind fun t463 => (if t463 = true then (laws_FnExactVisitsOf.j0 k a0 bt449.1 bt449.2 bt459.1 (bt459.2 != bt449.2) a1_0 a1_1 a1_2 a1_3 a1_4 a1_5) else (laws_FnExactVisitsOf.j0 k a0 bt449.1 bt449.2 bt459.1 true a1_0 a1_1 a1_2 a1_3 a1_4 a1_5)))))) = some r := H
  have A3 := Aside0.mk A30
  clear A30
  replace H := Option.bind_eq_some_iff.mp H
  obtain ⟨⟨t449, t452⟩, A40, H⟩ := H
  replace H : ((laws_toWalker.f a1_0 a1_1 a1_2 a1_3 a1_4 a1_5).bind fun bt453 => ((impl_VisitsOf.f k a0 bt453.1 bt453.2.1 bt453.2.2.1 bt453.2.2.2.1 bt453.2.2.2.2.1 bt453.2.2.2.2.2).bind fun bt459 => ((laws_eqInt64S.f k bt459.1 t449).bind fun t463 => (if t463 = true then (laws_FnExactVisitsOf.j0 k a0 t449 t452 bt459.1 (bt459.2 != t452) a1_0 a1_1 a1_2 a1_3 a1_4 a1_5) else (laws_FnExactVisitsOf.j0 k a0 t449 t452 bt459.1 true a1_0 a1_1 a1_2 a1_3 a1_4 a1_5))))) = some r := H
  have A4 := Aside0.mk A40
  clear A40
  replace H := Option.bind_eq_some_iff.mp H
  obtain ⟨⟨t453, t454, t455, t456, t457, t458⟩, A50, H⟩ := H
  replace H : ((impl_VisitsOf.f k a0 t453 t454 t455 t456 t457 t458).bind fun bt459 => ((laws_eqInt64S.f k bt459.1 t449).bind fun t463 => (if t463 = true then (laws_FnExactVisitsOf.j0 k a0 t449 t452 bt459.1 (bt459.2 != t452) a1_0 a1_1 a1_2 a1_3 a1_4 a1_5) else (laws_FnExactVisitsOf.j0 k a0 t449 t452 bt459.1 true a1_0 a1_1 a1_2 a1_3 a1_4 a1_5)))) = some r := H
  have A5 := Aside0.mk A50
  clear A50
  replace H := Option.bind_eq_some_iff.mp H
  obtain ⟨⟨t459, t462⟩, A60, H⟩ := H
  replace H : ((laws_eqInt64S.f k t459 t449).bind fun t463 => (if t463 = true then (laws_FnExactVisitsOf.j0 k a0 t449 t452 t459 (t462 != t452) a1_0 a1_1 a1_2 a1_3 a1_4 a1_5) else (laws_FnExactVisitsOf.j0 k a0 t449 t452 t459 true a1_0 a1_1 a1_2 a1_3 a1_4 a1_5))) = some r := H
  have A6 := Aside0.mk A60
  clear A60
  have HC7 := Aside0.mk H
  clear H
  go_enter Try.func11, Try.ntmps11
  go_upto_region 3 with (first | ((with_reducible refine gate_dst (N := 3) rfl ?_); refine box_event ?hg (N := 3) ?hd (cs := #[.int .i16 a1_0, .int .i16 a1_1, .int .i16 a1_2, .int .i16 a1_3, .int .i16 a1_4, .int .i8 a1_5]) (t := 37) ?hr ?_; (case hd => rfl); (case hg => rfl); (case hr => first | (go_simp; done) | (go_simp; rfl)); intro gb442 hg w8 hbox hb; have n0_ := Aside0.mk (below_step (by repeat (first | (with_reducible first | exact HB.out | apply below_alloc | apply pw_below_drewN | apply below_drew1) | exact HB.out)) hb); have n1_ := Aside0.mk (hbox); have n2_ := Aside0.mk ((by rw [hg]; exact (below_size (by repeat (first | (with_reducible first | exact HB.out | apply below_alloc | apply pw_below_drewN | apply below_drew1) | exact HB.out))) : w.heap.size ≤ gb442)); have n3_ := Aside0.mk ((by rw [hg]; exact (below_size (by repeat (first | (with_reducible first | exact HB.out | apply below_alloc | apply pw_below_drewN | apply below_drew1) | exact HB.out))) : w.heap.size ≤ gb442)); clear HB; have HB := n0_; have BK442 := n1_; have GW442 := n2_; have GE442 := n3_; clear n0_ n1_ n2_ n3_; clear hb hbox hg; have hcz9_0 : w8.cell? ⟨gb442, 0, none⟩ = some (.int .i16 a1_0) := (blk_cell BK442.out 0).trans rfl; have hcz9_1 : w8.cell? ⟨gb442, 1, none⟩ = some (.int .i16 a1_1) := (blk_cell BK442.out 1).trans rfl; have hcz9_2 : w8.cell? ⟨gb442, 2, none⟩ = some (.int .i16 a1_2) := (blk_cell BK442.out 2).trans rfl; have hcz9_3 : w8.cell? ⟨gb442, 3, none⟩ = some (.int .i16 a1_3) := (blk_cell BK442.out 3).trans rfl; have hcz9_4 : w8.cell? ⟨gb442, 4, none⟩ = some (.int .i16 a1_4) := (blk_cell BK442.out 4).trans rfl; have hcz9_5 : w8.cell? ⟨gb442, 5, none⟩ = some (.int .i8 a1_5) := (blk_cell BK442.out 5).trans rfl; have hfz9_0 := blk_frozen BK442.out 0; have hfz9_1 := blk_frozen BK442.out 1; have hfz9_2 := blk_frozen BK442.out 2; have hfz9_3 := blk_frozen BK442.out 3; have hfz9_4 := blk_frozen BK442.out 4; have hfz9_5 := blk_frozen BK442.out 5) | ((with_reducible refine gate_callee (f := 28) rfl ?_); refine goesL_ (some 16) rfl rfl Try.func28 (by kernel_rfl) rfl #[.agg #[.int .i16 a1_0, .int .i16 a1_1, .int .i16 a1_2, .int .i16 a1_3, .int .i16 a1_4, .int .i8 a1_5]] rfl (by (try simp only [List.map_toArray, List.map_cons, List.map_nil]); first | done | rfl | (simp only [List.length_drop, List.length_take]; rfl)) ?_; (with_reducible refine (laws_toWalker.calls a1_0 a1_1 a1_2 a1_3 a1_4 a1_5 t443 t444 t445 t446 t447 t448 _ A3.out).mono ?_); rintro e w10 ⟨rfl, hb⟩; refine ⟨_, rfl, ?_⟩; have n0_ := Aside0.mk (blk_below (g := gb442) (o := .cells #[.int .i16 a1_0, .int .i16 a1_1, .int .i16 a1_2, .int .i16 a1_3, .int .i16 a1_4, .int .i8 a1_5] 37 (0, 0)) (by (with_reducible repeat (first | refine blk_drewN ?_ _ | refine blk_drew ?_ | refine blk_alloc ?_ _)); exact BK442.out) hb); have n1_ := Aside0.mk (below_step (by repeat (first | (with_reducible first | exact HB.out | apply below_alloc | apply pw_below_drewN | apply below_drew1 | refine below_set ?_ GE442.out) | exact HB.out)) hb); clear BK442; clear HB; have BK442 := n0_; have HB := n1_; clear n0_ n1_; (try clear hb); (try clear hb2); (try clear hk); (try clear hi)) | ((with_reducible refine gate_callee (f := 39) rfl ?_); refine goesL_ (some 17) rfl rfl Try.func39 (by kernel_rfl) rfl #[.int .i64 a0, .agg #[.int .i16 t443, .int .i16 t444, .int .i16 t445, .int .i16 t446, .int .i16 t447, .int .i8 t448]] rfl (by (try simp only [List.map_toArray, List.map_cons, List.map_nil]); first | done | rfl | (simp only [List.length_drop, List.length_take]; rfl)) ?_; (with_reducible refine (spec_VisitsOf.calls k a0 t443 t444 t445 t446 t447 t448 t449 t452 _ A4.out).mono ?_); rintro e w11 ⟨v450, rfl, ho0, hb⟩; refine ⟨_, rfl, ?_⟩; have n0_ := Aside0.mk (Kd.R_lower ho0 (below_size (by repeat (first | (with_reducible first | exact HB.out | apply below_alloc | apply pw_below_drewN | apply below_drew1 | refine below_set ?_ GE442.out) | exact HB.out)))); have n1_ := Aside0.mk (blk_below (g := gb442) (o := .cells #[.int .i16 a1_0, .int .i16 a1_1, .int .i16 a1_2, .int .i16 a1_3, .int .i16 a1_4, .int .i8 a1_5] 37 (0, 0)) (by (with_reducible repeat (first | refine blk_drewN ?_ _ | refine blk_drew ?_ | refine blk_alloc ?_ _)); exact BK442.out) hb); have n2_ := Aside0.mk (below_step (by repeat (first | (with_reducible first | exact HB.out | apply below_alloc | apply pw_below_drewN | apply below_drew1 | refine below_set ?_ GE442.out) | exact HB.out)) hb); clear BK442; clear HB; have HO451 := n0_; have BK442 := n1_; have HB := n2_; clear n0_ n1_ n2_; (try clear hb); (try clear hb2); (try clear hk); (try clear hi); (try clear ho0); have hcz12_0 : w11.cell? ⟨gb442, 0, none⟩ = some (.int .i16 a1_0) := (blk_cell BK442.out 0).trans rfl; have hcz12_1 : w11.cell? ⟨gb442, 1, none⟩ = some (.int .i16 a1_1) := (blk_cell BK442.out 1).trans rfl; have hcz12_2 : w11.cell? ⟨gb442, 2, none⟩ = some (.int .i16 a1_2) := (blk_cell BK442.out 2).trans rfl; have hcz12_3 : w11.cell? ⟨gb442, 3, none⟩ = some (.int .i16 a1_3) := (blk_cell BK442.out 3).trans rfl; have hcz12_4 : w11.cell? ⟨gb442, 4, none⟩ = some (.int .i16 a1_4) := (blk_cell BK442.out 4).trans rfl; have hcz12_5 : w11.cell? ⟨gb442, 5, none⟩ = some (.int .i8 a1_5) := (blk_cell BK442.out 5).trans rfl; have hfz12_0 := blk_frozen BK442.out 0; have hfz12_1 := blk_frozen BK442.out 1; have hfz12_2 := blk_frozen BK442.out 2; have hfz12_3 := blk_frozen BK442.out 3; have hfz12_4 := blk_frozen BK442.out 4; have hfz12_5 := blk_frozen BK442.out 5) | ((with_reducible refine gate_callee (f := 28) rfl ?_); refine goesL_ (some 23) rfl rfl Try.func28 (by kernel_rfl) rfl #[.agg #[.int .i16 a1_0, .int .i16 a1_1, .int .i16 a1_2, .int .i16 a1_3, .int .i16 a1_4, .int .i8 a1_5]] rfl (by (try simp only [List.map_toArray, List.map_cons, List.map_nil]); first | done | rfl | (simp only [List.length_drop, List.length_take]; rfl)) ?_; (with_reducible refine (laws_toWalker.calls a1_0 a1_1 a1_2 a1_3 a1_4 a1_5 t453 t454 t455 t456 t457 t458 _ A5.out).mono ?_); rintro e w13 ⟨rfl, hb⟩; refine ⟨_, rfl, ?_⟩; have n0_ := Aside0.mk (Kd.R_below (by (with_reducible repeat (first | apply Kd.R_alloc | apply Kd.R_drewN | apply Kd.R_drew)); exact HO451.out) hb); have n1_ := Aside0.mk (blk_below (g := gb442) (o := .cells #[.int .i16 a1_0, .int .i16 a1_1, .int .i16 a1_2, .int .i16 a1_3, .int .i16 a1_4, .int .i8 a1_5] 37 (0, 0)) (by (with_reducible repeat (first | refine blk_drewN ?_ _ | refine blk_drew ?_ | refine blk_alloc ?_ _)); exact BK442.out) hb); have n2_ := Aside0.mk (below_step (by repeat (first | (with_reducible first | exact HB.out | apply below_alloc | apply pw_below_drewN | apply below_drew1 | refine below_set ?_ GE442.out) | exact HB.out)) hb); clear HO451; clear BK442; clear HB; have HO451 := n0_; have BK442 := n1_; have HB := n2_; clear n0_ n1_ n2_; (try clear hb); (try clear hb2); (try clear hk); (try clear hi)) | ((with_reducible refine gate_callee (f := 40) rfl ?_); refine goesL_ (some 24) rfl rfl Try.func40 (by kernel_rfl) rfl #[.int .i64 a0, .agg #[.int .i16 t453, .int .i16 t454, .int .i16 t455, .int .i16 t456, .int .i16 t457, .int .i8 t458]] rfl (by (try simp only [List.map_toArray, List.map_cons, List.map_nil]); first | done | rfl | (simp only [List.length_drop, List.length_take]; rfl)) ?_; (with_reducible refine (impl_VisitsOf.calls k a0 t453 t454 t455 t456 t457 t458 t459 t462 _ A6.out).mono ?_); rintro e w14 ⟨v460, rfl, ho0, hb⟩; refine ⟨_, rfl, ?_⟩; have n0_ := Aside0.mk (Kd.R_elder' (by (with_reducible repeat (first | apply Kd.R_alloc | apply Kd.R_drewN | apply Kd.R_drew)); exact HO451.out) (Kd.R_base ho0) hb); have n1_ := Aside0.mk (Kd.R_lower (Kd.R_new' ho0 (Kd.R_lt (by (with_reducible repeat (first | apply Kd.R_alloc | apply Kd.R_drewN | apply Kd.R_drew)); exact HO451.out))) (below_size (by repeat (first | (with_reducible first | exact HB.out | apply below_alloc | apply pw_below_drewN | apply below_drew1 | refine below_set ?_ GE442.out) | exact HB.out)))); have n2_ := Aside0.mk (blk_below (g := gb442) (o := .cells #[.int .i16 a1_0, .int .i16 a1_1, .int .i16 a1_2, .int .i16 a1_3, .int .i16 a1_4, .int .i8 a1_5] 37 (0, 0)) (by (with_reducible repeat (first | refine blk_drewN ?_ _ | refine blk_drew ?_ | refine blk_alloc ?_ _)); exact BK442.out) hb); have n3_ := Aside0.mk (below_step (by repeat (first | (with_reducible first | exact HB.out | apply below_alloc | apply pw_below_drewN | apply below_drew1 | refine below_set ?_ GE442.out) | exact HB.out)) hb); clear HO451; clear BK442; clear HB; have HO451 := n0_; have HO461 := n1_; have BK442 := n2_; have HB := n3_; clear n0_ n1_ n2_ n3_; (try clear hb); (try clear hb2); (try clear hk); (try clear hi); (try clear ho0)))
  (try simp only [Act.put, List.setIfInBounds_toArray, List.set_cons_zero, List.set_cons_succ])
  go_cut [35] (fun v35 wc => ∃ (kq : Nat) (x35_6 : Bool), v35 = .bool x35_6 ∧ Aside0 (laws_FnExactVisitsOf.j0 kq a0 t449 t452 t459 x35_6 a1_0 a1_1 a1_2 a1_3 a1_4 a1_5 = some r) ∧ Aside0 (kq ≤ k) ∧ Aside0 (Kd.R (Kd.int .i64) 2 wc w.heap.size (fun k_ => some k_ ≠ (v460 : Value).ownBlock) v450 t449) ∧ Aside0 (Kd.R (Kd.int .i64) 2 wc w.heap.size (fun k_ => some k_ ≠ (v450 : Value).ownBlock) v460 t459) ∧ Aside0 (wc.heap[gb442]? = some (.cells #[.int .i16 a1_0, .int .i16 a1_1, .int .i16 a1_2, .int .i16 a1_3, .int .i16 a1_4, .int .i8 a1_5] 37 (0, 0))) ∧ Aside0 (Below w.heap.size w wc))
  case first =>
    have H := HC7.out
    clear HC7
    replace H := Option.bind_eq_some_iff.mp H
    obtain ⟨t463, A150, H⟩ := H
    replace H : (if t463 = true then (laws_FnExactVisitsOf.j0 k a0 t449 t452 t459 (t462 != t452) a1_0 a1_1 a1_2 a1_3 a1_4 a1_5) else (laws_FnExactVisitsOf.j0 k a0 t449 t452 t459 true a1_0 a1_1 a1_2 a1_3 a1_4 a1_5)) = some r := H
    have A15 := Aside0.mk A150
    clear A150
    by_cases c16 : t463 = true
    · subst c16
      have H1 : (laws_FnExactVisitsOf.j0 k a0 t449 t452 t459 (t462 != t452) a1_0 a1_1 a1_2 a1_3 a1_4 a1_5) = some r := by rw [if_pos rfl] at H; exact H
      clear H
      have H := H1
      clear H1
      have H' := Aside0.mk H
      clear H
      obtain ⟨Ao17, co17, eo17⟩ := Kd.R_slice HO461.out
      subst eo17
      obtain ⟨Ao18, co18, eo18⟩ := Kd.R_slice HO451.out
      subst eo18
      go_wp2_with (first | ((with_reducible refine gate_callee (f := 41) rfl ?_); refine goesL_ (some 29) rfl rfl Try.func41 (by kernel_rfl) rfl #[.slice Ao17 t459.length co17, .slice Ao18 t449.length co18] rfl (by (try simp only [List.map_toArray, List.map_cons, List.map_nil]); first | done | rfl | (simp only [List.length_drop, List.length_take]; rfl)) ?_; (with_reducible refine (laws_eqInt64S.calls k _ _ t459 _ _ t449 true _ ?side1 ?side2 ?side3 ?side4 A15.out).mono ?_); (case side1 => repeat (first | exact (Kd.R_reads' HO461.out).2.2 | (with_reducible refine Kd.C_alloc ?_ _) | (with_reducible refine Kd.C_drewN ?_ _) | (with_reducible refine Kd.C_drew ?_))); (case side2 => exact (Kd.R_reads' HO461.out).2.1); (case side3 => repeat (first | exact (Kd.R_reads' HO451.out).2.2 | (with_reducible refine Kd.C_alloc ?_ _) | (with_reducible refine Kd.C_drewN ?_ _) | (with_reducible refine Kd.C_drew ?_))); (case side4 => exact (Kd.R_reads' HO451.out).2.1); rintro e w' ⟨rfl, ⟨nd, rfl⟩⟩; refine ⟨_, rfl, ?_⟩))
      go_meet
      case rel => exact ⟨_, ((t462 != t452)), (by first | rfl | (simp; done) | (simp [*]; done)), H', ⟨by first | omega | exact Nat.le_refl _⟩, ⟨by (with_reducible repeat (first | apply Kd.R_alloc | apply Kd.R_drewN | apply Kd.R_drew)); exact Kd.R_mono HO451.out (fun _ hk => hk.2)⟩, ⟨by (with_reducible repeat (first | apply Kd.R_alloc | apply Kd.R_drewN | apply Kd.R_drew)); exact Kd.R_mono HO461.out (fun _ hk => hk.2)⟩, ⟨by (with_reducible repeat (first | refine blk_drewN ?_ _ | refine blk_drew ?_ | refine blk_alloc ?_ _)); exact BK442.out⟩, ⟨by repeat (first | (with_reducible first | exact HB.out | apply below_alloc | apply pw_below_drewN | apply below_drew1 | refine below_set ?_ GE442.out) | exact HB.out)⟩⟩
    · replace c16 := Bool.eq_false_iff.mpr c16
      subst c16
      have H1 : (laws_FnExactVisitsOf.j0 k a0 t449 t452 t459 true a1_0 a1_1 a1_2 a1_3 a1_4 a1_5) = some r := by rw [if_neg (show ¬ (false = true) by decide)] at H; exact H
      clear H
      have H := H1
      clear H1
      have H' := Aside0.mk H
      clear H
      obtain ⟨Ao19, co19, eo19⟩ := Kd.R_slice HO461.out
      subst eo19
      obtain ⟨Ao20, co20, eo20⟩ := Kd.R_slice HO451.out
      subst eo20
      go_wp2_with (first | ((with_reducible refine gate_callee (f := 41) rfl ?_); refine goesL_ (some 29) rfl rfl Try.func41 (by kernel_rfl) rfl #[.slice Ao19 t459.length co19, .slice Ao20 t449.length co20] rfl (by (try simp only [List.map_toArray, List.map_cons, List.map_nil]); first | done | rfl | (simp only [List.length_drop, List.length_take]; rfl)) ?_; (with_reducible refine (laws_eqInt64S.calls k _ _ t459 _ _ t449 false _ ?side1 ?side2 ?side3 ?side4 A15.out).mono ?_); (case side1 => repeat (first | exact (Kd.R_reads' HO461.out).2.2 | (with_reducible refine Kd.C_alloc ?_ _) | (with_reducible refine Kd.C_drewN ?_ _) | (with_reducible refine Kd.C_drew ?_))); (case side2 => exact (Kd.R_reads' HO461.out).2.1); (case side3 => repeat (first | exact (Kd.R_reads' HO451.out).2.2 | (with_reducible refine Kd.C_alloc ?_ _) | (with_reducible refine Kd.C_drewN ?_ _) | (with_reducible refine Kd.C_drew ?_))); (case side4 => exact (Kd.R_reads' HO451.out).2.1); rintro e w' ⟨rfl, ⟨nd, rfl⟩⟩; refine ⟨_, rfl, ?_⟩))
      go_meet
      case rel => exact ⟨_, (true), (by first | rfl | (simp; done) | (simp [*]; done)), H', ⟨by first | omega | exact Nat.le_refl _⟩, ⟨by (with_reducible repeat (first | apply Kd.R_alloc | apply Kd.R_drewN | apply Kd.R_drew)); exact Kd.R_mono HO451.out (fun _ hk => hk.2)⟩, ⟨by (with_reducible repeat (first | apply Kd.R_alloc | apply Kd.R_drewN | apply Kd.R_drew)); exact Kd.R_mono HO461.out (fun _ hk => hk.2)⟩, ⟨by (with_reducible repeat (first | refine blk_drewN ?_ _ | refine blk_drew ?_ | refine blk_alloc ?_ _)); exact BK442.out⟩, ⟨by repeat (first | (with_reducible first | exact HB.out | apply below_alloc | apply pw_below_drewN | apply below_drew1 | refine below_set ?_ GE442.out) | exact HB.out)⟩⟩
  case rest =>
    clear HC7
    try clear c1
    try clear c2
    try clear p2
    try clear c3
    try clear c4
    try clear c11
    try clear c16
    try clear hcz12_0
    try clear hcz12_1
    try clear hcz12_2
    try clear hcz12_3
    try clear hcz12_4
    try clear hcz12_5
    try clear hcz9_0
    try clear hcz9_1
    try clear hcz9_2
    try clear hcz9_3
    try clear hcz9_4
    try clear hcz9_5
    try clear hfz12_0
    try clear hfz12_1
    try clear hfz12_2
    try clear hfz12_3
    try clear hfz12_4
    try clear hfz12_5
    try clear hfz9_0
    try clear hfz9_1
    try clear hfz9_2
    try clear hfz9_3
    try clear hfz9_4
    try clear hfz9_5
    obtain ⟨kq, x35_6, rfl, HA, HJ6, HO_5, HO_7, BK442, HB⟩ := hcut
    cases kq with
    | zero => exact absurd HA.out (by simp [laws_FnExactVisitsOf.j0])
    | succ kj6 =>
      have H := HA.out
      clear HA
      simp only [laws_FnExactVisitsOf.j0] at H
      by_cases c21 : x35_6 = true
      · subst c21
        have H1 : (some false) = some r := by rw [if_pos rfl] at H; exact H
        clear H
        have H := H1
        clear H1
        obtain rfl := Option.some.inj H
        go_wp2
        go_ret
        exact ⟨by first | rfl | (simp [errW_none, errW_some] <;> rfl) | (simp [*, errW_none, errW_some] <;> rfl), by repeat (first | (with_reducible first | exact HB.out | apply below_alloc | apply pw_below_drewN | apply below_drew1 | refine below_set ?_ GE442.out) | exact HB.out)⟩
      · replace c21 := Bool.eq_false_iff.mpr c21
        subst c21
        have H1 : ((laws_markInt64S.f kj6 t459 1).bind fun bt464 => ((laws_heldInt64S.f kj6 bt464.2 1).bind fun t466 => (if t466 < 0 then (some false) else (if t466 = bt464.1 then ((laws_toWalker.f a1_0 a1_1 a1_2 a1_3 a1_4 a1_5).bind fun bt467 => ((impl_VisitsOf.f kj6 a0 bt467.1 bt467.2.1 bt467.2.2.1 bt467.2.2.2.1 bt467.2.2.2.2.1 bt467.2.2.2.2.2).bind fun bt473 => ((laws_eqInt64S.f kj6 bt473.1 t449).bind fun t477 => (if t477 = true then (laws_FnExactVisitsOf.j1 kj6 bt464.2 bt464.1 (bt473.2 != t452)) else (laws_FnExactVisitsOf.j1 kj6 bt464.2 bt464.1 true))))) else (some false))))) = some r := by rw [if_neg (show ¬ (false = true) by decide)] at H; exact H
        clear H
        have H := H1
        clear H1
        replace H := Option.bind_eq_some_iff.mp H
        obtain ⟨⟨t464, t465⟩, A220, H⟩ := H
        replace H : ((laws_heldInt64S.f kj6 t465 1).bind fun t466 => (if t466 < 0 then (some false) else (if t466 = t464 then ((laws_toWalker.f a1_0 a1_1 a1_2 a1_3 a1_4 a1_5).bind fun bt467 => ((impl_VisitsOf.f kj6 a0 bt467.1 bt467.2.1 bt467.2.2.1 bt467.2.2.2.1 bt467.2.2.2.2.1 bt467.2.2.2.2.2).bind fun bt473 => ((laws_eqInt64S.f kj6 bt473.1 t449).bind fun t477 => (if t477 = true then (laws_FnExactVisitsOf.j1 kj6 t465 t464 (bt473.2 != t452)) else (laws_FnExactVisitsOf.j1 kj6 t465 t464 true))))) else (some false)))) = some r := H
        have A22 := Aside0.mk A220
        clear A220
        replace H := Option.bind_eq_some_iff.mp H
        obtain ⟨t466, A230, H⟩ := H
        replace H : (if t466 < 0 then (some false) else (if t466 = t464 then ((laws_toWalker.f a1_0 a1_1 a1_2 a1_3 a1_4 a1_5).bind fun bt467 => ((impl_VisitsOf.f kj6 a0 bt467.1 bt467.2.1 bt467.2.2.1 bt467.2.2.2.1 bt467.2.2.2.2.1 bt467.2.2.2.2.2).bind fun bt473 => ((laws_eqInt64S.f kj6 bt473.1 t449).bind fun t477 => (if t477 = true then (laws_FnExactVisitsOf.j1 kj6 t465 t464 (bt473.2 != t452)) else (laws_FnExactVisitsOf.j1 kj6 t465 t464 true))))) else (some false))) = some r := H
        have A23 := Aside0.mk A230
        clear A230
        by_cases c24 : t466 < 0
        · rw [if_pos c24] at H
          have c24b0 : decide (t466 < 0) = true := decide_eq_true c24
          clear c24
          obtain rfl := Option.some.inj H
          obtain ⟨Ao25, co25, eo25⟩ := Kd.R_slice HO_7.out
          subst eo25
          go_wp2_with (first | ((with_reducible refine gate_callee (f := 42) rfl ?_); refine goesL_ (some 38) rfl rfl Try.func42 (by kernel_rfl) rfl #[.slice Ao25 t459.length co25, .int .i64 1] rfl (by (try simp only [List.map_toArray, List.map_cons, List.map_nil]); first | done | rfl | (simp only [List.length_drop, List.length_take]; rfl)) ?_; (with_reducible refine (laws_markInt64S.calls kj6 (fun k_ => some k_ = (.slice Ao25 t459.length co25 : Value).ownBlock) (.slice Ao25 t459.length co25) t459 1 t464 t465 w _ ?side1 ?side2 A22.out).mono ?_); (case side1 => repeat (first | (with_reducible first | exact HB.out | apply below_alloc | apply pw_below_drewN | apply below_drew1 | refine below_set ?_ GE442.out) | exact HB.out)); (case side2 => exact Kd.R_tight rfl HO_7.out); rintro e w26 ⟨rfl, hy0, hb, hkp⟩; refine ⟨_, rfl, ?_⟩; have n0_ := Aside0.mk (Kd.R_mono (ok' := fun k_ => some k_ ≠ (.slice Ao25 t459.length co25 : Value).ownBlock) (Kd.R_keptB (HO_5.out) hkp (fun k_ hk_ hs_ => (hk_) hs_)) (fun k_ hk_ => hk_.1)); have n1_ := Aside0.mk (Kd.R_reok rfl hy0 (fun k_ e_ => HO_7.out.1 k_ e_)); have n2_ := Aside0.mk (blk_kept (by (with_reducible repeat (first | refine blk_drewN ?_ _ | refine blk_drew ?_ | refine blk_alloc ?_ _)); exact BK442.out) hkp (fun hs_ => (fun e_ => (Kd.R_ne HO_7.out BK442.out (by decide)) e_) hs_)); have n3_ := Aside0.mk (hb); clear HO_5; clear HO_7; clear BK442; clear HB; have HO_5 := n0_; have HO_7 := n1_; have BK442 := n2_; have HB := n3_; clear n0_ n1_ n2_ n3_; (try clear hb); (try clear hkp); (try clear hy0)) | ((with_reducible refine gate_callee (f := 43) rfl ?_); refine goesL_ (some 41) rfl rfl Try.func43 (by kernel_rfl) rfl #[.slice Ao25 t465.length co25, .int .i64 1] rfl (by (try simp only [List.map_toArray, List.map_cons, List.map_nil]); first | done | (rw [show t465.length = t459.length from (Kd.R_reads' HO_7.out).1.symm] <;> rfl) | rfl | (simp only [List.length_drop, List.length_take]; rfl)) ?_; (with_reducible refine (laws_heldInt64S.calls kj6 _ _ t465 1 t466 _ ?side1 ?side2 A23.out).mono ?_); (case side1 => repeat (first | exact (Kd.R_reads' HO_7.out).2.2 | (with_reducible refine Kd.C_alloc ?_ _) | (with_reducible refine Kd.C_drewN ?_ _) | (with_reducible refine Kd.C_drew ?_))); (case side2 => rw [show t465.length = t459.length from (Kd.R_reads' HO_7.out).1.symm]; exact (Kd.R_reads' HO_7.out).2.1); rintro e w' ⟨rfl, ⟨nd, rfl⟩⟩; refine ⟨_, rfl, ?_⟩))
          go_ret
          exact ⟨by first | rfl | (simp [errW_none, errW_some] <;> rfl) | (simp [*, errW_none, errW_some] <;> rfl), by repeat (first | (with_reducible first | exact HB.out | apply below_alloc | apply pw_below_drewN | apply below_drew1 | refine below_set ?_ GE442.out) | exact HB.out)⟩
        · rw [if_neg c24] at H
          have c24b0 : decide (t466 < 0) = false := decide_eq_false c24
          clear c24
          by_cases c27 : t466 = t464
          · rw [if_pos c27] at H
            have c27b0 : (t466 == t464) = true := beq_iff_eq.mpr c27
            have c27b1 : (t466 != t464) = false := bne_eq_false_iff_eq.mpr c27
            clear c27
            replace H := Option.bind_eq_some_iff.mp H
            obtain ⟨⟨t467, t468, t469, t470, t471, t472⟩, A280, H⟩ := H
            replace H : ((impl_VisitsOf.f kj6 a0 t467 t468 t469 t470 t471 t472).bind fun bt473 => ((laws_eqInt64S.f kj6 bt473.1 t449).bind fun t477 => (if t477 = true then (laws_FnExactVisitsOf.j1 kj6 t465 t464 (bt473.2 != t452)) else (laws_FnExactVisitsOf.j1 kj6 t465 t464 true)))) = some r := H
            have A28 := Aside0.mk A280
            clear A280
            replace H := Option.bind_eq_some_iff.mp H
            obtain ⟨⟨t473, t476⟩, A290, H⟩ := H
            replace H : ((laws_eqInt64S.f kj6 t473 t449).bind fun t477 => (if t477 = true then (laws_FnExactVisitsOf.j1 kj6 t465 t464 (t476 != t452)) else (laws_FnExactVisitsOf.j1 kj6 t465 t464 true))) = some r := H
            have A29 := Aside0.mk A290
            clear A290
            have HC30 := Aside0.mk H
            clear H
            obtain ⟨Ao31, co31, eo31⟩ := Kd.R_slice HO_7.out
            subst eo31
            go_upto_region 14 with (first | ((with_reducible refine gate_callee (f := 42) rfl ?_); refine goesL_ (some 38) rfl rfl Try.func42 (by kernel_rfl) rfl #[.slice Ao31 t459.length co31, .int .i64 1] rfl (by (try simp only [List.map_toArray, List.map_cons, List.map_nil]); first | done | rfl | (simp only [List.length_drop, List.length_take]; rfl)) ?_; (with_reducible refine (laws_markInt64S.calls kj6 (fun k_ => some k_ = (.slice Ao31 t459.length co31 : Value).ownBlock) (.slice Ao31 t459.length co31) t459 1 t464 t465 w _ ?side1 ?side2 A22.out).mono ?_); (case side1 => repeat (first | (with_reducible first | exact HB.out | apply below_alloc | apply pw_below_drewN | apply below_drew1 | refine below_set ?_ GE442.out) | exact HB.out)); (case side2 => exact Kd.R_tight rfl HO_7.out); rintro e w32 ⟨rfl, hy0, hb, hkp⟩; refine ⟨_, rfl, ?_⟩; have n0_ := Aside0.mk (Kd.R_mono (ok' := fun k_ => some k_ ≠ (.slice Ao31 t459.length co31 : Value).ownBlock) (Kd.R_keptB (HO_5.out) hkp (fun k_ hk_ hs_ => (hk_) hs_)) (fun k_ hk_ => hk_.1)); have n1_ := Aside0.mk (Kd.R_reok rfl hy0 (fun k_ e_ => HO_7.out.1 k_ e_)); have n2_ := Aside0.mk (blk_kept (by (with_reducible repeat (first | refine blk_drewN ?_ _ | refine blk_drew ?_ | refine blk_alloc ?_ _)); exact BK442.out) hkp (fun hs_ => (fun e_ => (Kd.R_ne HO_7.out BK442.out (by decide)) e_) hs_)); have n3_ := Aside0.mk (hb); clear HO_5; clear HO_7; clear BK442; clear HB; have HO_5 := n0_; have HO_7 := n1_; have BK442 := n2_; have HB := n3_; clear n0_ n1_ n2_ n3_; (try clear hb); (try clear hkp); (try clear hy0)) | ((with_reducible refine gate_callee (f := 43) rfl ?_); refine goesL_ (some 41) rfl rfl Try.func43 (by kernel_rfl) rfl #[.slice Ao31 t465.length co31, .int .i64 1] rfl (by (try simp only [List.map_toArray, List.map_cons, List.map_nil]); first | done | (rw [show t465.length = t459.length from (Kd.R_reads' HO_7.out).1.symm] <;> rfl) | rfl | (simp only [List.length_drop, List.length_take]; rfl)) ?_; (with_reducible refine (laws_heldInt64S.calls kj6 _ _ t465 1 t466 _ ?side1 ?side2 A23.out).mono ?_); (case side1 => repeat (first | exact (Kd.R_reads' HO_7.out).2.2 | (with_reducible refine Kd.C_alloc ?_ _) | (with_reducible refine Kd.C_drewN ?_ _) | (with_reducible refine Kd.C_drew ?_))); (case side2 => rw [show t465.length = t459.length from (Kd.R_reads' HO_7.out).1.symm]; exact (Kd.R_reads' HO_7.out).2.1); rintro e w' ⟨rfl, ⟨nd, rfl⟩⟩; refine ⟨_, rfl, ?_⟩; have hcz33_0 : w32.cell? ⟨gb442, 0, none⟩ = some (.int .i16 a1_0) := (blk_cell BK442.out 0).trans rfl; have hcz33_1 : w32.cell? ⟨gb442, 1, none⟩ = some (.int .i16 a1_1) := (blk_cell BK442.out 1).trans rfl; have hcz33_2 : w32.cell? ⟨gb442, 2, none⟩ = some (.int .i16 a1_2) := (blk_cell BK442.out 2).trans rfl; have hcz33_3 : w32.cell? ⟨gb442, 3, none⟩ = some (.int .i16 a1_3) := (blk_cell BK442.out 3).trans rfl; have hcz33_4 : w32.cell? ⟨gb442, 4, none⟩ = some (.int .i16 a1_4) := (blk_cell BK442.out 4).trans rfl; have hcz33_5 : w32.cell? ⟨gb442, 5, none⟩ = some (.int .i8 a1_5) := (blk_cell BK442.out 5).trans rfl; have hfz33_0 := blk_frozen BK442.out 0; have hfz33_1 := blk_frozen BK442.out 1; have hfz33_2 := blk_frozen BK442.out 2; have hfz33_3 := blk_frozen BK442.out 3; have hfz33_4 := blk_frozen BK442.out 4; have hfz33_5 := blk_frozen BK442.out 5) | ((with_reducible refine gate_callee (f := 28) rfl ?_); refine goesL_ (some 50) rfl rfl Try.func28 (by kernel_rfl) rfl #[.agg #[.int .i16 a1_0, .int .i16 a1_1, .int .i16 a1_2, .int .i16 a1_3, .int .i16 a1_4, .int .i8 a1_5]] rfl (by (try simp only [List.map_toArray, List.map_cons, List.map_nil]); first | done | rfl | (simp only [List.length_drop, List.length_take]; rfl)) ?_; (with_reducible refine (laws_toWalker.calls a1_0 a1_1 a1_2 a1_3 a1_4 a1_5 t467 t468 t469 t470 t471 t472 _ A28.out).mono ?_); rintro e w34 ⟨rfl, hb⟩; refine ⟨_, rfl, ?_⟩; have n0_ := Aside0.mk (Kd.R_below (by (with_reducible repeat (first | apply Kd.R_alloc | apply Kd.R_drewN | apply Kd.R_drew)); exact HO_5.out) hb); have n1_ := Aside0.mk (Kd.R_below (by (with_reducible repeat (first | apply Kd.R_alloc | apply Kd.R_drewN | apply Kd.R_drew)); exact HO_7.out) hb); have n2_ := Aside0.mk (blk_below (g := gb442) (o := .cells #[.int .i16 a1_0, .int .i16 a1_1, .int .i16 a1_2, .int .i16 a1_3, .int .i16 a1_4, .int .i8 a1_5] 37 (0, 0)) (by (with_reducible repeat (first | refine blk_drewN ?_ _ | refine blk_drew ?_ | refine blk_alloc ?_ _)); exact BK442.out) hb); have n3_ := Aside0.mk (below_step (by repeat (first | (with_reducible first | exact HB.out | apply below_alloc | apply pw_below_drewN | apply below_drew1 | refine below_set ?_ GE442.out) | exact HB.out)) hb); clear HO_5; clear HO_7; clear BK442; clear HB; have HO_5 := n0_; have HO_7 := n1_; have BK442 := n2_; have HB := n3_; clear n0_ n1_ n2_ n3_; (try clear hb); (try clear hb2); (try clear hk); (try clear hi)) | ((with_reducible refine gate_callee (f := 40) rfl ?_); refine goesL_ (some 51) rfl rfl Try.func40 (by kernel_rfl) rfl #[.int .i64 a0, .agg #[.int .i16 t467, .int .i16 t468, .int .i16 t469, .int .i16 t470, .int .i16 t471, .int .i8 t472]] rfl (by (try simp only [List.map_toArray, List.map_cons, List.map_nil]); first | done | rfl | (simp only [List.length_drop, List.length_take]; rfl)) ?_; (with_reducible refine (impl_VisitsOf.calls kj6 a0 t467 t468 t469 t470 t471 t472 t473 t476 _ A29.out).mono ?_); rintro e w35 ⟨v474, rfl, ho0, hb⟩; refine ⟨_, rfl, ?_⟩; have n0_ := Aside0.mk (Kd.R_elder' (by (with_reducible repeat (first | apply Kd.R_alloc | apply Kd.R_drewN | apply Kd.R_drew)); exact HO_5.out) (Kd.R_base ho0) hb); have n1_ := Aside0.mk (Kd.R_elder' (by (with_reducible repeat (first | apply Kd.R_alloc | apply Kd.R_drewN | apply Kd.R_drew)); exact HO_7.out) (Kd.R_base ho0) hb); have n2_ := Aside0.mk (Kd.R_lower (Kd.R_new' (Kd.R_new' ho0 (Kd.R_lt (by (with_reducible repeat (first | apply Kd.R_alloc | apply Kd.R_drewN | apply Kd.R_drew)); exact HO_5.out))) (Kd.R_lt (by (with_reducible repeat (first | apply Kd.R_alloc | apply Kd.R_drewN | apply Kd.R_drew)); exact HO_7.out))) (below_size (by repeat (first | (with_reducible first | exact HB.out | apply below_alloc | apply pw_below_drewN | apply below_drew1 | refine below_set ?_ GE442.out) | exact HB.out)))); have n3_ := Aside0.mk (blk_below (g := gb442) (o := .cells #[.int .i16 a1_0, .int .i16 a1_1, .int .i16 a1_2, .int .i16 a1_3, .int .i16 a1_4, .int .i8 a1_5] 37 (0, 0)) (by (with_reducible repeat (first | refine blk_drewN ?_ _ | refine blk_drew ?_ | refine blk_alloc ?_ _)); exact BK442.out) hb); have n4_ := Aside0.mk (below_step (by repeat (first | (with_reducible first | exact HB.out | apply below_alloc | apply pw_below_drewN | apply below_drew1 | refine below_set ?_ GE442.out) | exact HB.out)) hb); clear HO_5; clear HO_7; clear BK442; clear HB; have HO_5 := n0_; have HO_7 := n1_; have HO475 := n2_; have BK442 := n3_; have HB := n4_; clear n0_ n1_ n2_ n3_ n4_; (try clear hb); (try clear hb2); (try clear hk); (try clear hi); (try clear ho0)))
            (try simp only [Act.put, List.setIfInBounds_toArray, List.set_cons_zero, List.set_cons_succ])
            go_cut [62] (fun v62 wc => ∃ (kq : Nat) (x62_29 : Bool), v62 = .bool x62_29 ∧ Aside0 (laws_FnExactVisitsOf.j1 kq t465 t464 x62_29 = some r) ∧ Aside0 (kq ≤ kj6) ∧ Aside0 (Kd.R (Kd.int .i64) 2 wc w.heap.size (fun _ => True) (.slice Ao31 t459.length co31) t465) ∧ Aside0 (wc.heap[gb442]? = some (.cells #[.int .i16 a1_0, .int .i16 a1_1, .int .i16 a1_2, .int .i16 a1_3, .int .i16 a1_4, .int .i8 a1_5] 37 (0, 0))) ∧ Aside0 (Below w.heap.size w wc))
            case first =>
              have H := HC30.out
              clear HC30
              replace H := Option.bind_eq_some_iff.mp H
              obtain ⟨t477, A360, H⟩ := H
              replace H : (if t477 = true then (laws_FnExactVisitsOf.j1 kj6 t465 t464 (t476 != t452)) else (laws_FnExactVisitsOf.j1 kj6 t465 t464 true)) = some r := H
              have A36 := Aside0.mk A360
              clear A360
              by_cases c37 : t477 = true
              · subst c37
                have H1 : (laws_FnExactVisitsOf.j1 kj6 t465 t464 (t476 != t452)) = some r := by rw [if_pos rfl] at H; exact H
                clear H
                have H := H1
                clear H1
                have H' := Aside0.mk H
                clear H
                obtain ⟨Ao38, co38, eo38⟩ := Kd.R_slice HO475.out
                subst eo38
                obtain ⟨Ao39, co39, eo39⟩ := Kd.R_slice HO_5.out
                subst eo39
                go_wp2_with (first | ((with_reducible refine gate_callee (f := 41) rfl ?_); refine goesL_ (some 56) rfl rfl Try.func41 (by kernel_rfl) rfl #[.slice Ao38 t473.length co38, .slice Ao39 t449.length co39] rfl (by (try simp only [List.map_toArray, List.map_cons, List.map_nil]); first | done | rfl | (simp only [List.length_drop, List.length_take]; rfl)) ?_; (with_reducible refine (laws_eqInt64S.calls kj6 _ _ t473 _ _ t449 true _ ?side1 ?side2 ?side3 ?side4 A36.out).mono ?_); (case side1 => repeat (first | exact (Kd.R_reads' HO475.out).2.2 | (with_reducible refine Kd.C_alloc ?_ _) | (with_reducible refine Kd.C_drewN ?_ _) | (with_reducible refine Kd.C_drew ?_))); (case side2 => exact (Kd.R_reads' HO475.out).2.1); (case side3 => repeat (first | exact (Kd.R_reads' HO_5.out).2.2 | (with_reducible refine Kd.C_alloc ?_ _) | (with_reducible refine Kd.C_drewN ?_ _) | (with_reducible refine Kd.C_drew ?_))); (case side4 => exact (Kd.R_reads' HO_5.out).2.1); rintro e w' ⟨rfl, ⟨nd, rfl⟩⟩; refine ⟨_, rfl, ?_⟩))
                go_meet
                case rel => exact ⟨_, ((t476 != t452)), (by first | rfl | (simp; done) | (simp [*]; done)), H', ⟨by have := HJ6.out; first | omega | exact Nat.le_refl _⟩, ⟨by (with_reducible repeat (first | apply Kd.R_alloc | apply Kd.R_drewN | apply Kd.R_drew)); exact Kd.R_mono HO_7.out (fun _ hk => trivial)⟩, ⟨by (with_reducible repeat (first | refine blk_drewN ?_ _ | refine blk_drew ?_ | refine blk_alloc ?_ _)); exact BK442.out⟩, ⟨by repeat (first | (with_reducible first | exact HB.out | apply below_alloc | apply pw_below_drewN | apply below_drew1 | refine below_set ?_ GE442.out) | exact HB.out)⟩⟩
              · replace c37 := Bool.eq_false_iff.mpr c37
                subst c37
                have H1 : (laws_FnExactVisitsOf.j1 kj6 t465 t464 true) = some r := by rw [if_neg (show ¬ (false = true) by decide)] at H; exact H
                clear H
                have H := H1
                clear H1
                have H' := Aside0.mk H
                clear H
                obtain ⟨Ao40, co40, eo40⟩ := Kd.R_slice HO475.out
                subst eo40
                obtain ⟨Ao41, co41, eo41⟩ := Kd.R_slice HO_5.out
                subst eo41
                go_wp2_with (first | ((with_reducible refine gate_callee (f := 41) rfl ?_); refine goesL_ (some 56) rfl rfl Try.func41 (by kernel_rfl) rfl #[.slice Ao40 t473.length co40, .slice Ao41 t449.length co41] rfl (by (try simp only [List.map_toArray, List.map_cons, List.map_nil]); first | done | rfl | (simp only [List.length_drop, List.length_take]; rfl)) ?_; (with_reducible refine (laws_eqInt64S.calls kj6 _ _ t473 _ _ t449 false _ ?side1 ?side2 ?side3 ?side4 A36.out).mono ?_); (case side1 => repeat (first | exact (Kd.R_reads' HO475.out).2.2 | (with_reducible refine Kd.C_alloc ?_ _) | (with_reducible refine Kd.C_drewN ?_ _) | (with_reducible refine Kd.C_drew ?_))); (case side2 => exact (Kd.R_reads' HO475.out).2.1); (case side3 => repeat (first | exact (Kd.R_reads' HO_5.out).2.2 | (with_reducible refine Kd.C_alloc ?_ _) | (with_reducible refine Kd.C_drewN ?_ _) | (with_reducible refine Kd.C_drew ?_))); (case side4 => exact (Kd.R_reads' HO_5.out).2.1); rintro e w' ⟨rfl, ⟨nd, rfl⟩⟩; refine ⟨_, rfl, ?_⟩))
                go_meet
                case rel => exact ⟨_, (true), (by first | rfl | (simp; done) | (simp [*]; done)), H', ⟨by have := HJ6.out; first | omega | exact Nat.le_refl _⟩, ⟨by (with_reducible repeat (first | apply Kd.R_alloc | apply Kd.R_drewN | apply Kd.R_drew)); exact Kd.R_mono HO_7.out (fun _ hk => trivial)⟩, ⟨by (with_reducible repeat (first | refine blk_drewN ?_ _ | refine blk_drew ?_ | refine blk_alloc ?_ _)); exact BK442.out⟩, ⟨by repeat (first | (with_reducible first | exact HB.out | apply below_alloc | apply pw_below_drewN | apply below_drew1 | refine below_set ?_ GE442.out) | exact HB.out)⟩⟩
            case rest =>
              clear HC30
              try clear c1
              try clear c2
              try clear p2
              try clear c3
              try clear c4
              try clear c11
              try clear c16
              try clear c21
              try clear c24
              try clear c24b0
              try clear c27
              try clear c27b0
              try clear c27b1
              try clear c28
              try clear c37
              try clear c39
              try clear c40
              try clear c41
              try clear hcz12_0
              try clear hcz12_1
              try clear hcz12_2
              try clear hcz12_3
              try clear hcz12_4
              try clear hcz12_5
              try clear hcz33_0
              try clear hcz33_1
              try clear hcz33_2
              try clear hcz33_3
              try clear hcz33_4
              try clear hcz33_5
              try clear hcz9_0
              try clear hcz9_1
              try clear hcz9_2
              try clear hcz9_3
              try clear hcz9_4
              try clear hcz9_5
              try clear hfz12_0
              try clear hfz12_1
              try clear hfz12_2
              try clear hfz12_3
              try clear hfz12_4
              try clear hfz12_5
              try clear hfz33_0
              try clear hfz33_1
              try clear hfz33_2
              try clear hfz33_3
              try clear hfz33_4
              try clear hfz33_5
              try clear hfz9_0
              try clear hfz9_1
              try clear hfz9_2
              try clear hfz9_3
              try clear hfz9_4
              try clear hfz9_5
              try clear p2
              obtain ⟨kq, x62_29, rfl, HA, HJ29, HO_7, BK442, HB⟩ := hcut
              have hl7_29 := (Kd.R_reads' HO_7.out).1
              rw [hl7_29] at HO_7
              (try simp only [hl7_29])
              (try simp only [hl7_29] at BK442)
              cases kq with
              | zero => exact absurd HA.out (by simp [laws_FnExactVisitsOf.j1])
              | succ kj29 =>
                have H := HA.out
                clear HA
                simp only [laws_FnExactVisitsOf.j1] at H
                by_cases c42 : x62_29 = true
                · subst c42
                  have H1 : (some false) = some r := by rw [if_pos rfl] at H; exact H
                  clear H
                  have H := H1
                  clear H1
                  obtain rfl := Option.some.inj H
                  go_wp2
                  go_ret
                  exact ⟨by first | rfl | (simp [errW_none, errW_some] <;> rfl) | (simp [*, errW_none, errW_some] <;> rfl), by repeat (first | (with_reducible first | exact HB.out | apply below_alloc | apply pw_below_drewN | apply below_drew1 | refine below_set ?_ GE442.out) | exact HB.out)⟩
                · replace c42 := Bool.eq_false_iff.mpr c42
                  subst c42
                  have H1 : ((laws_heldInt64S.f kj29 t465 1).bind fun t478 => (if t478 < 0 then (some false) else (if t478 = t464 then (some true) else (some false)))) = some r := by rw [if_neg (show ¬ (false = true) by decide)] at H; exact H
                  clear H
                  have H := H1
                  clear H1
                  replace H := Option.bind_eq_some_iff.mp H
                  obtain ⟨t478, A430, H⟩ := H
                  replace H : (if t478 < 0 then (some false) else (if t478 = t464 then (some true) else (some false))) = some r := H
                  have A43 := Aside0.mk A430
                  clear A430
                  by_cases c44 : t478 < 0
                  · rw [if_pos c44] at H
                    have c44b0 : decide (t478 < 0) = true := decide_eq_true c44
                    clear c44
                    obtain rfl := Option.some.inj H
                    go_wp2_with (first | ((with_reducible refine gate_callee (f := 43) rfl ?_); refine goesL_ (some 65) rfl rfl Try.func43 (by kernel_rfl) rfl #[.slice Ao31 t465.length co31, .int .i64 1] rfl (by (try simp only [List.map_toArray, List.map_cons, List.map_nil]); first | done | rfl | (simp only [List.length_drop, List.length_take]; rfl)) ?_; (with_reducible refine (laws_heldInt64S.calls kj29 _ _ t465 1 t478 _ ?side1 ?side2 A43.out).mono ?_); (case side1 => repeat (first | exact (Kd.R_reads' HO_7.out).2.2 | (with_reducible refine Kd.C_alloc ?_ _) | (with_reducible refine Kd.C_drewN ?_ _) | (with_reducible refine Kd.C_drew ?_))); (case side2 => exact (Kd.R_reads' HO_7.out).2.1); rintro e w' ⟨rfl, ⟨nd, rfl⟩⟩; refine ⟨_, rfl, ?_⟩))
                    go_ret
                    exact ⟨by first | rfl | (simp [errW_none, errW_some] <;> rfl) | (simp [*, errW_none, errW_some] <;> rfl), by repeat (first | (with_reducible first | exact HB.out | apply below_alloc | apply pw_below_drewN | apply below_drew1 | refine below_set ?_ GE442.out) | exact HB.out)⟩
                  · rw [if_neg c44] at H
                    have c44b0 : decide (t478 < 0) = false := decide_eq_false c44
                    clear c44
                    by_cases c45 : t478 = t464
                    · rw [if_pos c45] at H
                      have c45b0 : (t478 == t464) = true := beq_iff_eq.mpr c45
                      have c45b1 : (t478 != t464) = false := bne_eq_false_iff_eq.mpr c45
                      clear c45
                      obtain rfl := Option.some.inj H
                      go_wp2_with (first | ((with_reducible refine gate_callee (f := 43) rfl ?_); refine goesL_ (some 65) rfl rfl Try.func43 (by kernel_rfl) rfl #[.slice Ao31 t465.length co31, .int .i64 1] rfl (by (try simp only [List.map_toArray, List.map_cons, List.map_nil]); first | done | rfl | (simp only [List.length_drop, List.length_take]; rfl)) ?_; (with_reducible refine (laws_heldInt64S.calls kj29 _ _ t465 1 t478 _ ?side1 ?side2 A43.out).mono ?_); (case side1 => repeat (first | exact (Kd.R_reads' HO_7.out).2.2 | (with_reducible refine Kd.C_alloc ?_ _) | (with_reducible refine Kd.C_drewN ?_ _) | (with_reducible refine Kd.C_drew ?_))); (case side2 => exact (Kd.R_reads' HO_7.out).2.1); rintro e w' ⟨rfl, ⟨nd, rfl⟩⟩; refine ⟨_, rfl, ?_⟩))
                      go_ret
                      exact ⟨by first | rfl | (simp [errW_none, errW_some] <;> rfl) | (simp [*, errW_none, errW_some] <;> rfl), by repeat (first | (with_reducible first | exact HB.out | apply below_alloc | apply pw_below_drewN | apply below_drew1 | refine below_set ?_ GE442.out) | exact HB.out)⟩
                    · rw [if_neg c45] at H
                      have c45b0 : (t478 == t464) = false := beq_eq_false_iff_ne.mpr c45
                      have c45b1 : (t478 != t464) = true := bne_iff_ne.mpr c45
                      obtain rfl := Option.some.inj H
                      go_wp2_with (first | ((with_reducible refine gate_callee (f := 43) rfl ?_); refine goesL_ (some 65) rfl rfl Try.func43 (by kernel_rfl) rfl #[.slice Ao31 t465.length co31, .int .i64 1] rfl (by (try simp only [List.map_toArray, List.map_cons, List.map_nil]); first | done | rfl | (simp only [List.length_drop, List.length_take]; rfl)) ?_; (with_reducible refine (laws_heldInt64S.calls kj29 _ _ t465 1 t478 _ ?side1 ?side2 A43.out).mono ?_); (case side1 => repeat (first | exact (Kd.R_reads' HO_7.out).2.2 | (with_reducible refine Kd.C_alloc ?_ _) | (with_reducible refine Kd.C_drewN ?_ _) | (with_reducible refine Kd.C_drew ?_))); (case side2 => exact (Kd.R_reads' HO_7.out).2.1); rintro e w' ⟨rfl, ⟨nd, rfl⟩⟩; refine ⟨_, rfl, ?_⟩))
                      go_ret
                      exact ⟨by first | rfl | (simp [errW_none, errW_some] <;> rfl) | (simp [*, errW_none, errW_some] <;> rfl), by repeat (first | (with_reducible first | exact HB.out | apply below_alloc | apply pw_below_drewN | apply below_drew1 | refine below_set ?_ GE442.out) | exact HB.out)⟩
          · rw [if_neg c27] at H
            have c27b0 : (t466 == t464) = false := beq_eq_false_iff_ne.mpr c27
            have c27b1 : (t466 != t464) = true := bne_iff_ne.mpr c27
            obtain rfl := Option.some.inj H
            obtain ⟨Ao46, co46, eo46⟩ := Kd.R_slice HO_7.out
            subst eo46
            go_wp2_with (first | ((with_reducible refine gate_callee (f := 42) rfl ?_); refine goesL_ (some 38) rfl rfl Try.func42 (by kernel_rfl) rfl #[.slice Ao46 t459.length co46, .int .i64 1] rfl (by (try simp only [List.map_toArray, List.map_cons, List.map_nil]); first | done | rfl | (simp only [List.length_drop, List.length_take]; rfl)) ?_; (with_reducible refine (laws_markInt64S.calls kj6 (fun k_ => some k_ = (.slice Ao46 t459.length co46 : Value).ownBlock) (.slice Ao46 t459.length co46) t459 1 t464 t465 w _ ?side1 ?side2 A22.out).mono ?_); (case side1 => repeat (first | (with_reducible first | exact HB.out | apply below_alloc | apply pw_below_drewN | apply below_drew1 | refine below_set ?_ GE442.out) | exact HB.out)); (case side2 => exact Kd.R_tight rfl HO_7.out); rintro e w47 ⟨rfl, hy0, hb, hkp⟩; refine ⟨_, rfl, ?_⟩; have n0_ := Aside0.mk (Kd.R_mono (ok' := fun k_ => some k_ ≠ (.slice Ao46 t459.length co46 : Value).ownBlock) (Kd.R_keptB (HO_5.out) hkp (fun k_ hk_ hs_ => (hk_) hs_)) (fun k_ hk_ => hk_.1)); have n1_ := Aside0.mk (Kd.R_reok rfl hy0 (fun k_ e_ => HO_7.out.1 k_ e_)); have n2_ := Aside0.mk (blk_kept (by (with_reducible repeat (first | refine blk_drewN ?_ _ | refine blk_drew ?_ | refine blk_alloc ?_ _)); exact BK442.out) hkp (fun hs_ => (fun e_ => (Kd.R_ne HO_7.out BK442.out (by decide)) e_) hs_)); have n3_ := Aside0.mk (hb); clear HO_5; clear HO_7; clear BK442; clear HB; have HO_5 := n0_; have HO_7 := n1_; have BK442 := n2_; have HB := n3_; clear n0_ n1_ n2_ n3_; (try clear hb); (try clear hkp); (try clear hy0)) | ((with_reducible refine gate_callee (f := 43) rfl ?_); refine goesL_ (some 41) rfl rfl Try.func43 (by kernel_rfl) rfl #[.slice Ao46 t465.length co46, .int .i64 1] rfl (by (try simp only [List.map_toArray, List.map_cons, List.map_nil]); first | done | (rw [show t465.length = t459.length from (Kd.R_reads' HO_7.out).1.symm] <;> rfl) | rfl | (simp only [List.length_drop, List.length_take]; rfl)) ?_; (with_reducible refine (laws_heldInt64S.calls kj6 _ _ t465 1 t466 _ ?side1 ?side2 A23.out).mono ?_); (case side1 => repeat (first | exact (Kd.R_reads' HO_7.out).2.2 | (with_reducible refine Kd.C_alloc ?_ _) | (with_reducible refine Kd.C_drewN ?_ _) | (with_reducible refine Kd.C_drew ?_))); (case side2 => rw [show t465.length = t459.length from (Kd.R_reads' HO_7.out).1.symm]; exact (Kd.R_reads' HO_7.out).2.1); rintro e w' ⟨rfl, ⟨nd, rfl⟩⟩; refine ⟨_, rfl, ?_⟩))
            go_ret
            exact ⟨by first | rfl | (simp [errW_none, errW_some] <;> rfl) | (simp [*, errW_none, errW_some] <;> rfl), by repeat (first | (with_reducible first | exact HB.out | apply below_alloc | apply pw_below_drewN | apply below_drew1 | refine below_set ?_ GE442.out) | exact HB.out)⟩

/-- The one plain statement that is left of laws_FnExactVisitsOf. -/
def laws_FnExactVisitsOf.Pure : Prop := ∀ (a0 : Int) (a1_0 : Int) (a1_1 : Int) (a1_2 : Int) (a1_3 : Int) (a1_4 : Int) (a1_5 : Int), (Lit.int .i64 a0).wf = true → good_T37 (⟨a1_0, a1_1, a1_2, a1_3, a1_4, a1_5⟩ : S37) → ∃ k, laws_FnExactVisitsOf.f k a0 a1_0 a1_1 a1_2 a1_3 a1_4 a1_5 = some true

end Go.Proofs.Ytleeponhjgmioaa.Pa
