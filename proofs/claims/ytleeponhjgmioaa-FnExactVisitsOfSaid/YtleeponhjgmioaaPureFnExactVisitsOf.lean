/- For every walker: the program's VisitsOf answers what the reference answers, in memory of its own. -/
import Derived.Test.YtleeponhjgmioaaHVisits
import Derived.Test.YtleeponhjgmioaaHMarkI
import Derived.Test.YtleeponhjgmioaaPaf11
namespace Go.Proofs.Ytleeponhjgmioaa.Pure
open Go.RowKit Go.Proofs.Ytleeponhjgmioaa.Pa Go.Proofs.YtleeponhjgmioaaW.PrintWords Go.Proofs.YtleeponhjgmioaaW.PrintLast Go.Proofs.Ytleeponhjgmioaa.Com

theorem visitsLaw_is (b f0 f1 f2 f3 f4 f5 : Int) (hf4 : (Lit.int .i16 f4).wf = true) :
    ∃ R : List Int × Int, (∀ k, 1000 < k → spec_VisitsOf.f k b f0 f1 f2 f3 f4 f5 = some R) ∧ (∀ k, 1000 < k → impl_VisitsOf.f k b f0 f1 f2 f3 f4 f5 = some R) ∧ R.1.length ≤ 1048576 := by
  cases hv : walkersOk b [⟨f0, f1, f2, f3, f4, f5⟩] with
  | false =>
    refine ⟨([], 1), fun k hk => ?_, fun k hk => ?_, by simp⟩
    · unfold spec_VisitsOf.f
      rw [asked_is k b _ true (by omega), hv]
      rfl
    · unfold impl_VisitsOf.f
      rw [implWalkers_is, hv]
      rfl
  | true =>
    have hb := walkersOk_b hv
    have hw := walkersOk_of hv (List.mem_singleton.2 rfl)
    simp only at hw
    refine ⟨(visitsOf b (wrap64 f2) (wrap64 f3) (wrap64 f4), 0), fun k hk => ?_, fun k hk => ?_, by simp only [visitsOf_length]; omega⟩
    · unfold spec_VisitsOf.f
      rw [asked_is k b _ true (by omega), hv, (visits_is k f0 f1 f2 f3 f4 f5 b (by omega) ⟨hb.1, hb.2.1⟩ hw.2.2.1 hw.2.2.2.1 hw.2.2.2.2.1 hf4).1]
      rfl
    · unfold impl_VisitsOf.f
      rw [implWalkers_is, hv, (visits_is k f0 f1 f2 f3 f4 f5 b (by omega) ⟨hb.1, hb.2.1⟩ hw.2.2.1 hw.2.2.2.1 hw.2.2.2.2.1 hf4).2]
      rfl
theorem FnExactVisitsOf : laws_FnExactVisitsOf.Pure := by
  intro b f0 f1 f2 f3 f4 f5 _ hg
  refine ⟨3000003, ?_⟩
  unfold laws_FnExactVisitsOf.f
  obtain ⟨R, hs, hi, hr⟩ := visitsLaw_is b f0 f1 f2 f3 f4 f5 hg.2.2.2.2.1
  simp only [laws_toWalker.f, Option.bind_some, hs 3000003 (by omega), hi 3000003 (by omega), eqInt64S_refl 3000003 R.1 hr (by omega), if_true, bne_self_eq_false]
  simp only [laws_FnExactVisitsOf.j0, Bool.false_eq_true, if_false, markI_is 3000002 R.1 hr (by omega), heldI_is 3000002 R.1.length hr (by omega), Option.bind_some]
  rw [if_neg (by omega)]
  simp only [if_true, laws_toWalker.f, Option.bind_some, hi 3000002 (by omega), eqInt64S_refl 3000002 R.1 hr (by omega), bne_self_eq_false]
  simp only [laws_FnExactVisitsOf.j1, Bool.false_eq_true, if_false, heldI_is 3000001 R.1.length hr (by omega), Option.bind_some, if_true]
  rw [if_neg (by omega)]
end Go.Proofs.Ytleeponhjgmioaa.Pure
