/- For every walker and day: the program's WalksUntil answers what the reference answers. -/
import Derived.Test.YtleeponhjgmioaaHOn
import Derived.Test.YtleeponhjgmioaaPaf9
namespace Go.Proofs.Ytleeponhjgmioaa.Pure
open Go.RowKit Go.Proofs.Ytleeponhjgmioaa.Pa Go.Proofs.YtleeponhjgmioaaW.PrintWords Go.Proofs.YtleeponhjgmioaaW.PrintLast Go.Proofs.Ytleeponhjgmioaa.Com

theorem FnExactWalksUntil : laws_FnExactWalksUntil.Pure := by
  intro b f0 f1 f2 f3 f4 f5 d _ _ _
  refine ⟨30, ?_⟩
  unfold laws_FnExactWalksUntil.f spec_WalksUntil.f impl_WalksUntil.f laws_toWalker.f
  simp only [Option.bind_some, day_is, asked_is 30 b _ _ (by omega), implWalkers_is, isDay_is, codeOf_is, List.all_cons, List.all_nil, Bool.and_true]
  by_cases hc : codeIs (walkersOk b [⟨f0, f1, f2, f3, f4, f5⟩]) (dayOk d) = 0
  · rw [if_pos hc, if_pos hc]
    obtain ⟨hv, hd⟩ := codeIs_zero.1 hc
    have hw := walkersOk_of hv (List.mem_singleton.2 rfl)
    have hd := dayOk_iff.1 hd
    simp only at hw
    unfold spec_l05Until.f impl_Walker_until.f
    rw [w64 (i := d - wrap64 f0) (by omega) (by omega)]
    by_cases h : d < wrap64 f0
    · rw [if_pos (by omega), if_pos h]
      simp
    · rw [if_neg (by omega), if_neg (by omega), if_neg h]
      simp
  · rw [if_neg hc, if_neg hc]
    simp
end Go.Proofs.Ytleeponhjgmioaa.Pure
