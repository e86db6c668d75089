/- The code of days from one to another one: the reference's and the program's answer are one. -/
import Derived.Test.YtnppegmilcocoaaHOn
import Derived.Test.YtnppegmilcocoaaPaf30
import Derived.Test.YtnppegmilcocoaaPaf32
namespace Go.Proofs.Ytnppegmilcocoaa.Pure
open Go.RowKit Go.Proofs.Ytnppegmilcocoaa.Pa Go.Proofs.YtnppegmilcocoaaW.PrintWords Go.Proofs.YtnppegmilcocoaaW.PrintLast Go.Proofs.Ytnppegmilcocoaa.Com

def fromTo (f t : Int) : Bool := dayOk f && (dayOk t && decide (f ≤ t))
theorem from_is (f t : Int) : spec_l05From.f f t = some (fromTo f t) := by
  unfold spec_l05From.f fromTo
  simp only [day_is, Option.bind_some]
  cases dayOk f <;> cases dayOk t <;> simp
def spanIs (c f t : Int) : Int := if c = 0 then (if wrap64 (wrap64 (t - f) + 1) > 400 then 3 else 0) else c
theorem span_is (c f t : Int) : spec_l05Span.f c f t = some (spanIs c f t) := by
  unfold spec_l05Span.f spanIs
  split
  · split <;> rfl
  · rfl
theorem spanCode_is (k : Nat) (hk : 1 ≤ k) (v : Bool) (f t : Int) : impl_spanCode.f k v f t = some (spanIs (codeIs v (fromTo f t)) f t) := by
  obtain ⟨k, rfl⟩ : ∃ m, k = m + 1 := ⟨k - 1, by omega⟩
  have h0 : ∀ c, impl_spanCode.j0 (k + 1) f t c = some (spanIs c f t) := fun c => by
    simp only [impl_spanCode.j0, spanIs]
    split
    · split <;> rfl
    · rfl
  unfold impl_spanCode.f fromTo
  simp only [isDay_is, codeOf_is, Option.bind_some, List.all_cons, List.all_nil, Bool.and_true, h0]
  cases dayOk f <;> cases dayOk t <;> simp
theorem spanIs_zero {v : Bool} {f t : Int} (h : spanIs (codeIs v (fromTo f t)) f t = 0) : v = true ∧ 0 ≤ f ∧ f ≤ t ∧ t ≤ 10000 ∧ t - f + 1 ≤ 400 := by
  unfold spanIs at h
  by_cases hc : codeIs v (fromTo f t) = 0
  · obtain ⟨hv, hf⟩ := codeIs_zero.1 hc
    unfold fromTo at hf
    simp only [Bool.and_eq_true, decide_eq_true_eq, dayOk_iff] at hf
    rw [if_pos hc, w64 (i := t - f) (by omega) (by omega), w64 (by omega) (by omega)] at h
    split at h
    · omega
    · exact ⟨hv, by omega, by omega, by omega, by omega⟩
  · rw [if_neg hc] at h
    exact absurd h hc
end Go.Proofs.Ytnppegmilcocoaa.Pure
