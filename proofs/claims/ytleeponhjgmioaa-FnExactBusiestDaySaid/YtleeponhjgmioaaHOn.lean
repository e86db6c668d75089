/- When a walker comes, and how often: the reference's and the program's answer are one. -/
import Derived.Test.YtleeponhjgmioaaHWalk
import Derived.Test.YtleeponhjgmioaaPaf56
import Derived.Test.YtleeponhjgmioaaPaf86
import Derived.Test.YtleeponhjgmioaaPaf28
namespace Go.Proofs.Ytleeponhjgmioaa.Pure
open Go.RowKit Go.Proofs.Ytleeponhjgmioaa.Pa Go.Proofs.YtleeponhjgmioaaW.PrintWords Go.Proofs.YtleeponhjgmioaaW.PrintLast Go.Proofs.Ytleeponhjgmioaa.Com

def dayOk (d : Int) : Bool := decide (0 ≤ d ∧ d ≤ 10000)
theorem day_is (d : Int) : spec_l05Day.f d = some (dayOk d) := by
  unfold spec_l05Day.f
  rw [in_is]; rfl
theorem isDay_is (l : List Int) : impl_isDay.f l = some (l.all dayOk) := by
  unfold impl_isDay.f impl_allWithin.f
  simp only [Option.bind_some, Option.some.injEq]
  induction l with
  | nil => rfl
  | cons x l ih =>
    simp only [List.any_cons, List.all_cons, Bool.not_or, Bool.not_not, ih]
    rfl
theorem codeOf_is (v f : Bool) : impl_codeOf.f v f = some (codeIs v f) := by
  cases v <;> cases f <;> rfl
theorem codeIs_zero {v f : Bool} : codeIs v f = 0 ↔ v = true ∧ f = true := by
  cases v <;> cases f <;> simp [codeIs]
theorem dayOk_iff {d : Int} : dayOk d = true ↔ 0 ≤ d ∧ d ≤ 10000 := by simp [dayOk]
end Go.Proofs.Ytleeponhjgmioaa.Pure
