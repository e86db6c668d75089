/- When a walker comes, and how often: the reference's and the program's answer are one. -/
import Derived.Test.YtnppegmilcocoaaHWalk
import Derived.Test.YtnppegmilcocoaaPaf30
import Derived.Test.YtnppegmilcocoaaPaf32
namespace Go.Proofs.Ytnppegmilcocoaa.Pure
open Go.RowKit Go.Proofs.Ytnppegmilcocoaa.Pa Go.Proofs.YtnppegmilcocoaaW.PrintWords Go.Proofs.YtnppegmilcocoaaW.PrintLast Go.Proofs.Ytnppegmilcocoaa.Com

def dayOk (d : Int) : Bool := decide (0 ≤ d ∧ d ≤ 10000)
theorem day_is (d : Int) : spec_l05Day.f d = some (dayOk d) := by
  unfold spec_l05Day.f
  rw [in_is]; rfl
theorem isDay_is (l : List Int) : impl_isDay.f l = some (l.all dayOk) := by
  unfold impl_isDay.f impl_allWithin.f
  simp only [Option.bind_some, Option.some.injEq]
  induction l with
  | nil => rfl
  | cons x l ih =>
    simp only [List.any_cons, List.all_cons, Bool.not_or, Bool.not_not, ih]
    rfl
theorem codeOf_is (v f : Bool) : impl_codeOf.f v f = some (codeIs v f) := by
  cases v <;> cases f <;> rfl
theorem codeIs_zero {v f : Bool} : codeIs v f = 0 ↔ v = true ∧ f = true := by
  cases v <;> cases f <;> simp [codeIs]
theorem dayOk_iff {d : Int} : dayOk d = true ↔ 0 ≤ d ∧ d ≤ 10000 := by simp [dayOk]
end Go.Proofs.Ytnppegmilcocoaa.Pure
