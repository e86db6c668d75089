/- For every row: the program's ValidRow answers what the reference answers, and the row stays as it is. -/
import Derived.Test.YtleeponhjgmioaaHRow
import Derived.Test.YtleeponhjgmioaaHValid
import Derived.Test.YtleeponhjgmioaaPaf4
namespace Go.Proofs.Ytleeponhjgmioaa.Pure
open Go.RowKit Go.Proofs.Ytleeponhjgmioaa.Pa Go.Proofs.YtleeponhjgmioaaW.PrintWords Go.Proofs.YtleeponhjgmioaaW.PrintLast Go.Proofs.Ytleeponhjgmioaa.Com

theorem FnExactValidRow : laws_FnExactValidRow.Pure := by
  intro a _ _
  refine ⟨1048578, ?_⟩
  unfold laws_FnExactValidRow.f spec_ValidRow.f
  by_cases ha : (a.length : Int) > 1048576
  · rw [if_pos ha]
  rw [if_neg ha]
  have hna : a.length ≤ 1048576 := by omega
  simp only [toRow_is 1048578 a hna (by omega), l05Ok_is 1048578 a hna (by omega), implValid_is, eqRow_is 1048578 a a hna (by omega), Option.bind_some]
  simp
end Go.Proofs.Ytleeponhjgmioaa.Pure
