/- A row with walkers: both look at them alike. -/
import Derived.Test.YtnppegmilcocoaaHValid
import Derived.Test.YtnppegmilcocoaaHWalk
import Derived.Test.YtnppegmilcocoaaPaf63
namespace Go.Proofs.Ytnppegmilcocoaa.Pure
open Go.RowKit Go.Proofs.Ytnppegmilcocoaa.Pa Go.Proofs.YtnppegmilcocoaaW.PrintWords Go.Proofs.YtnppegmilcocoaaW.PrintLast Go.Proofs.Ytnppegmilcocoaa.Com

theorem l05Row_is (k : Nat) (l : List Int) (ws : List S51) (q : Bool) (hn : l.length ≤ 1048576) (hk : 1048577 < k) : spec_l05Row.f k l ws q = some (codeIs (rowOk l && walkersOk l.length ws) q) := by
  unfold spec_l05Row.f
  rw [l05Ok_is k l hn hk]
  cases rowOk l
  · rfl
  · simp only [Option.bind_some, if_true, asked_is k l.length ws q (by omega), Bool.true_and]
theorem rowOkI_is (l : List Int) (ws : List S51) : impl_rowOk.f l ws = some (rowOk l && walkersOk l.length ws) := by
  unfold impl_rowOk.f
  rw [implValid_is]
  cases rowOk l
  · rfl
  · simp only [Option.bind_some, if_true, implWalkers_is, Bool.true_and]
end Go.Proofs.Ytnppegmilcocoaa.Pure
