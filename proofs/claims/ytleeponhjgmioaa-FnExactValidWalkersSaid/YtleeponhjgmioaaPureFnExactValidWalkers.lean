/- For all walkers: the program's ValidWalkers answers what the reference answers, and the walkers stay as they are. -/
import Derived.Test.YtleeponhjgmioaaHWalk
import Derived.Test.YtleeponhjgmioaaHWalkS
import Derived.Test.YtleeponhjgmioaaPaf8
namespace Go.Proofs.Ytleeponhjgmioaa.Pure
open Go.RowKit Go.Proofs.Ytleeponhjgmioaa.Pa Go.Proofs.YtleeponhjgmioaaW.PrintWords Go.Proofs.YtleeponhjgmioaaW.PrintLast Go.Proofs.Ytleeponhjgmioaa.Com

theorem FnExactValidWalkers : laws_FnExactValidWalkers.Pure := by
  intro b l _ hl _
  refine ⟨1048578, ?_⟩
  unfold laws_FnExactValidWalkers.f spec_ValidWalkers.f
  rw [szWalkerS_is l hl]
  simp only [Option.bind_some]
  by_cases ha : (l.length : Int) > 1048576
  · rw [if_pos ha, if_pos (by omega)]
  rw [if_neg ha, if_neg (by omega)]
  simp only [toWalkerS_is 1048578 l (by omega) (by omega), l05Walkers_is 1048578 b _ (by omega), implWalkers_is, eqWalkerS_refl 1048578 (l.map conv) (by simp; omega) (by omega), Option.bind_some]
  simp
end Go.Proofs.Ytleeponhjgmioaa.Pure
