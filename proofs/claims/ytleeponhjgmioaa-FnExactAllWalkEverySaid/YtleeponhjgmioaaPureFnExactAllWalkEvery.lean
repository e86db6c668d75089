/- For all walkers: the program's AllWalkEvery answers what the reference answers, and the walkers stay as they are. -/
import Derived.Test.YtleeponhjgmioaaHEvery
import Derived.Test.YtleeponhjgmioaaHWalkS
import Derived.Test.YtleeponhjgmioaaPaf13
namespace Go.Proofs.Ytleeponhjgmioaa.Pure
open Go.RowKit Go.Proofs.Ytleeponhjgmioaa.Pa Go.Proofs.YtleeponhjgmioaaW.PrintWords Go.Proofs.YtleeponhjgmioaaW.PrintLast Go.Proofs.Ytleeponhjgmioaa.Com

theorem FnExactAllWalkEvery : laws_FnExactAllWalkEvery.Pure := by
  intro b l _ hl _
  refine ⟨1048579, ?_⟩
  unfold laws_FnExactAllWalkEvery.f
  rw [szWalkerS_is l hl]
  simp only [Option.bind_some]
  by_cases ha : (l.length : Int) > 1048576
  · rw [if_pos ha, if_pos (by omega)]
  rw [if_neg ha, if_neg (by omega)]
  obtain ⟨h1, h2⟩ := allEvery_is 1048579 b (l.map conv) (by omega)
  simp only [toWalkerS_is 1048579 l (by omega) (by omega), h1, h2, Option.bind_some, if_true, bne_self_eq_false]
  simp only [laws_FnExactAllWalkEvery.j0, Bool.false_eq_true, if_false, toWalkerS_is 1048578 l (by omega) (by omega), eqWalkerS_refl 1048578 (l.map conv) (by simp; omega) (by omega), Option.bind_some, if_true]
end Go.Proofs.Ytleeponhjgmioaa.Pure
