/- For every row: the program's RowText answers what the reference answers, and the row stays as it is. -/
import Derived.Test.YtleeponhjgmioaaHRow
import Derived.Test.YtleeponhjgmioaaHValid
import Derived.Test.YtleeponhjgmioaaPaf5
namespace Go.Proofs.Ytleeponhjgmioaa.Pure
open Go.RowKit Go.Proofs.Ytleeponhjgmioaa.Pa Go.Proofs.YtleeponhjgmioaaW.PrintWords Go.Proofs.YtleeponhjgmioaaW.PrintLast Go.Proofs.Ytleeponhjgmioaa.Com

theorem text_loop (l : List Int) (hn : l.length ≤ 1048576) (k : Nat) (i : Int) (h0 : 0 ≤ i) (h1 : i ≤ l.length) (hk : (l.length : Int) - i < k) :
    ∀ acc : List Int, (acc.length : Int) ≤ i → ∃ s, spec_l05Text.l0 k l acc i = some s ∧ impl_RowText.l0 k acc l l.length i = some s := by
  refine up_from (n := l.length) (P := fun k i => ∀ acc : List Int, (acc.length : Int) ≤ i → ∃ s, spec_l05Text.l0 k l acc i = some s ∧ impl_RowText.l0 k acc l l.length i = some s) (fun k acc ha => ?_) (fun k i h0 h1 ih acc ha => ?_) k i h0 h1 hk
  · simp only [spec_l05Text.l0, impl_RowText.l0]
    rw [if_neg (by omega), if_neg (by omega)]
    exact ⟨_, rfl, rfl⟩
  · simp only [spec_l05Text.l0, impl_RowText.l0]
    rw [if_pos h1, if_pos h0, if_pos (show acc.length < 140737488355328 by omega), if_pos h1, if_pos h0, if_pos h1, if_pos (show acc.length < 140737488355328 by omega), w64 (by omega) (by omega)]
    exact ih _ (by simp; omega)
theorem FnExactRowText : laws_FnExactRowText.Pure := by
  intro a _ _
  refine ⟨1048578, ?_⟩
  unfold laws_FnExactRowText.f spec_RowText.f impl_RowText.f spec_l05Text.f
  by_cases ha : (a.length : Int) > 1048576
  · rw [if_pos ha]
  rw [if_neg ha]
  have hna : a.length ≤ 1048576 := by omega
  obtain ⟨s, hs, hi⟩ := text_loop a hna 1048578 0 (by omega) (by omega) (by omega) [] (by simp)
  simp only [toRow_is 1048578 a hna (by omega), l05Ok_is 1048578 a hna (by omega), implValid_is, eqRow_is 1048578 a a hna (by omega), Option.bind_some, hs, hi]
  cases rowOk a <;> simp
end Go.Proofs.Ytleeponhjgmioaa.Pure
