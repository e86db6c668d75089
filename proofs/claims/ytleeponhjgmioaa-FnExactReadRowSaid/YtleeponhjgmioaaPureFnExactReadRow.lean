/- For every text: the program's ReadRow answers what the reference answers, in memory of its own. -/
import Derived.Test.YtleeponhjgmioaaHRow
import Derived.Test.YtleeponhjgmioaaHValid
import Derived.Test.YtleeponhjgmioaaHMark
import Derived.Test.YtleeponhjgmioaaPaf6
namespace Go.Proofs.Ytleeponhjgmioaa.Pure
open Go.RowKit Go.Proofs.Ytleeponhjgmioaa.Pa Go.Proofs.YtleeponhjgmioaaW.PrintWords Go.Proofs.YtleeponhjgmioaaW.PrintLast Go.Proofs.Ytleeponhjgmioaa.Com

theorem read_loop (s : ByteArray) (hn : s.size ≤ 1048576) (k : Nat) (i : Int) (h0 : 0 ≤ i) (h1 : i ≤ s.size) (hk : (s.size : Int) - i + 1048578 < k) :
    ∀ acc : List Int, (acc.length : Int) ≤ i → ∃ r : List Int × Int, spec_ReadRow.l0 k s acc i = some r ∧ impl_ReadRow.l0 k s acc s.size i = some r ∧ r.1.length ≤ 1048576 := by
  refine up_from' (n := s.size) 1048578 (P := fun k i => ∀ acc : List Int, (acc.length : Int) ≤ i → ∃ r : List Int × Int, spec_ReadRow.l0 k s acc i = some r ∧ impl_ReadRow.l0 k s acc s.size i = some r ∧ r.1.length ≤ 1048576) (fun k hk acc ha => ?_) (fun k i hk h0 h1 ih acc ha => ?_) k i h0 h1 hk
  · simp only [spec_ReadRow.l0, impl_ReadRow.l0]
    rw [if_neg (by omega), if_neg (by omega), l05Ok_is k acc (by omega) (by omega), implValid_is]
    simp only [Option.bind_some]
    cases rowOk acc
    · exact ⟨([], 5), rfl, rfl, by simp⟩
    · exact ⟨(acc, 0), rfl, rfl, by simp; omega⟩
  · simp only [spec_ReadRow.l0, impl_ReadRow.l0]
    rw [if_pos h1, if_pos h0, if_pos h1, if_pos h0, if_pos h1]
    by_cases c1 : bt s i < 48
    · rw [if_pos c1, if_pos c1]; exact ⟨_, rfl, rfl, by simp⟩
    rw [if_neg c1, if_neg c1]
    by_cases c2 : bt s i > 55
    · rw [if_pos c2, if_pos c2]; exact ⟨_, rfl, rfl, by simp⟩
    rw [if_neg c2, if_neg c2, if_pos (show acc.length < 140737488355328 by omega), if_pos (show acc.length < 140737488355328 by omega), w64 (by omega) (by omega)]
    exact ih _ (by simp; omega)
theorem FnExactReadRow : laws_FnExactReadRow.Pure := by
  intro a _
  refine ⟨3000002, ?_⟩
  unfold laws_FnExactReadRow.f
  by_cases ha : (a.size : Int) > 1048576
  · rw [if_pos ha]
  rw [if_neg ha]
  have H : ∀ k, 2999990 ≤ k → ∃ r : List Int × Int, spec_ReadRow.f k a = some r ∧ impl_ReadRow.f k a = some r ∧ r.1.length ≤ 1048576 := fun k hk =>
    read_loop a (by omega) k 0 (by omega) (by omega) (by omega) [] (by simp)
  obtain ⟨r, hs, hi, hr⟩ := H 3000002 (by omega)
  have hi2 : impl_ReadRow.f 3000001 a = some r := by
    obtain ⟨r', _, hi', _⟩ := H 3000001 (by omega)
    have := impl_ReadRow.mono a 3000001 r' hi'
    rw [hi] at this
    rw [hi', ← this]
  simp only [hs, hi, Option.bind_some, eqRow_is 3000002 r.1 r.1 hr (by omega), laws_FnExactReadRow.j0, decide_true, if_true, bne_self_eq_false, Bool.false_eq_true, if_false, markRow_is 3000001 r.1 hr (by omega), heldRow_is 3000001 r.1.length hr (by omega)]
  rw [if_neg (by omega), hi2]
  simp only [Option.bind_some, eqRow_is 3000001 r.1 r.1 hr (by omega), decide_true, if_true, bne_self_eq_false, laws_FnExactReadRow.j1, Bool.false_eq_true, if_false, heldRow_is 3000000 r.1.length hr (by omega)]
  rw [if_neg (by omega)]
end Go.Proofs.Ytleeponhjgmioaa.Pure
