/- For every two rows: the program's SameRow answers what the reference answers, and both rows stay as they are. -/
import Derived.Test.YtleeponhjgmioaaHRow
import Derived.Test.YtleeponhjgmioaaPaf3
namespace Go.Proofs.Ytleeponhjgmioaa.Pure
open Go.RowKit Go.Proofs.Ytleeponhjgmioaa.Pa Go.Proofs.YtleeponhjgmioaaW.PrintWords Go.Proofs.YtleeponhjgmioaaW.PrintLast Go.Proofs.Ytleeponhjgmioaa.Com

theorem specSame_is (k : Nat) (a b : List Int) (hn : a.length ≤ 1048576) (hk : 1048577 < k) : spec_SameRow.f k a b = some (decide (a = b)) := by
  unfold spec_SameRow.f
  by_cases hl : (a.length : Int) = b.length
  · rw [if_pos hl, eq_loop (L := fun k i => spec_SameRow.l0 k a b i) (by omega) hn (fun k i => rfl) k 0 (by omega) (by omega) (by omega)]
    simp
  · rw [if_neg hl]
    have : a ≠ b := fun h => hl (by rw [h])
    simp [this]
theorem implSame_loop {L : Nat → Int → Option Bool} {a b : List Int} (hl : a.length = b.length) (hn : a.length ≤ 1048576)
    (step : ∀ k i, L (k + 1) i = if i < (a.length : Int) then (if 0 ≤ i then (if i < (a.length : Int) then (if i < (b.length : Int) then (if rd a i = rd b i then L k (wrap64 (i + 1)) else some false) else none) else none) else none) else some true)
    (k : Nat) (i : Int) (h0 : 0 ≤ i) (h1 : i ≤ a.length) (hk : (a.length : Int) - i < k) : L k i = some (decide (a.drop i.toNat = b.drop i.toNat)) := by
  refine eq_loop hl hn (fun k i => ?_) k i h0 h1 hk
  rw [step]
  by_cases c : i < (a.length : Int)
  · simp only [c, if_true]
  · simp only [c, if_false]
theorem implSame_is (k : Nat) (a b : List Int) (hn : a.length ≤ 1048576) (hk : 1048577 < k) : impl_SameRow.f k a b = some (decide (a = b)) := by
  unfold impl_SameRow.f slices_Equal_impl_Row_uint8.f
  by_cases hl : (a.length : Int) = b.length
  · rw [if_pos hl, implSame_loop (L := fun k i => slices_Equal_impl_Row_uint8.l0 k a b a.length i) (by omega) hn (fun k i => rfl) k 0 (by omega) (by omega) (by omega)]
    simp
  · rw [if_neg hl]
    have : a ≠ b := fun h => hl (by rw [h])
    simp [this]
theorem FnExactSameRow : laws_FnExactSameRow.Pure := by
  intro a b _ _ _ _
  refine ⟨1048578, ?_⟩
  unfold laws_FnExactSameRow.f
  by_cases ha : (a.length : Int) > 1048576
  · rw [if_pos ha]
  rw [if_neg ha]
  by_cases hb : (b.length : Int) > 1048576
  · rw [if_pos hb]
  rw [if_neg hb]
  have hna : a.length ≤ 1048576 := by omega
  have hnb : b.length ≤ 1048576 := by omega
  simp only [toRow_is 1048578 a hna (by omega), toRow_is 1048578 b hnb (by omega), specSame_is 1048578 a b hna (by omega), implSame_is 1048578 a b hna (by omega), eqRow_is 1048578 a a hna (by omega), eqRow_is 1048578 b b hnb (by omega), Option.bind_some]
  simp
end Go.Proofs.Ytleeponhjgmioaa.Pure
