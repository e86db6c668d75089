/- When a row is valid: the reference's and the program's answer in plain words. -/
import Derived.Test.YtnppegmilcocoaaCom
import Derived.Test.YtnppegmilcocoaaPaf71
import Derived.Test.YtnppegmilcocoaaPaf32
namespace Go.Proofs.Ytnppegmilcocoaa.Pure
open Go.RowKit Go.Proofs.Ytnppegmilcocoaa.Pa Go.Proofs.YtnppegmilcocoaaW.PrintWords Go.Proofs.YtnppegmilcocoaaW.PrintLast Go.Proofs.Ytnppegmilcocoaa.Com

theorem l00In_is (a b c : Int) : spec_l00In.f a b c = some (decide (b ≤ a ∧ a ≤ c)) := by
  unfold spec_l00In.f
  by_cases h : b ≤ a <;> simp [h]
def rowOk (l : List Int) : Bool := decide (1 ≤ (l.length : Int) ∧ (l.length : Int) ≤ 60) && !l.any (fun x => decide (7 < x))
theorem implValid_is (l : List Int) : impl_ValidRow.f l = some (rowOk l) := rfl
theorem l05Ok_loop (l : List Int) (hn : l.length ≤ 1048576) (k : Nat) (i : Int) (h0 : 0 ≤ i) (h1 : i ≤ l.length) (hk : (l.length : Int) - i < k) :
    spec_l05Ok.l0 k l i = some (decide (1 ≤ (l.length : Int) ∧ (l.length : Int) ≤ 60) && !(l.drop i.toNat).any (fun x => decide (7 < x))) := by
  refine up_from (n := l.length) (P := fun k i => spec_l05Ok.l0 k l i = some (decide (1 ≤ (l.length : Int) ∧ (l.length : Int) ≤ 60) && !(l.drop i.toNat).any (fun x => decide (7 < x)))) (fun k => ?_) (fun k i h0 h1 ih => ?_) k i h0 h1 hk
  · simp only [spec_l05Ok.l0]
    rw [if_neg (by omega), l00In_is]
    simp
  · simp only [spec_l05Ok.l0]
    rw [if_pos h1, if_pos h0, w64 (by omega) (by omega), ih, rd_drop l i h0 h1]
    by_cases c : rd l i > 7
    · rw [if_pos c]
      have : 7 < rd l i := c
      simp [this]
    · rw [if_neg c]
      have : ¬ 7 < rd l i := c
      simp [this]
theorem l05Ok_is (k : Nat) (l : List Int) (hn : l.length ≤ 1048576) (hk : 1048577 < k) : spec_l05Ok.f k l = some (rowOk l) := by
  unfold spec_l05Ok.f
  rw [l05Ok_loop l hn k 0 (by omega) (by omega) (by omega)]
  rfl
theorem rowOk_len {l : List Int} (h : rowOk l = true) : 1 ≤ l.length ∧ l.length ≤ 60 := by
  unfold rowOk at h
  simp only [Bool.and_eq_true, decide_eq_true_eq] at h
  omega
theorem rowOk_le {l : List Int} (h : rowOk l = true) : ∀ x ∈ l, x ≤ 7 := by
  intro x hx
  unfold rowOk at h
  simp only [Bool.and_eq_true, Bool.not_eq_true', List.any_eq_false, decide_eq_true_eq] at h
  have := h.2 x hx
  omega
end Go.Proofs.Ytnppegmilcocoaa.Pure
