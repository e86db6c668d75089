/- The greatest common divisor and the least common multiple, as the program and the reference compute them. -/
import Derived.Test.YtnppegmilcocoaaCom
import Derived.Test.YtnppegmilcocoaaPaf61
namespace Go.Proofs.Ytnppegmilcocoaa.Pure
open Go.RowKit Go.Proofs.Ytnppegmilcocoaa.Pa Go.Proofs.YtnppegmilcocoaaW.PrintWords Go.Proofs.YtnppegmilcocoaaW.PrintLast Go.Proofs.Ytnppegmilcocoaa.Com

theorem tmod_nat (x y : Nat) : Int.tmod (x : Int) (y : Int) = ((x % y : Nat) : Int) := by
  rw [Int.tmod_eq_emod_of_nonneg (by omega), Int.natCast_emod]
theorem multiple_loop (a b : Int) : ∀ (n k x y : Nat), y ≤ n → 0 < x + y → n < k → impl_multiple.l0 k a b x y = some (wrap64 (wrap64 (Int.tdiv a (Nat.gcd x y : Nat)) * b)) := by
  intro n
  induction n with
  | zero =>
    intro k x y hy hx hk
    obtain ⟨k, rfl⟩ : ∃ m, k = m + 1 := ⟨k - 1, by omega⟩
    obtain rfl : y = 0 := by omega
    simp only [impl_multiple.l0]
    rw [if_pos (by omega), if_neg (by omega), Nat.gcd_zero_right]
  | succ n ih =>
    intro k x y hy hx hk
    obtain ⟨k, rfl⟩ : ∃ m, k = m + 1 := ⟨k - 1, by omega⟩
    simp only [impl_multiple.l0]
    by_cases h : y = 0
    · subst h
      rw [if_pos (by omega), if_neg (by omega), Nat.gcd_zero_right]
    · have hlt := Nat.mod_lt x (show 0 < y by omega)
      rw [if_neg (by omega), tmod_nat, ih k y (x % y) (by omega) (by omega) (by omega), Nat.gcd_comm x y, Nat.gcd_rec y x, Nat.gcd_comm (x % y) y]
theorem multiple_is (k a b : Nat) (hb : b ≤ 100) (ha : 0 < a) (hb0 : 0 < b) (ha2 : a ≤ 1000000) (hk : 200 < k) : impl_multiple.f k a b = some ((Nat.lcm a b : Nat) : Int) := by
  unfold impl_multiple.f
  rw [multiple_loop a b b k a b (Nat.le_refl _) (by omega) (by omega)]
  have hg : 0 < Nat.gcd a b := Nat.gcd_pos_of_pos_left b ha
  have hdvd : Nat.gcd a b ∣ a := Nat.gcd_dvd_left a b
  have e1 : Int.tdiv (a : Int) (Nat.gcd a b : Nat) = ((a / Nat.gcd a b : Nat) : Int) := by
    rw [Int.tdiv_eq_ediv_of_nonneg (by omega), Int.natCast_ediv]
  have hle : a / Nat.gcd a b ≤ a := Nat.div_le_self _ _
  have hmul : (a / Nat.gcd a b) * b ≤ 1000000 * 100 := Nat.mul_le_mul (by omega) hb
  have el : Nat.lcm a b = a / Nat.gcd a b * b := by
    unfold Nat.lcm
    rw [Nat.mul_comm a b, Nat.mul_div_assoc b hdvd, Nat.mul_comm]
  have hq0 := Int.natCast_nonneg (a / Nat.gcd a b)
  have hq1 := Int.natCast_nonneg (a / Nat.gcd a b * b)
  generalize a / Nat.gcd a b = q at *
  rw [e1, w64 (i := (q : Int)) (by omega) (by omega), ← Int.natCast_mul, w64 (by omega) (by omega), el]
theorem lcm_le {a b : Nat} (ha : a ≤ 1000000) (hb : b ≤ 100) : Nat.lcm a b ≤ 100000000 :=
  Nat.le_trans (Nat.div_le_self _ _) (Nat.mul_le_mul ha hb)
end Go.Proofs.Ytnppegmilcocoaa.Pure
