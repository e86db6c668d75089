/- How often a walker came till a day, and what a day adds. -/
import Derived.Test.YtnppegmilcocoaaHTurn
import Derived.Test.YtnppegmilcocoaaPaf32
namespace Go.Proofs.Ytnppegmilcocoaa.Pure
open Go.RowKit Go.Proofs.Ytnppegmilcocoaa.Pa Go.Proofs.YtnppegmilcocoaaW.PrintWords Go.Proofs.YtnppegmilcocoaaW.PrintLast Go.Proofs.Ytnppegmilcocoaa.Com

def untilOf (d : Int) (x : S51) : Int := if d < wrap64 x.f0 then 0 else wrap64 (wrap64 (Int.tdiv (d - wrap64 x.f0) (wrap64 x.f1)) + 1)
theorem untilI_is (b d : Int) (x : S51) (hx : wOk b x) (hd : 0 ≤ d + 1 ∧ d ≤ 10000) :
    impl_Walker_until.f x.f0 x.f1 x.f2 x.f3 x.f4 x.f5 d = some (untilOf d x) := by
  obtain ⟨⟨h0, h1, _⟩, _⟩ := hx
  unfold impl_Walker_until.f untilOf
  rw [w64 (i := d - wrap64 x.f0) (by omega) (by omega)]
  by_cases h : d < wrap64 x.f0
  · rw [if_pos h, if_pos h]
  · rw [if_neg h, if_neg (by omega), if_neg h]
theorem untilOf_eq {b d : Int} {x : S51} (hx : wOk b x) (hd : 0 ≤ d + 1 ∧ d ≤ 10000) :
    untilOf d x = (if d < wrap64 x.f0 then 0 else (d - wrap64 x.f0) / wrap64 x.f1 + 1) ∧ 0 ≤ untilOf d x ∧ untilOf d x ≤ 10001 := by
  obtain ⟨⟨h0, h1, _⟩, _⟩ := hx
  unfold untilOf
  by_cases h : d < wrap64 x.f0
  · simp [h]
  · rw [if_neg h, if_neg h, Int.tdiv_eq_ediv_of_nonneg (by omega)]
    have a := Int.ediv_nonneg (show 0 ≤ d - wrap64 x.f0 by omega) (show 0 ≤ wrap64 x.f1 by omega)
    have c := Int.ediv_le_self (wrap64 x.f1) (show 0 ≤ d - wrap64 x.f0 by omega)
    rw [w64 (i := (d - wrap64 x.f0) / wrap64 x.f1) (by omega) (by omega), w64 (by omega) (by omega)]
    exact ⟨rfl, by omega, by omega⟩
theorem div_step {m e : Int} (he : 1 ≤ e) : m / e - (m - 1) / e = if m % e = 0 then 1 else 0 := by
  have h := Int.mul_ediv_add_emod m e
  have h0 := Int.emod_nonneg m (show e ≠ 0 by omega)
  have h1 := Int.emod_lt_of_pos m (show 0 < e by omega)
  by_cases hr : m % e = 0
  · rw [if_pos hr]
    have : (m - 1) / e = (e - 1) / e + (m / e - 1) := by
      rw [← Int.add_mul_ediv_left _ _ (show e ≠ 0 by omega), Int.mul_sub, Int.mul_one]
      congr 1
      omega
    rw [this, show (e - 1) / e = 0 from Int.ediv_eq_zero_of_lt (by omega) (by omega)]
    omega
  · rw [if_neg hr]
    have : (m - 1) / e = (m % e - 1) / e + m / e := by
      rw [← Int.add_mul_ediv_left _ _ (show e ≠ 0 by omega)]
      congr 1
      omega
    rw [this, show (m % e - 1) / e = 0 from Int.ediv_eq_zero_of_lt (by omega) (by omega)]
    omega
def comesB (x : S51) (d : Int) : Bool := decide (wrap64 x.f0 ≤ d) && decide ((d - wrap64 x.f0) % wrap64 x.f1 = 0)
theorem until_step {b d : Int} {x : S51} (hx : wOk b x) (hd : 0 ≤ d ∧ d ≤ 10000) : untilOf d x - untilOf (d - 1) x = if comesB x d = true then 1 else 0 := by
  rw [(untilOf_eq hx (by omega)).1, (untilOf_eq hx (show 0 ≤ (d - 1) + 1 ∧ d - 1 ≤ 10000 by omega)).1]
  obtain ⟨⟨h0, h1, _⟩, _⟩ := hx
  unfold comesB
  by_cases h : d < wrap64 x.f0
  · rw [if_pos h, if_pos (by omega), if_neg (by simp; omega)]
    rfl
  · rw [if_neg h]
    by_cases h2 : d - 1 < wrap64 x.f0
    · have : d - wrap64 x.f0 = 0 := by omega
      rw [if_pos h2, this, if_pos (by simp; omega)]
      simp
    · have := div_step (m := d - wrap64 x.f0) (e := wrap64 x.f1) (by omega)
      rw [if_neg h2, show d - 1 - wrap64 x.f0 = d - wrap64 x.f0 - 1 by omega]
      by_cases hz : (d - wrap64 x.f0) % wrap64 x.f1 = 0
      · rw [if_pos hz] at this
        rw [if_pos (by simp; omega)]
        omega
      · rw [if_neg hz] at this
        rw [if_neg (by simp; omega)]
        omega
theorem turnSum_congr {b : Int} {f g : S51 → Int} {j : Nat} : ∀ {l : List S51}, (∀ x ∈ l, f x = g x) → turnSum b f j l = turnSum b g j l
  | [], _ => rfl
  | x :: l, h => by
    rw [turnSum, turnSum, h x (List.mem_cons_self ..), turnSum_congr (l := l) (fun y hy => h y (List.mem_cons_of_mem _ hy))]
theorem turnSum_add {b : Int} {f g : S51 → Int} {j : Nat} : ∀ {l : List S51}, turnSum b (fun x => f x + g x) j l = turnSum b f j l + turnSum b g j l
  | [] => rfl
  | x :: l => by
    rw [turnSum, turnSum, turnSum, turnSum_add (l := l), Int.add_mul, Int.add_mul]
    omega
theorem turnSum_zero {b : Int} {j : Nat} : ∀ {l : List S51}, turnSum b (fun _ => 0) j l = 0
  | [] => rfl
  | x :: l => by
    rw [turnSum, turnSum_zero (l := l), Int.zero_mul, Int.zero_mul]
    rfl
theorem rd_small {r : List Int} (h0 : ∀ x ∈ r, 0 ≤ x) (h7 : ∀ x ∈ r, x ≤ 7) (j : Nat) : 0 ≤ rd r j ∧ rd r j < 8 := by
  unfold rd
  rw [List.getD_eq_getElem?_getD, Int.toNat_natCast]
  by_cases h : j < r.length
  · rw [List.getElem?_eq_getElem h]
    have a := h0 _ (List.getElem_mem h)
    have b := h7 _ (List.getElem_mem h)
    simp only [Option.getD_some]
    omega
  · rw [List.getElem?_eq_none (by omega)]
    simp
end Go.Proofs.Ytnppegmilcocoaa.Pure
