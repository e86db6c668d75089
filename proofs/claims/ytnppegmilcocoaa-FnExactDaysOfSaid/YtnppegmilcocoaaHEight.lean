/- Eighths of a turn: whole numbers modulo eight, and rows told place by place. Plain: no program in sight. -/
import Derived.Test.YtnppegmilcocoaaCom
namespace Go.Proofs.Ytnppegmilcocoaa.Com
open Go.RowKit Go.Proofs.YtnppegmilcocoaaW.PrintWords

theorem wrap_mod8 (x : Int) : wrap64 x % 8 = x % 8 := by unfold wrap64; omega
theorem tmod_mod8 (x : Int) : Int.tmod x 8 % 8 = x % 8 := by
  have := Int.mul_tdiv_add_tmod x 8
  omega
theorem mul_mod8 {a b : Int} (h : a % 8 = b % 8) (t : Int) : (a * t) % 8 = (b * t) % 8 := by
  rw [Int.mul_emod, h, ← Int.mul_emod]
/-- Both spellings of an eighth. -/
theorem eighth8 (a : Int) : Int.tmod (wrap64 (Int.tmod a 8 + 8)) 8 % 256 = a % 8 := by
  have hb := Int.tmod_lt_of_pos a (show (0 : Int) < 8 by omega)
  have hc := Int.lt_tmod_of_pos a (show (0 : Int) < 8 by omega)
  have := tmod_mod8 a
  rw [w64 (i := Int.tmod a 8 + 8) (by omega) (by omega), Int.tmod_eq_emod_of_nonneg (by omega)]
  omega
theorem turn8 (x c v t : Int) : wrap64 (wrap64 x + wrap64 (wrap64 (Int.tmod c 8 * v) * t)) % 8 = (x + c * v * t) % 8 := by
  have h1 := wrap_mod8 x
  have h2 : wrap64 (wrap64 (Int.tmod c 8 * v) * t) % 8 = (c * v * t) % 8 := by
    rw [wrap_mod8]
    exact mul_mod8 ((wrap_mod8 _).trans (mul_mod8 (tmod_mod8 c) v)) t
  rw [wrap_mod8]
  generalize wrap64 (wrap64 (Int.tmod c 8 * v) * t) = y at *
  generalize c * v * t = z at *
  omega
/-- A row of n numbers, told place by place. -/
def rowBy (n : Nat) (F : Nat → Int) : List Int := (List.range n).map F
theorem rowBy_length (n : Nat) (F : Nat → Int) : (rowBy n F).length = n := by simp [rowBy]
theorem rowBy_rd {n : Nat} {F : Nat → Int} {i : Int} (h0 : 0 ≤ i) (h1 : i < n) : rd (rowBy n F) i = F i.toNat := by
  have := rd_map_range n F i.toNat (by omega)
  rwa [show ((i.toNat : Nat) : Int) = i by omega] at this
theorem rowBy_congr {n : Nat} {F G : Nat → Int} (h : ∀ j, j < n → F j = G j) : rowBy n F = rowBy n G := by
  unfold rowBy
  exact List.map_congr_left fun j hj => h j (List.mem_range.1 hj)
theorem rowBy_eta (l : List Int) : rowBy l.length (fun j => rd l j) = l := by
  refine List.ext_getElem (by simp [rowBy]) fun j h1 h2 => ?_
  simp [rowBy, rd, List.getD_eq_getElem?_getD, List.getElem?_eq_getElem h2]
theorem rowBy_zero (n : Nat) : List.replicate n (0 : Int) = rowBy n (fun _ => 0) := by
  unfold rowBy
  rw [List.map_const', List.length_range]
theorem rowBy_set {n : Nat} {F : Nat → Int} {i : Int} (y : Int) : (rowBy n F).set i.toNat y = rowBy n (fun j => if j = i.toNat then y else F j) := by
  refine List.ext_getElem (by simp [rowBy]) fun j h1 h2 => ?_
  simp only [rowBy, List.getElem_set, List.getElem_map, List.getElem_range]
  by_cases h : i.toNat = j
  · rw [if_pos h, if_pos h.symm]
  · rw [if_neg h, if_neg (fun e => h e.symm)]
/-- A loop that turns each place of a row of n, and goes on with what is left of its rounds. -/
theorem set_loop {R : Type} {L : Nat → List Int → Int → Option R} {E : Nat → List Int → Option R} {g : Nat → Int → Int} {n : Nat} (hn : n ≤ 1048576)
    (base : ∀ k F, L (k + 1) (rowBy n F) n = E k (rowBy n F))
    (step : ∀ k F i, 0 ≤ i → i < (n : Int) → L (k + 1) (rowBy n F) i = L k ((rowBy n F).set i.toNat (g i.toNat (F i.toNat))) (wrap64 (i + 1))) :
    ∀ (d k : Nat) (F : Nat → Int) (i : Int), 0 ≤ i → i + d = n → d < k → L k (rowBy n F) i = E (k - d - 1) (rowBy n (fun j => if i ≤ (j : Int) then g j (F j) else F j)) := by
  intro d
  induction d with
  | zero =>
    intro k F i h0 hd hk
    obtain ⟨k, rfl⟩ : ∃ m, k = m + 1 := ⟨k - 1, by omega⟩
    have : i = n := by omega
    subst this
    rw [base, show k + 1 - 0 - 1 = k by omega]
    congr 1
    exact rowBy_congr fun j hj => by rw [if_neg (by omega)]
  | succ d ih =>
    intro k F i h0 hd hk
    obtain ⟨k, rfl⟩ : ∃ m, k = m + 1 := ⟨k - 1, by omega⟩
    rw [step k F i h0 (by omega), w64 (by omega) (by omega), rowBy_set, ih k _ (i + 1) (by omega) (by omega) (by omega), show k + 1 - (d + 1) - 1 = k - d - 1 by omega]
    congr 1
    refine rowBy_congr fun j hj => ?_
    by_cases h : j = i.toNat
    · subst h
      rw [if_neg (by omega), if_pos rfl, if_pos (by omega)]
    · by_cases h2 : i + 1 ≤ (j : Int)
      · rw [if_pos h2, if_neg h, if_pos (by omega)]
      · rw [if_neg h2, if_neg h, if_neg (by omega)]
theorem set_loop0 {R : Type} {L : Nat → List Int → Int → Option R} {E : Nat → List Int → Option R} {g : Nat → Int → Int} {n : Nat} (hn : n ≤ 1048576)
    (base : ∀ k F, L (k + 1) (rowBy n F) n = E k (rowBy n F))
    (step : ∀ k F i, 0 ≤ i → i < (n : Int) → L (k + 1) (rowBy n F) i = L k ((rowBy n F).set i.toNat (g i.toNat (F i.toNat))) (wrap64 (i + 1)))
    (k : Nat) (F : Nat → Int) (hk : n < k) : L k (rowBy n F) 0 = E (k - n - 1) (rowBy n (fun j => g j (F j))) := by
  rw [set_loop hn base step n k F 0 (by omega) (by omega) hk]
  congr 1
end Go.Proofs.Ytnppegmilcocoaa.Com
