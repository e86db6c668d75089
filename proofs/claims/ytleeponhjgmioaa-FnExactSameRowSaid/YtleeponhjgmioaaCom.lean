/- Plain lemmas on counting loops, lists and whole numbers: nothing of the program is in sight. -/
import Derived.Test.YtleeponhjgmioaaWWords
import Derived.WalkKit
namespace Go.Proofs.Ytleeponhjgmioaa.Com
open Go.RowKit Go.Proofs.YtleeponhjgmioaaW.PrintWords

theorem w64 {i : Int} (h0 : -9223372036854775808 ≤ i) (h1 : i ≤ 9223372036854775807) : wrap64 i = i := by
  unfold wrap64; omega

/-- A loop that counts up to n: by the rounds that are left. -/
theorem up_ind {n : Int} {P : Nat → Int → Prop} (base : ∀ k, P (k + 1) n) (step : ∀ k i, 0 ≤ i → i < n → P k (i + 1) → P (k + 1) i) :
    ∀ (d k : Nat) (i : Int), 0 ≤ i → n - i = d → d < k → P k i := by
  intro d
  induction d with
  | zero =>
    intro k i h0 hd hk
    obtain ⟨k, rfl⟩ : ∃ m, k = m + 1 := ⟨k - 1, by omega⟩
    have : i = n := by omega
    subst this
    exact base k
  | succ d ih =>
    intro k i h0 hd hk
    obtain ⟨k, rfl⟩ : ∃ m, k = m + 1 := ⟨k - 1, by omega⟩
    exact step k i h0 (by omega) (ih k (i + 1) (by omega) (by omega) (by omega))
theorem up_from {n : Int} {P : Nat → Int → Prop} (base : ∀ k, P (k + 1) n) (step : ∀ k i, 0 ≤ i → i < n → P k (i + 1) → P (k + 1) i)
    (k : Nat) (i : Int) (h0 : 0 ≤ i) (h1 : i ≤ n) (hk : n - i < k) : P k i :=
  up_ind base step (n - i).toNat k i h0 (by omega) (by omega)

theorem rd_drop (xs : List Int) (i : Int) (h0 : 0 ≤ i) (h1 : i < xs.length) : xs.drop i.toNat = rd xs i :: xs.drop (i + 1).toNat := by
  have e : (i + 1).toNat = i.toNat + 1 := by omega
  rw [e, List.drop_eq_getElem_cons (show i.toNat < xs.length by omega)]
  unfold rd
  rw [List.getD_eq_getElem?_getD, List.getElem?_eq_getElem (by omega)]
  rfl

/-- Two lists of numbers are compared, one by one. -/
theorem eq_loop {L : Nat → Int → Option Bool} {a b : List Int} (hl : a.length = b.length) (hn : a.length ≤ 1048576)
    (step : ∀ k i, L (k + 1) i = if i < (a.length : Int) then (if 0 ≤ i then (if i < (b.length : Int) then (if rd a i = rd b i then L k (wrap64 (i + 1)) else some false) else none) else none) else some true)
    (k : Nat) (i : Int) (h0 : 0 ≤ i) (h1 : i ≤ a.length) (hk : (a.length : Int) - i < k) : L k i = some (decide (a.drop i.toNat = b.drop i.toNat)) := by
  refine up_from (n := a.length) (P := fun k i => L k i = some (decide (a.drop i.toNat = b.drop i.toNat))) (fun k => ?_) (fun k i h0 h1 ih => ?_) k i h0 h1 hk
  · rw [step, if_neg (by omega)]
    simp [hl]
  · rw [step, if_pos h1, if_pos h0, if_pos (by omega), w64 (by omega) (by omega)]
    rw [rd_drop a i h0 h1, rd_drop b i h0 (by omega)]
    by_cases e : rd a i = rd b i
    · rw [if_pos e, ih]; simp [e]
    · rw [if_neg e]; simp [e]
/-- A list is copied, one by one, into a list that is as long. -/
theorem copy_loop {L : Nat → List Int → Int → Option (List Int)} {a : List Int} (hn : a.length ≤ 1048576)
    (step : ∀ k x i, L (k + 1) x i = if i < (a.length : Int) then (if 0 ≤ i then (if i < (x.length : Int) then L k (x.set (i : Int).toNat (rd a i)) (wrap64 (i + 1)) else none) else none) else some x)
    (k : Nat) (i : Int) (h0 : 0 ≤ i) (h1 : i ≤ a.length) (hk : (a.length : Int) - i < k) :
    ∀ x : List Int, x.length = a.length → L k x i = some (x.take i.toNat ++ a.drop i.toNat) := by
  refine up_from (n := a.length) (P := fun k i => ∀ x : List Int, x.length = a.length → L k x i = some (x.take i.toNat ++ a.drop i.toNat)) (fun k x hx => ?_) (fun k i h0 h1 ih x hx => ?_) k i h0 h1 hk
  · rw [step, if_neg (by omega)]
    simp [← hx]
  · rw [step, if_pos h1, if_pos h0, if_pos (by omega), w64 (by omega) (by omega), ih _ (by simpa using hx), rd_drop a i h0 h1]
    congr 1
    have e : (i + 1).toNat = i.toNat + 1 := by omega
    rw [e, List.take_succ_eq_append_getElem (by simp; omega), List.append_assoc]
    congr 1
    · rw [List.take_set_of_le (Nat.le_refl _)]
    · simp
end Go.Proofs.Ytleeponhjgmioaa.Com
