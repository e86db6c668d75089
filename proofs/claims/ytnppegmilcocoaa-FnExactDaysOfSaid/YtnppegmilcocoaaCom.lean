/- Plain lemmas on counting loops, lists and whole numbers: nothing of the program is in sight. -/
import Derived.Test.YtnppegmilcocoaaWWords
import Derived.WalkKit
namespace Go.Proofs.Ytnppegmilcocoaa.Com
open Go.RowKit Go.Proofs.YtnppegmilcocoaaW.PrintWords

theorem w64 {i : Int} (h0 : -9223372036854775808 ≤ i) (h1 : i ≤ 9223372036854775807) : wrap64 i = i := by
  unfold wrap64; omega

/-- A loop that counts up to n: by the rounds that are left. -/
theorem up_ind {n : Int} {P : Nat → Int → Prop} (base : ∀ k, P (k + 1) n) (step : ∀ k i, 0 ≤ i → i < n → P k (i + 1) → P (k + 1) i) :
    ∀ (d k : Nat) (i : Int), 0 ≤ i → n - i = d → d < k → P k i := by
  intro d
  induction d with
  | zero =>
    intro k i h0 hd hk
    obtain ⟨k, rfl⟩ : ∃ m, k = m + 1 := ⟨k - 1, by omega⟩
    have : i = n := by omega
    subst this
    exact base k
  | succ d ih =>
    intro k i h0 hd hk
    obtain ⟨k, rfl⟩ : ∃ m, k = m + 1 := ⟨k - 1, by omega⟩
    exact step k i h0 (by omega) (ih k (i + 1) (by omega) (by omega) (by omega))
theorem up_from {n : Int} {P : Nat → Int → Prop} (base : ∀ k, P (k + 1) n) (step : ∀ k i, 0 ≤ i → i < n → P k (i + 1) → P (k + 1) i)
    (k : Nat) (i : Int) (h0 : 0 ≤ i) (h1 : i ≤ n) (hk : n - i < k) : P k i :=
  up_ind base step (n - i).toNat k i h0 (by omega) (by omega)

/-- The same, where m rounds stay in hand at the loop's end. -/
theorem up_ind' {n : Int} (m : Nat) {P : Nat → Int → Prop} (base : ∀ k, m ≤ k → P (k + 1) n) (step : ∀ k i, m ≤ k → 0 ≤ i → i < n → P k (i + 1) → P (k + 1) i) :
    ∀ (d k : Nat) (i : Int), 0 ≤ i → n - i = d → d + m < k → P k i := by
  intro d
  induction d with
  | zero =>
    intro k i h0 hd hk
    obtain ⟨k, rfl⟩ : ∃ m, k = m + 1 := ⟨k - 1, by omega⟩
    have : i = n := by omega
    subst this
    exact base k (by omega)
  | succ d ih =>
    intro k i h0 hd hk
    obtain ⟨k, rfl⟩ : ∃ m, k = m + 1 := ⟨k - 1, by omega⟩
    exact step k i (by omega) h0 (by omega) (ih k (i + 1) (by omega) (by omega) (by omega))
theorem up_from' {n : Int} (m : Nat) {P : Nat → Int → Prop} (base : ∀ k, m ≤ k → P (k + 1) n) (step : ∀ k i, m ≤ k → 0 ≤ i → i < n → P k (i + 1) → P (k + 1) i)
    (k : Nat) (i : Int) (h0 : 0 ≤ i) (h1 : i ≤ n) (hk : n - i + m < k) : P k i :=
  up_ind' m base step (n - i).toNat k i h0 (by omega) (by omega)

theorem rd_drop (xs : List Int) (i : Int) (h0 : 0 ≤ i) (h1 : i < xs.length) : xs.drop i.toNat = rd xs i :: xs.drop (i + 1).toNat := by
  have e : (i + 1).toNat = i.toNat + 1 := by omega
  rw [e, List.drop_eq_getElem_cons (show i.toNat < xs.length by omega)]
  unfold rd
  rw [List.getD_eq_getElem?_getD, List.getElem?_eq_getElem (by omega)]
  rfl

/-- Two lists of numbers are compared, one by one. -/
theorem eq_loop {L : Nat → Int → Option Bool} {a b : List Int} (hl : a.length = b.length) (hn : a.length ≤ 1048576)
    (step : ∀ k i, L (k + 1) i = if i < (a.length : Int) then (if 0 ≤ i then (if i < (b.length : Int) then (if rd a i = rd b i then L k (wrap64 (i + 1)) else some false) else none) else none) else some true)
    (k : Nat) (i : Int) (h0 : 0 ≤ i) (h1 : i ≤ a.length) (hk : (a.length : Int) - i < k) : L k i = some (decide (a.drop i.toNat = b.drop i.toNat)) := by
  refine up_from (n := a.length) (P := fun k i => L k i = some (decide (a.drop i.toNat = b.drop i.toNat))) (fun k => ?_) (fun k i h0 h1 ih => ?_) k i h0 h1 hk
  · rw [step, if_neg (by omega)]
    simp [hl]
  · rw [step, if_pos h1, if_pos h0, if_pos (by omega), w64 (by omega) (by omega)]
    rw [rd_drop a i h0 h1, rd_drop b i h0 (by omega)]
    by_cases e : rd a i = rd b i
    · rw [if_pos e, ih]; simp [e]
    · rw [if_neg e]; simp [e]
/-- A list is copied, one by one, into a list that is as long. -/
theorem copy_loop {L : Nat → List Int → Int → Option (List Int)} {a : List Int} (hn : a.length ≤ 1048576)
    (step : ∀ k x i, L (k + 1) x i = if i < (a.length : Int) then (if 0 ≤ i then (if i < (x.length : Int) then L k (x.set (i : Int).toNat (rd a i)) (wrap64 (i + 1)) else none) else none) else some x)
    (k : Nat) (i : Int) (h0 : 0 ≤ i) (h1 : i ≤ a.length) (hk : (a.length : Int) - i < k) :
    ∀ x : List Int, x.length = a.length → L k x i = some (x.take i.toNat ++ a.drop i.toNat) := by
  refine up_from (n := a.length) (P := fun k i => ∀ x : List Int, x.length = a.length → L k x i = some (x.take i.toNat ++ a.drop i.toNat)) (fun k x hx => ?_) (fun k i h0 h1 ih x hx => ?_) k i h0 h1 hk
  · rw [step, if_neg (by omega)]
    simp [← hx]
  · rw [step, if_pos h1, if_pos h0, if_pos (by omega), w64 (by omega) (by omega), ih _ (by simpa using hx), rd_drop a i h0 h1]
    congr 1
    have e : (i + 1).toNat = i.toNat + 1 := by omega
    rw [e, List.take_succ_eq_append_getElem (by simp; omega), List.append_assoc]
    congr 1
    · rw [List.take_set_of_le (Nat.le_refl _)]
    · simp
/-- Numbers are written over a list, one by one, rising; v: how a number is stored. -/
theorem mark_loop {v : Int → Int} {L : Nat → List Int → Int → Int → Option (Int × List Int)}
    (step : ∀ k x c i, L (k + 1) x c i = if i < (x.length : Int) then (if 0 ≤ i then L k (x.set (i : Int).toNat (v c)) (wrap64 (c + 1)) (wrap64 (i + 1)) else none) else some (c, x)) :
    ∀ (d k : Nat) (x : List Int) (c i : Int), 0 ≤ i → i + d = x.length → d < k → 0 ≤ c → c + d ≤ 1099511627776 → x.length ≤ 1099511627776 →
      L k x c i = some (c + d, x.take i.toNat ++ (List.range d).map fun j => v (c + (j : Nat))) := by
  intro d
  induction d with
  | zero =>
    intro k x c i h0 hd hk hc hcd hx
    obtain ⟨k, rfl⟩ : ∃ m, k = m + 1 := ⟨k - 1, by omega⟩
    rw [step, if_neg (by omega)]
    have : i.toNat = x.length := by omega
    simp [this]
  | succ d ih =>
    intro k x c i h0 hd hk hc hcd hx
    obtain ⟨k, rfl⟩ : ∃ m, k = m + 1 := ⟨k - 1, by omega⟩
    rw [step, if_pos (by omega), if_pos h0, w64 (by omega) (by omega), w64 (by omega) (by omega),
      ih k _ (c + 1) (i + 1) (by omega) (by rw [List.length_set]; omega) (by omega) (by omega) (by omega) (by rw [List.length_set]; omega)]
    have e : (i + 1).toNat = i.toNat + 1 := by omega
    congr 2
    · omega
    · rw [e, List.take_succ_eq_append_getElem (by rw [List.length_set]; omega), List.append_assoc, List.take_set_of_le (Nat.le_refl _), List.range_succ_eq_map]
      congr 1
      simp only [List.getElem_set_self, List.map_cons, List.map_map, List.singleton_append, Int.natCast_zero, Int.add_zero]
      congr 1
      refine List.map_congr_left fun j _ => ?_
      simp only [Function.comp]
      congr 1
      omega
/-- And they are found again. -/
theorem held_loop {v : Int → Int} {L : Nat → Int → Int → Option Int} {x : List Int}
    (step : ∀ k c i, L (k + 1) c i = if i < (x.length : Int) then (if 0 ≤ i then (if rd x i = v c then L k (wrap64 (c + 1)) (wrap64 (i + 1)) else some (-1)) else none) else some c) :
    ∀ (d k : Nat) (c i : Int), 0 ≤ i → i + d = x.length → d < k → 0 ≤ c → c + d ≤ 1099511627776 → x.length ≤ 1099511627776 →
      (∀ j : Nat, j < d → rd x (i + j) = v (c + j)) → L k c i = some (c + d) := by
  intro d
  induction d with
  | zero =>
    intro k c i h0 hd hk hc hcd hx hv
    obtain ⟨k, rfl⟩ : ∃ m, k = m + 1 := ⟨k - 1, by omega⟩
    rw [step, if_neg (by omega)]
    simp
  | succ d ih =>
    intro k c i h0 hd hk hc hcd hx hv
    obtain ⟨k, rfl⟩ : ∃ m, k = m + 1 := ⟨k - 1, by omega⟩
    have h1 : rd x i = v c := by simpa using hv 0 (by omega)
    rw [step, if_pos (by omega), if_pos h0, if_pos h1, w64 (by omega) (by omega), w64 (by omega) (by omega),
      ih k (c + 1) (i + 1) (by omega) (by omega) (by omega) (by omega) (by omega) hx (fun j hj => by
        have := hv (j + 1) (by omega)
        rw [show i + 1 + (j : Int) = i + ((j + 1 : Nat) : Int) by omega, show c + 1 + (j : Int) = c + ((j + 1 : Nat) : Int) by omega]
        exact this)]
    congr 1
    omega
theorem rd_map_range (d : Nat) (f : Nat → Int) (j : Nat) (hj : j < d) : rd ((List.range d).map f) (j : Int) = f j := by
  unfold rd
  simp [List.getD_eq_getElem?_getD, hj]
theorem wrap16 {i : Int} (h0 : -32768 ≤ i) (h1 : i ≤ 32767) : IntKind.i16.wrap i = i := by
  simp only [IntKind.wrap, IntKind.bits, IntKind.signed, Bool.true_and, decide_eq_true_eq, show ((2 : Int) ^ 16) = 65536 from rfl, show ((2 : Int) ^ (16 - 1)) = 32768 from rfl]
  split <;> omega
/-- Whatever a list's elements are: they are turned, one by one, into a list that is as long. -/
theorem map_loop {α β : Type} {L : Nat → List β → Int → Option (List β)} {a : List α} (z : α) (g : α → β) (hn : a.length ≤ 1048576)
    (step : ∀ k x i, L (k + 1) x i = if i < (a.length : Int) then (if 0 ≤ i then (if i < (x.length : Int) then L k (x.set (i : Int).toNat (g (a.getD i.toNat z))) (wrap64 (i + 1)) else none) else none) else some x)
    (k : Nat) (i : Int) (h0 : 0 ≤ i) (h1 : i ≤ a.length) (hk : (a.length : Int) - i < k) :
    ∀ x : List β, x.length = a.length → L k x i = some (x.take i.toNat ++ (a.drop i.toNat).map g) := by
  refine up_from (n := a.length) (P := fun k i => ∀ x : List β, x.length = a.length → L k x i = some (x.take i.toNat ++ (a.drop i.toNat).map g)) (fun k x hx => ?_) (fun k i h0 h1 ih x hx => ?_) k i h0 h1 hk
  · rw [step, if_neg (by omega)]
    simp [← hx]
  · have e : (i + 1).toNat = i.toNat + 1 := by omega
    have hi : i.toNat < a.length := by omega
    rw [step, if_pos h1, if_pos h0, if_pos (by omega), w64 (by omega) (by omega), ih _ (by simpa using hx), e, List.drop_eq_getElem_cons hi]
    congr 1
    rw [List.take_succ_eq_append_getElem (by simp; omega), List.append_assoc]
    congr 1
    · rw [List.take_set_of_le (Nat.le_refl _)]
    · simp only [List.getElem_set_self, List.map_cons, List.singleton_append, List.getD_eq_getElem?_getD, List.getElem?_eq_getElem hi, Option.getD_some]
/-- A list against itself. -/
theorem refl_loop {L : Nat → Int → Option Bool} {n : Nat} (hn : n ≤ 1048576) (base : ∀ k, L (k + 1) n = some true) (step : ∀ (k : Nat) (i : Int), 0 ≤ i → i < n → L (k + 1) i = L k (wrap64 (i + 1))) (k : Nat) (hk : n < k) : L k 0 = some true := by
  refine up_from (n := n) (P := fun k i => L k i = some true) base (fun k i h0 h1 ih => ?_) k 0 (by omega) (by omega) (by omega)
  rw [step k i h0 h1, w64 (by omega) (by omega)]
  exact ih
def codeIs (v f : Bool) : Int := if v = true then (if f = true then 0 else 2) else 1
end Go.Proofs.Ytnppegmilcocoaa.Com
