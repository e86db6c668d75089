/- Rings: the greatest number of balanced classes; the search of the first rings, walked. -/
import Derived.Test.YtlipfbihlmlplaaProg
import Derived.Maps.OwnOps
import Derived.WalkKit
import Derived.Carry
import Derived.KernelRfl
import Derived.Deep.RegionHeld3
import Derived.IntWalk
import Derived.Deep.AppendLies
import Derived.Tactics2
import Derived.Laws.EntriesVeiled
import Derived.Deep.RegionLaw
import Derived.Deep.RegionLawGrows
import Derived.StillTactics
import Derived.Deep.MidRow
import Derived.WalkSpells
import Derived.Laws.Pointers
namespace Go.Proofs.Rg
set_option linter.unusedVariables false
set_option linter.unusedSimpArgs false
def sumN (f : Nat → Int) : Nat → Int
  | 0 => 0
  | n + 1 => sumN f n + f n
theorem sumN_congr {f g : Nat → Int} : ∀ (n : Nat), (∀ i, i < n → f i = g i) → sumN f n = sumN g n
  | 0, _ => rfl
  | n + 1, h => by rw [sumN, sumN, sumN_congr n (fun i hi => h i (by omega)), h n (by omega)]
theorem sumN_add (f g : Nat → Int) : ∀ n, sumN (fun i => f i + g i) n = sumN f n + sumN g n
  | 0 => rfl
  | n + 1 => by
    have := sumN_add f g n
    simp only [sumN]
    omega
theorem sumN_zero : ∀ n, sumN (fun _ => 0) n = 0
  | 0 => rfl
  | n + 1 => by rw [sumN, sumN_zero n]; rfl
def BalN {X : Type} (d : Nat → X → Int) (n : Nat) (f : Nat → Bool) : Prop := ∀ x, sumN (fun i => if f i = true then d i x else 0) n = 0
theorem BalN.congr {X : Type} {d : Nat → X → Int} {n : Nat} {f g : Nat → Bool} (h : BalN d n f) (e : ∀ i, i < n → f i = g i) : BalN d n g := fun x => by
  refine (sumN_congr n (fun i hi => ?_)).trans (h x)
  rw [e i hi]
theorem BalN.union {X : Type} {d : Nat → X → Int} {n : Nat} {f g : Nat → Bool} (hf : BalN d n f) (hg : BalN d n g) (ha : ∀ i, i < n → f i = true → g i = false) : BalN d n (fun i => f i || g i) := fun x => by
  have h := sumN_add (fun i => if f i = true then d i x else 0) (fun i => if g i = true then d i x else 0) n
  rw [hf x, hg x] at h
  rw [← show sumN (fun i => (if f i = true then d i x else 0) + (if g i = true then d i x else 0)) n = 0 from h]
  refine sumN_congr n (fun i hi => ?_)
  have := ha i hi
  cases hfi : f i <;> cases hgi : g i <;> simp_all
theorem BalN.diff {X : Type} {d : Nat → X → Int} {n : Nat} {f g : Nat → Bool} (hf : BalN d n f) (hg : BalN d n g) (ha : ∀ i, i < n → g i = true → f i = true) : BalN d n (fun i => f i && !g i) := fun x => by
  have h := sumN_add (fun i => if (f i && !g i) = true then d i x else 0) (fun i => if g i = true then d i x else 0) n
  have e : sumN (fun i => (if (f i && !g i) = true then d i x else 0) + (if g i = true then d i x else 0)) n = sumN (fun i => if f i = true then d i x else 0) n := by
    refine sumN_congr n (fun i hi => ?_)
    have := ha i hi
    cases hfi : f i <;> cases hgi : g i <;> simp_all
  rw [e, hf x, hg x] at h
  show sumN (fun i => if (f i && !g i) = true then d i x else 0) n = 0
  omega
theorem BalN.none {X : Type} (d : Nat → X → Int) (n : Nat) : BalN d n (fun _ => false) := fun x => sumN_zero n
def numOf (f : Nat → Bool) : Nat → Nat
  | 0 => 0
  | n + 1 => numOf f n ||| (if f n = true then 2 ^ n else 0)
theorem numOf_bit (f : Nat → Bool) : ∀ (n i : Nat), (numOf f n).testBit i = (decide (i < n) && f i)
  | 0, i => by simp [numOf]
  | n + 1, i => by
    rw [numOf, Nat.testBit_or, numOf_bit f n i]
    by_cases c : f n = true
    · rw [if_pos c, Nat.testBit_two_pow]
      by_cases e : n = i
      · subst e; simp [c]
      · have : decide (i < n + 1) = decide (i < n) := by
          rw [decide_eq_decide]; omega
        simp [e, this]
    · rw [if_neg c]
      by_cases e : n = i
      · subst e; simp [Bool.eq_false_iff.2 c]
      · have : decide (i < n + 1) = decide (i < n) := by
          rw [decide_eq_decide]; omega
        simp [this]
theorem numOf_lt (f : Nat → Bool) (n : Nat) : numOf f n < 2 ^ n := by
  refine Nat.lt_pow_two_of_testBit _ (fun i hi => ?_)
  rw [numOf_bit]
  simp; omega
theorem bits_ext {s t n : Nat} (hs : s < 2 ^ n) (ht : t < 2 ^ n) (h : ∀ i, i < n → s.testBit i = t.testBit i) : s = t := by
  refine Nat.eq_of_testBit_eq (fun i => ?_)
  rcases Nat.lt_or_ge i n with q | q
  · exact h i q
  · rw [Nat.testBit_lt_two_pow (Nat.lt_of_lt_of_le hs (Nat.pow_le_pow_right (by omega) q)), Nat.testBit_lt_two_pow (Nat.lt_of_lt_of_le ht (Nat.pow_le_pow_right (by omega) q))]
theorem xor_bit (s i j : Nat) : (s ^^^ 2 ^ i).testBit j = if i = j then !s.testBit j else s.testBit j := by
  rw [Nat.testBit_xor, Nat.testBit_two_pow]
  by_cases e : i = j
  · subst e; simp
  · simp [e]
def cardN (s : Nat) : Nat → Nat
  | 0 => 0
  | n + 1 => cardN s n + (if s.testBit n = true then 1 else 0)
theorem card_xor (s i : Nat) (h : s.testBit i = true) : ∀ n, cardN (s ^^^ 2 ^ i) n + (if i < n then 1 else 0) = cardN s n
  | 0 => rfl
  | n + 1 => by
    have ih := card_xor s i h n
    have hb := xor_bit s i n
    rw [cardN, cardN]
    by_cases e : i = n
    · subst e
      rw [if_pos rfl, h] at hb
      have e1 : (if i < i then 1 else 0) = 0 := if_neg (by omega)
      have e2 : (if i < i + 1 then 1 else 0) = 1 := if_pos (by omega)
      have e3 : (if s.testBit i = true then 1 else 0) = 1 := if_pos h
      have e4 : (if (s ^^^ 2 ^ i).testBit i = true then 1 else 0) = 0 := if_neg (by rw [hb]; simp)
      omega
    · rw [if_neg e] at hb
      rw [hb]
      by_cases q : i < n
      · have e1 : (if i < n then 1 else 0) = 1 := if_pos q
        have e2 : (if i < n + 1 then 1 else 0) = 1 := if_pos (by omega)
        omega
      · have e1 : (if i < n then 1 else 0) = 0 := if_neg q
        have e2 : (if i < n + 1 then 1 else 0) = 0 := if_neg (by omega)
        omega
theorem xor_two_lt {s i n : Nat} (hs : s < 2 ^ n) (hi : i < n) : s ^^^ 2 ^ i < 2 ^ n := Nat.xor_lt_two_pow hs (Nat.pow_lt_pow_right (by omega) hi)
structure Table {X : Type} (d : Nat → X → Int) (n : Nat) (T : Nat → Int) : Prop where
  zero : T 0 = 0
  ge : ∀ s, s < 2 ^ n → ∀ i, i < n → s.testBit i = true → T (s ^^^ 2 ^ i) ≤ T s
  geB : ∀ s, s < 2 ^ n → ∀ i, i < n → s.testBit i = true → BalN d n s.testBit → T (s ^^^ 2 ^ i) + 1 ≤ T s
  ex : ∀ s, 0 < s → s < 2 ^ n → ∃ i, i < n ∧ s.testBit i = true ∧ ((BalN d n s.testBit ∧ T s = T (s ^^^ 2 ^ i) + 1) ∨ (¬ BalN d n s.testBit ∧ T s = T (s ^^^ 2 ^ i)))
theorem Table.mono {X : Type} {d : Nat → X → Int} {n : Nat} {T : Nat → Int} (h : Table d n T) : ∀ (c t s : Nat), cardN t n = c → t < 2 ^ n → s < 2 ^ n → (∀ i, i < n → s.testBit i = true → t.testBit i = true) → T s ≤ T t := by
  intro c
  induction c using Nat.strongRecOn with
  | _ c ih =>
    intro t s hc ht hs hst
    by_cases e : s = t
    · rw [e]; exact Int.le_refl _
    · obtain ⟨i, hi, h1, h2⟩ : ∃ i, i < n ∧ t.testBit i = true ∧ s.testBit i = false := by
        by_cases q : ∃ i, i < n ∧ t.testBit i = true ∧ s.testBit i = false
        · exact q
        · refine absurd (bits_ext hs ht (fun i hi => ?_)) e
          cases hti : t.testBit i with
          | true =>
            cases hsi : s.testBit i with
            | true => rfl
            | false => exact absurd ⟨i, hi, hti, hsi⟩ q
          | false =>
            cases hsi : s.testBit i with
            | true => rw [hst i hi hsi] at hti; cases hti
            | false => rfl
      have hx := card_xor t i h1 n
      rw [if_pos hi] at hx
      refine Int.le_trans (ih _ (by omega) _ s rfl (xor_two_lt ht hi) hs (fun j hj hsj => ?_)) (h.ge t ht i hi h1)
      rw [xor_bit]
      by_cases e2 : i = j
      · subst e2; rw [h2] at hsj; cases hsj
      · rw [if_neg e2]; exact hst j hj hsj
structure Classes {X : Type} (d : Nat → X → Int) (n : Nat) (p : Nat → Nat) (k : Nat) : Prop where
  lt : ∀ i, i < n → p i < k
  ne : ∀ j, j < k → ∃ i, i < n ∧ p i = j
  bal : ∀ j, j < k → BalN d n (fun i => decide (p i = j))
theorem Table.lower {X : Type} {d : Nat → X → Int} {n : Nat} {T : Nat → Int} (h : Table d n T) {p : Nat → Nat} {k : Nat} (c : Classes d n p k) : (k : Int) ≤ T (2 ^ n - 1) := by
  have balU : ∀ j, j ≤ k → BalN d n (fun i => decide (p i < j)) := by
    intro j
    induction j with
    | zero => exact fun _ => (BalN.none d n).congr (fun i _ => by simp)
    | succ j ih =>
      intro hj
      refine ((ih (by omega)).union (c.bal j (by omega)) (fun i _ h1 => by simp at h1 ⊢; omega)).congr (fun i _ => ?_)
      rw [Bool.eq_iff_iff]
      simp only [Bool.or_eq_true, decide_eq_true_eq]
      omega
  have key : ∀ j, j ≤ k → (j : Int) ≤ T (numOf (fun i => decide (p i < j)) n) := by
    intro j
    induction j with
    | zero =>
      intro _
      have e : numOf (fun i => decide (p i < 0)) n = 0 := bits_ext (numOf_lt _ n) (Nat.two_pow_pos n) (fun i hi => by rw [numOf_bit]; simp)
      rw [e, h.zero]
      exact Int.le_refl _
    | succ j ih =>
      intro hj
      have h1 := ih (by omega)
      obtain ⟨i, hi, hpi⟩ := c.ne j (by omega)
      have hb : (numOf (fun i => decide (p i < j + 1)) n).testBit i = true := by rw [numOf_bit]; simp [hi]; omega
      have h2 := h.geB _ (numOf_lt _ n) i hi hb ((balU (j + 1) hj).congr (fun q hq => by rw [numOf_bit]; simp [hq]))
      have h3 := h.mono _ (numOf (fun i => decide (p i < j + 1)) n ^^^ 2 ^ i) (numOf (fun i => decide (p i < j)) n) rfl (xor_two_lt (numOf_lt _ n) hi) (numOf_lt _ n) (fun q hq hs => by
        rw [numOf_bit] at hs
        rw [xor_bit, numOf_bit]
        simp only [hq, decide_true, Bool.true_and, decide_eq_true_eq] at hs ⊢
        by_cases e : i = q
        · subst e; omega
        · rw [if_neg e]; simp; omega)
      push_cast
      omega
  have e : numOf (fun i => decide (p i < k)) n = 2 ^ n - 1 := by
    refine bits_ext (numOf_lt _ n) (by have := Nat.two_pow_pos n; omega) (fun i hi => ?_)
    rw [numOf_bit, Nat.testBit_two_pow_sub_one]
    simp [hi, c.lt i hi]
  have := key k (Nat.le_refl _)
  rw [e] at this
  exact this
theorem Table.upper {X : Type} {d : Nat → X → Int} {n : Nat} {T : Nat → Int} (h : Table d n T) : ∀ (c s : Nat), cardN s n = c → s < 2 ^ n → ∃ (t k : Nat) (p : Nat → Nat), t < 2 ^ n ∧ (∀ i, i < n → t.testBit i = true → s.testBit i = true) ∧ T s = (k : Int) ∧ BalN d n t.testBit ∧
    (∀ i, i < n → t.testBit i = true → p i < k) ∧ (∀ j, j < k → ∃ i, i < n ∧ t.testBit i = true ∧ p i = j) ∧ (∀ j, j < k → BalN d n (fun i => t.testBit i && decide (p i = j))) ∧ (BalN d n s.testBit → t = s) := by
  intro c
  induction c using Nat.strongRecOn with
  | _ c ih =>
    intro s hc hs
    rcases Nat.eq_zero_or_pos s with rfl | hpos
    · exact ⟨0, 0, fun _ => 0, hs, fun i _ h => h, h.zero, (BalN.none d n).congr (fun i _ => by simp), fun i _ h => by simp at h, fun j hj => by omega, fun j hj => by omega, fun _ => rfl⟩
    · obtain ⟨i, hi, hb, hT⟩ := h.ex s hpos hs
      have hx := card_xor s i hb n
      rw [if_pos hi] at hx
      obtain ⟨t, k, p, t1, t2, t3, t4, t5, t6, t7, _⟩ := ih _ (by omega) _ rfl (xor_two_lt hs hi)
      have hti : t.testBit i = false := by
        cases q : t.testBit i with
        | false => rfl
        | true =>
          have := t2 i hi q
          rw [xor_bit, if_pos rfl, hb] at this
          cases this
      have hsub : ∀ j, j < n → t.testBit j = true → s.testBit j = true := fun j hj q => by
        have := t2 j hj q
        rw [xor_bit] at this
        by_cases e : i = j
        · subst e; exact hb
        · rw [if_neg e] at this; exact this
      rcases hT with ⟨hB, hT⟩ | ⟨hB, hT⟩
      · refine ⟨s, k + 1, fun j => if t.testBit j = true then p j else k, hs, fun _ _ q => q, by rw [hT, t3]; push_cast; rfl, hB, fun j hj hsj => ?_, fun j hj => ?_, fun j hj => ?_, fun _ => rfl⟩
        · simp only
          split
          · rename_i q; have := t5 j hj q; omega
          · omega
        · by_cases e : j < k
          · obtain ⟨q, q1, q2, q3⟩ := t6 j e
            exact ⟨q, q1, hsub q q1 q2, by simp only [q2, if_true]; exact q3⟩
          · have e : j = k := by omega
            subst e
            exact ⟨i, hi, hb, by simp [hti]⟩
        · by_cases e : j < k
          · refine (t7 j e).congr (fun q hq => ?_)
            cases hq2 : t.testBit q with
            | true => simp only [hq2, hsub q hq hq2, if_true]
            | false =>
              simp only [hq2, Bool.false_and, Bool.false_eq_true, if_false]
              rw [decide_eq_false (show ¬ k = j by omega), Bool.and_false]
          · have e : j = k := by omega
            subst e
            refine (hB.diff t4 hsub).congr (fun q hq => ?_)
            cases hq2 : t.testBit q with
            | true =>
              have := t5 q hq hq2
              simp only [hq2, if_true, Bool.not_true, Bool.and_false]
              rw [decide_eq_false (show ¬ p q = j by omega), Bool.and_false]
            | false => simp [hq2]
      · exact ⟨t, k, p, t1, hsub, by rw [hT, t3], t4, t5, t6, t7, fun q => absurd q hB⟩
theorem Table.classes {X : Type} {d : Nat → X → Int} {n : Nat} {T : Nat → Int} (h : Table d n T) (hb : BalN d n (fun _ => true)) : ∃ (k : Nat) (p : Nat → Nat), T (2 ^ n - 1) = (k : Int) ∧ Classes d n p k := by
  have hs : 2 ^ n - 1 < 2 ^ n := by have := Nat.two_pow_pos n; omega
  have hbit : ∀ i, i < n → (2 ^ n - 1).testBit i = true := fun i hi => by rw [Nat.testBit_two_pow_sub_one]; simp [hi]
  obtain ⟨t, k, p, t1, t2, t3, t4, t5, t6, t7, t8⟩ := h.upper _ _ rfl hs
  have e := t8 (hb.congr (fun i hi => (hbit i hi).symm))
  subst e
  exact ⟨k, p, t3, ⟨fun i hi => t5 i hi (hbit i hi), fun j hj => by obtain ⟨i, q1, _, q2⟩ := t6 j hj; exact ⟨i, q1, q2⟩, fun j hj => (t7 j hj).congr (fun i hi => by rw [hbit i hi, Bool.true_and])⟩⟩
def leaves : Nat → List Int → Nat → List (List Int × Nat)
  | 0, parts, next => [(parts, next)]
  | r + 1, parts, next => (List.range (next + 1)).flatMap fun (part : Nat) => leaves r (parts ++ [(part : Int)]) (max next (part + 1))
def LabOk (parts : List Int) (next : Nat) : Prop := (∀ x, x ∈ parts → ∃ j : Nat, x = (j : Int) ∧ j < next) ∧ ∀ j : Nat, j < next → (j : Int) ∈ parts
theorem LabOk.snoc {parts : List Int} {next part : Nat} (h : LabOk parts next) (hp : part ≤ next) : LabOk (parts ++ [(part : Int)]) (max next (part + 1)) := by
  refine ⟨fun x hx => ?_, fun j hj => ?_⟩
  · rcases List.mem_append.1 hx with q | q
    · obtain ⟨j, e, hj⟩ := h.1 x q
      exact ⟨j, e, by omega⟩
    · exact ⟨part, List.mem_singleton.1 q, by omega⟩
  · by_cases e : j < next
    · exact List.mem_append_left _ (h.2 j e)
    · have e2 : j = part := by omega
      rw [e2]
      exact List.mem_append_right _ (List.mem_singleton.2 rfl)
theorem leaves_ok : ∀ (r : Nat) (parts : List Int) (next : Nat), LabOk parts next → ∀ l, l ∈ leaves r parts next → LabOk l.1 l.2 ∧ l.1.length = parts.length + r
  | 0, parts, next, h, l, hl => by
    obtain rfl := List.mem_singleton.1 hl
    exact ⟨h, rfl⟩
  | r + 1, parts, next, h, l, hl => by
    obtain ⟨part, hp, hl⟩ := List.mem_flatMap.1 hl
    have hp := List.mem_range.1 hp
    obtain ⟨h1, h2⟩ := leaves_ok r _ _ (h.snoc (part := part) (by omega)) l hl
    rw [List.length_append, List.length_singleton] at h2
    exact ⟨h1, by omega⟩
theorem labOk_nil : LabOk [] 0 := ⟨fun x h => (by cases h), fun j h => by omega⟩
structure Same (p : Nat → Nat) (m : Nat) (parts : List Int) (next : Nat) (reps : List Nat) : Prop where
  len : parts.length = m
  nrep : reps.length = next
  iff_ : ∀ i, i < m → ∀ j, j < next → (parts[i]? = some (j : Int) ↔ reps[j]? = some (p i))
  lab : ∀ i, i < m → ∃ j, j < next ∧ parts[i]? = some (j : Int)
theorem same_leaf (p : Nat → Nat) : ∀ (r m : Nat) (parts : List Int) (next : Nat) (reps : List Nat), Same p m parts next reps → (∀ i j, i < next → j < next → reps[i]? = reps[j]? → i = j) →
    ∃ l reps', l ∈ leaves r parts next ∧ Same p (m + r) l.1 l.2 reps'
  | 0, m, parts, next, reps, h, hn => ⟨(parts, next), reps, List.mem_singleton.2 rfl, h⟩
  | r + 1, m, parts, next, reps, h, hn => by
    by_cases c : ∃ j, j < next ∧ reps[j]? = some (p m)
    · obtain ⟨j, hj, hr⟩ := c
      have hmax : max next (j + 1) = next := by omega
      obtain ⟨l, reps', h1, h2⟩ := same_leaf p r (m + 1) (parts ++ [(j : Int)]) next reps ⟨by simp [h.len], h.nrep, fun i hi q hq => by
        by_cases e : i < m
        · rw [List.getElem?_append_left (by rw [h.len]; exact e)]
          exact h.iff_ i e q hq
        · have e : i = m := by omega
          subst e
          rw [List.getElem?_append_right (by rw [h.len]; omega), h.len, Nat.sub_self]
          simp only [List.getElem?_cons_zero, Option.some.injEq]
          constructor
          · intro q1
            have : j = q := by omega
            rw [← this]; exact hr
          · intro q1
            have := hn j q hj hq (by rw [hr, q1])
            omega, fun i hi => by
        by_cases e : i < m
        · rw [List.getElem?_append_left (by rw [h.len]; exact e)]
          exact h.lab i e
        · have e : i = m := by omega
          subst e
          exact ⟨j, hj, by rw [List.getElem?_append_right (by rw [h.len]; omega), h.len, Nat.sub_self]; rfl⟩⟩ hn
      refine ⟨l, reps', List.mem_flatMap.2 ⟨j, List.mem_range.2 (by omega), by rw [hmax]; exact h1⟩, ?_⟩
      rw [show m + (r + 1) = m + 1 + r by omega]
      exact h2
    · have hmax : max next (next + 1) = next + 1 := by omega
      have hnew : ∀ j, j < next → reps[j]? ≠ some (p m) := fun j hj q => c ⟨j, hj, q⟩
      obtain ⟨l, reps', h1, h2⟩ := same_leaf p r (m + 1) (parts ++ [(next : Int)]) (next + 1) (reps ++ [p m]) ⟨by simp [h.len], by simp [h.nrep], fun i hi q hq => by
        by_cases e : i < m
        · rw [List.getElem?_append_left (by rw [h.len]; exact e)]
          by_cases e2 : q < next
          · rw [List.getElem?_append_left (by rw [h.nrep]; exact e2)]
            exact h.iff_ i e q e2
          · have e2 : q = next := by omega
            subst e2
            rw [List.getElem?_append_right (by rw [h.nrep]; omega), h.nrep, Nat.sub_self]
            obtain ⟨j, hj, hl⟩ := h.lab i e
            rw [hl]
            simp only [List.getElem?_cons_zero, Option.some.injEq]
            constructor
            · intro q1; omega
            · intro q1
              have := (h.iff_ i e j hj).1 hl
              rw [← q1] at this
              exact absurd this (hnew j hj)
        · have e : i = m := by omega
          subst e
          rw [List.getElem?_append_right (by rw [h.len]; omega), h.len, Nat.sub_self]
          simp only [List.getElem?_cons_zero, Option.some.injEq]
          by_cases e2 : q < next
          · rw [List.getElem?_append_left (by rw [h.nrep]; exact e2)]
            constructor
            · intro q1; omega
            · intro q1; exact absurd q1 (hnew q e2)
          · have e2 : q = next := by omega
            subst e2
            rw [List.getElem?_append_right (by rw [h.nrep]; omega), h.nrep, Nat.sub_self]
            simp, fun i hi => by
        by_cases e : i < m
        · rw [List.getElem?_append_left (by rw [h.len]; exact e)]
          obtain ⟨j, hj, hl⟩ := h.lab i e
          exact ⟨j, by omega, hl⟩
        · have e : i = m := by omega
          subst e
          exact ⟨next, by omega, by rw [List.getElem?_append_right (by rw [h.len]; omega), h.len, Nat.sub_self]; rfl⟩⟩ (fun i j hi hj e => by
        by_cases e1 : i < next
        · by_cases e2 : j < next
          · rw [List.getElem?_append_left (by rw [h.nrep]; exact e1), List.getElem?_append_left (by rw [h.nrep]; exact e2)] at e
            exact hn i j e1 e2 e
          · have e2 : j = next := by omega
            subst e2
            rw [List.getElem?_append_left (by rw [h.nrep]; exact e1), List.getElem?_append_right (by rw [h.nrep]; omega), h.nrep, Nat.sub_self] at e
            exact absurd e (hnew i e1)
        · have e1 : i = next := by omega
          subst e1
          by_cases e2 : j < i
          · rw [List.getElem?_append_right (by rw [h.nrep]; omega), h.nrep, Nat.sub_self, List.getElem?_append_left (by rw [h.nrep]; exact e2)] at e
            exact absurd e.symm (hnew j e2)
          · omega)
      refine ⟨l, reps', List.mem_flatMap.2 ⟨next, List.mem_range.2 (by omega), by rw [hmax]; exact h1⟩, ?_⟩
      rw [show m + (r + 1) = m + 1 + r by omega]
      exact h2
theorem hole : ∀ (k : Nat) (l : List Nat), (∀ j, j < k → j ∈ l) → k ≤ l.length
  | 0, _, _ => Nat.zero_le _
  | k + 1, l, h => by
    have h1 := hole k (l.erase k) (fun j hj => (List.mem_erase_of_ne (by omega)).2 (h j (by omega)))
    have h2 := List.length_erase_of_mem (h k (by omega))
    have h3 : 0 < l.length := List.length_pos_of_mem (h k (by omega))
    omega
def BalP {X : Type} (d : Nat → X → Int) (n : Nat) (parts : List Int) : Prop := ∀ x, x ∈ parts → BalN d n (fun i => decide (parts.getD i 0 = x))
theorem leaf_classes {X : Type} {d : Nat → X → Int} {n : Nat} {parts : List Int} {next : Nat} (h : LabOk parts next) (hl : parts.length = n) (hb : BalP d n parts) : Classes d n (fun i => (parts.getD i 0).toNat) next := by
  have hg : ∀ i, (hi : i < n) → ∃ j : Nat, parts.getD i 0 = (j : Int) ∧ j < next ∧ (j : Int) ∈ parts := fun i hi => by
    have hm : parts[i]'(by omega) ∈ parts := List.getElem_mem _
    obtain ⟨j, e, hj⟩ := h.1 _ hm
    refine ⟨j, ?_, hj, e ▸ hm⟩
    rw [List.getD_eq_getElem?_getD, List.getElem?_eq_getElem (by omega)]
    exact e
  refine ⟨fun i hi => ?_, fun j hj => ?_, fun j hj => ?_⟩
  · obtain ⟨j, e, hj, _⟩ := hg i hi
    simp only [e, Int.toNat_natCast]
    exact hj
  · obtain ⟨i, hi, e⟩ := List.mem_iff_getElem.1 (h.2 j hj)
    refine ⟨i, by omega, ?_⟩
    show (parts.getD i 0).toNat = j
    rw [List.getD_eq_getElem?_getD, List.getElem?_eq_getElem hi, e]
    simp
  · refine (hb _ (h.2 j hj)).congr (fun i hi => ?_)
    obtain ⟨q, e, _, _⟩ := hg i hi
    rw [e, Int.toNat_natCast, decide_eq_decide]
    omega
theorem best_leaf {X : Type} {d : Nat → X → Int} {n : Nat} {T : Nat → Int} (h : Table d n T) (hb : BalN d n (fun _ => true)) :
    ∃ K : Nat, T (2 ^ n - 1) = (K : Int) ∧ (∀ l, l ∈ leaves n [] 0 → BalP d n l.1 → l.2 ≤ K) ∧ ∃ l, l ∈ leaves n [] 0 ∧ BalP d n l.1 ∧ l.2 = K := by
  obtain ⟨K, p, hT, hc⟩ := h.classes hb
  have hle : ∀ l, l ∈ leaves n [] 0 → BalP d n l.1 → l.2 ≤ K := fun l hl hbl => by
    obtain ⟨h1, h2⟩ := leaves_ok n [] 0 labOk_nil l hl
    have := h.lower (leaf_classes h1 (by simpa using h2) hbl)
    omega
  refine ⟨K, hT, hle, ?_⟩
  obtain ⟨l, reps, h1, h2⟩ := same_leaf p n 0 [] 0 [] ⟨rfl, rfl, fun i hi => by omega, fun i hi => by omega⟩ (fun i j hi => by omega)
  rw [Nat.zero_add] at h2
  have hbl : BalP d n l.1 := fun x hx => by
    obtain ⟨i, hi, e⟩ := List.mem_iff_getElem.1 hx
    have hi2 : i < n := by rw [← h2.len]; exact hi
    obtain ⟨j, hj, e2⟩ := h2.lab i hi2
    rw [List.getElem?_eq_getElem hi, e] at e2
    have e2 := Option.some.inj e2
    subst e2
    have hr := (h2.iff_ i hi2 j hj).1 (by rw [List.getElem?_eq_getElem hi, e])
    refine (hc.bal (p i) (hc.lt i hi2)).congr (fun q hq => ?_)
    have hq2 : q < l.1.length := by rw [h2.len]; exact hq
    rw [List.getD_eq_getElem?_getD, decide_eq_decide]
    have := h2.iff_ q hq j hj
    rw [hr, List.getElem?_eq_getElem hq2] at this
    simp only [Option.some.injEq] at this
    rw [List.getElem?_eq_getElem hq2]
    simp only [Option.getD_some]
    exact ⟨fun a => (this.2 a.symm), fun a => (this.1 a).symm⟩
  refine ⟨l, h1, hbl, ?_⟩
  have h3 := hle l h1 hbl
  have h4 : K ≤ reps.length := hole K reps (fun j hj => by
    obtain ⟨i, hi, hpi⟩ := hc.ne j hj
    obtain ⟨q, hq, e⟩ := h2.lab i hi
    have := (h2.iff_ i hi q hq).1 e
    rw [hpi] at this
    exact List.mem_of_getElem? this)
  rw [h2.nrep] at h4
  omega
def keepMax (b : List Int → Bool) (st : List Int × Int) (l : List Int × Nat) : List Int × Int := if (l.2 : Int) > st.2 ∧ b l.1 = true then (l.1, (l.2 : Int)) else st
theorem keep_find (b : List Int → Bool) (K : Nat) : ∀ (q : List (List Int × Nat)) (st : List Int × Int), (∀ l, l ∈ q → b l.1 = true → l.2 ≤ K) → (st.2 = (K : Int) → q.foldl (keepMax b) st = st) ∧
    (st.2 < (K : Int) → ∀ l, q.find? (fun l => b l.1 && decide (l.2 = K)) = some l → q.foldl (keepMax b) st = (l.1, (K : Int)))
  | [], st, _ => ⟨fun _ => rfl, fun _ l h => by cases h⟩
  | x :: q, st, h => by
    have hq : ∀ l, l ∈ q → b l.1 = true → l.2 ≤ K := fun l hl => h l (List.mem_cons_of_mem _ hl)
    have hx := h x (List.mem_cons_self ..)
    refine ⟨fun hs => ?_, fun hs l hl => ?_⟩
    · rw [List.foldl_cons]
      have e : keepMax b st x = st := by
        unfold keepMax
        rw [if_neg]
        rintro ⟨h1, h2⟩
        have := hx h2
        omega
      rw [e]
      exact (keep_find b K q st hq).1 hs
    · rw [List.foldl_cons]
      rw [List.find?_cons] at hl
      by_cases c : (b x.1 && decide (x.2 = K)) = true
      · rw [c] at hl
        obtain rfl := Option.some.inj hl
        simp only [Bool.and_eq_true, decide_eq_true_eq] at c
        have e : keepMax b st x = (x.1, (K : Int)) := by
          unfold keepMax
          rw [if_pos ⟨by omega, c.1⟩, c.2]
        rw [e]
        exact (keep_find b K q _ hq).1 rfl
      · rw [Bool.eq_false_iff.2 c] at hl
        refine (keep_find b K q _ hq).2 ?_ l hl
        unfold keepMax
        split
        · rename_i c2
          have h1 := hx c2.2
          have h2 : x.2 ≠ K := fun e => c (by simp [c2.2, e])
          simp only
          omega
        · exact hs
theorem lt_bits : ∀ (i n x y : Nat), x < 2 ^ n → y < 2 ^ n → x.testBit i = false → y.testBit i = true → (∀ j, i < j → x.testBit j = y.testBit j) → x < y
  | 0, n, x, y, hx, hy, h1, h2, h3 => by
    have e : x / 2 = y / 2 := Nat.eq_of_testBit_eq (fun j => by
      have := h3 (j + 1) (by omega)
      rw [Nat.testBit_succ, Nat.testBit_succ] at this
      exact this)
    rw [Nat.testBit_zero] at h1 h2
    simp only [decide_eq_false_iff_not, decide_eq_true_eq] at h1 h2
    omega
  | i + 1, n, x, y, hx, hy, h1, h2, h3 => by
    rw [Nat.testBit_succ] at h1 h2
    have := lt_bits i n (x / 2) (y / 2) (by omega) (by omega) h1 h2 (fun j hj => by
      have := h3 (j + 1) (by omega)
      rw [Nat.testBit_succ, Nat.testBit_succ] at this
      exact this)
    omega
theorem xor_lt {s i n : Nat} (hs : s < 2 ^ n) (hi : i < n) (h : s.testBit i = true) : s ^^^ 2 ^ i < s :=
  lt_bits i n _ _ (xor_two_lt hs hi) hs (by rw [xor_bit, if_pos rfl, h]; rfl) h (fun j hj => by rw [xor_bit, if_neg (by omega)])
def stepI (s : Nat) (t : List Int) (i : Nat) : List Int := if s.testBit i = true then t.set s (max (t.getD s 0) (t.getD (s ^^^ 2 ^ i) 0)) else t
def stepT (b : Nat → Bool) (n : Nat) (t : List Int) (s : Nat) : List Int := if b s = true then ((List.range n).foldl (stepI s) t).set s (((List.range n).foldl (stepI s) t).getD s 0 + 1) else (List.range n).foldl (stepI s) t
theorem getD_setI (t : List Int) (s q : Nat) (v : Int) (h : s < t.length) : (t.set s v).getD q 0 = if q = s then v else t.getD q 0 := by
  rw [List.getD_eq_getElem?_getD, List.getElem?_set, List.getD_eq_getElem?_getD]
  by_cases e : s = q
  · subst e
    rw [if_pos rfl, if_pos h, if_pos rfl]; rfl
  · rw [if_neg e, if_neg (Ne.symm e)]
structure InI (n s : Nat) (t u : List Int) (m : Nat) : Prop where
  len : u.length = t.length
  same : ∀ q, q ≠ s → u.getD q 0 = t.getD q 0
  ge : ∀ i, i < m → s.testBit i = true → t.getD (s ^^^ 2 ^ i) 0 ≤ u.getD s 0
  nn : 0 ≤ u.getD s 0
  ex : u.getD s 0 = 0 ∨ ∃ i, i < m ∧ s.testBit i = true ∧ u.getD s 0 = t.getD (s ^^^ 2 ^ i) 0
theorem inI_step {n s : Nat} {t u : List Int} {m : Nat} (hs : s < 2 ^ n) (hm : m < n) (hl : s < t.length) (h : InI n s t u m) : InI n s t (stepI s u m) (m + 1) := by
  unfold stepI
  by_cases c : s.testBit m = true
  · rw [if_pos c]
    have hx := xor_lt hs hm c
    have hv : ∀ q, (u.set s (max (u.getD s 0) (u.getD (s ^^^ 2 ^ m) 0))).getD q 0 = if q = s then max (u.getD s 0) (u.getD (s ^^^ 2 ^ m) 0) else u.getD q 0 := fun q => getD_setI u s q _ (by rw [h.len]; exact hl)
    have hsame := h.same (s ^^^ 2 ^ m) (by omega)
    refine ⟨by rw [List.length_set]; exact h.len, fun q hq => by rw [hv, if_neg hq]; exact h.same q hq, fun i hi hb => ?_, ?_, ?_⟩
    · rw [hv, if_pos rfl]
      by_cases e : i < m
      · have := h.ge i e hb; omega
      · have e : i = m := by omega
        subst e
        rw [hsame]; omega
    · rw [hv, if_pos rfl]; have := h.nn; omega
    · rw [hv, if_pos rfl]
      have := h.nn
      by_cases e : u.getD s 0 ≤ u.getD (s ^^^ 2 ^ m) 0
      · exact .inr ⟨m, by omega, c, by rw [← hsame]; omega⟩
      · rcases h.ex with q | ⟨i, q1, q2, q3⟩
        · exact .inl (by omega)
        · exact .inr ⟨i, by omega, q2, by rw [← q3]; omega⟩
  · rw [if_neg c]
    refine ⟨h.len, h.same, fun i hi hb => ?_, h.nn, ?_⟩
    · by_cases e : i < m
      · exact h.ge i e hb
      · have e : i = m := by omega
        subst e
        exact absurd hb c
    · rcases h.ex with q | ⟨i, q1, q2, q3⟩
      · exact .inl q
      · exact .inr ⟨i, by omega, q2, q3⟩
theorem inI_all {n s : Nat} {t : List Int} (hs : s < 2 ^ n) (hl : s < t.length) (h0 : t.getD s 0 = 0) : ∀ m, m ≤ n → InI n s t ((List.range m).foldl (stepI s) t) m
  | 0, _ => ⟨rfl, fun _ _ => rfl, fun i hi => by omega, by show 0 ≤ t.getD s 0; omega, .inl h0⟩
  | m + 1, hm => by
    rw [List.range_succ, List.foldl_append]
    exact inI_step hs (by omega) hl (inI_all hs hl h0 m (by omega))
structure TabUpto {X : Type} (d : Nat → X → Int) (n m : Nat) (t : List Int) : Prop where
  len : t.length = 256
  zero : t.getD 0 0 = 0
  nn : ∀ q, 0 ≤ t.getD q 0
  later : ∀ q, m ≤ q → t.getD q 0 = 0
  ge : ∀ s, s < m → ∀ i, i < n → s.testBit i = true → t.getD (s ^^^ 2 ^ i) 0 ≤ t.getD s 0
  geB : ∀ s, s < m → ∀ i, i < n → s.testBit i = true → BalN d n s.testBit → t.getD (s ^^^ 2 ^ i) 0 + 1 ≤ t.getD s 0
  ex : ∀ s, 0 < s → s < m → ∃ i, i < n ∧ s.testBit i = true ∧ ((BalN d n s.testBit ∧ t.getD s 0 = t.getD (s ^^^ 2 ^ i) 0 + 1) ∨ (¬ BalN d n s.testBit ∧ t.getD s 0 = t.getD (s ^^^ 2 ^ i) 0))
theorem bit_some {s n : Nat} (h0 : 0 < s) (hs : s < 2 ^ n) : ∃ i, i < n ∧ s.testBit i = true := by
  by_cases c : ∃ i, i < n ∧ s.testBit i = true
  · exact c
  · refine absurd (bits_ext hs (Nat.two_pow_pos n) (fun i hi => ?_)) (by omega : s ≠ 0)
    cases q : s.testBit i with
    | true => exact absurd ⟨i, hi, q⟩ c
    | false => simp
theorem tab_step {X : Type} {d : Nat → X → Int} {n m : Nat} {t : List Int} {b : Nat → Bool} (hn : 2 ^ n ≤ 256) (hm0 : 0 < m) (hm : m < 2 ^ n) (hb : b m = true ↔ BalN d n m.testBit) (h : TabUpto d n m t) : TabUpto d n (m + 1) (stepT b n t m) := by
  have hl : m < t.length := by rw [h.len]; omega
  have I := inI_all hm hl (h.later m (Nat.le_refl _)) n (Nat.le_refl _)
  generalize hu : (List.range n).foldl (stepI m) t = u at I
  -- the value at m
  have key : ∃ v : Int, (stepT b n t m).length = 256 ∧ (∀ q, (stepT b n t m).getD q 0 = if q = m then v else t.getD q 0) ∧ ((BalN d n m.testBit ∧ v = u.getD m 0 + 1) ∨ (¬ BalN d n m.testBit ∧ v = u.getD m 0)) := by
    unfold stepT
    rw [hu]
    have hlu : m < u.length := by rw [I.len]; exact hl
    by_cases c : b m = true
    · rw [if_pos c]
      refine ⟨u.getD m 0 + 1, by rw [List.length_set, I.len, h.len], fun q => ?_, .inl ⟨hb.1 c, rfl⟩⟩
      rw [getD_setI u m q _ hlu]
      by_cases e : q = m
      · rw [if_pos e, if_pos e]
      · rw [if_neg e, if_neg e]; exact I.same q e
    · rw [if_neg c]
      refine ⟨u.getD m 0, by rw [I.len, h.len], fun q => ?_, .inr ⟨fun q => c (hb.2 q), rfl⟩⟩
      by_cases e : q = m
      · rw [if_pos e, e]
      · rw [if_neg e]; exact I.same q e
  obtain ⟨v, k1, k2, k3⟩ := key
  have hvm : (stepT b n t m).getD m 0 = v := by rw [k2, if_pos rfl]
  have hvx : ∀ i, i < n → m.testBit i = true → (stepT b n t m).getD (m ^^^ 2 ^ i) 0 = t.getD (m ^^^ 2 ^ i) 0 := fun i hi hbi => by
    rw [k2, if_neg]
    have := xor_lt hm hi hbi
    omega
  have hold : ∀ s, s < m → (stepT b n t m).getD s 0 = t.getD s 0 := fun s hs => by rw [k2, if_neg (by omega)]
  have holdx : ∀ s, s < m → ∀ i, i < n → s.testBit i = true → (stepT b n t m).getD (s ^^^ 2 ^ i) 0 = t.getD (s ^^^ 2 ^ i) 0 := fun s hs i hi hbi => by
    have := xor_lt (show s < 2 ^ n by omega) hi hbi
    exact hold _ (by omega)
  have hvnn : u.getD m 0 ≤ v := by rcases k3 with ⟨_, e⟩ | ⟨_, e⟩ <;> omega
  refine ⟨k1, by rw [hold 0 hm0]; exact h.zero, fun q => ?_, fun q hq => ?_, fun s hs i hi hbi => ?_, fun s hs i hi hbi hB => ?_, fun s h0 hs => ?_⟩
  · rw [k2]
    split
    · have := I.nn; omega
    · exact h.nn q
  · rw [k2, if_neg (by omega)]; exact h.later q (by omega)
  · by_cases e : s < m
    · rw [holdx s e i hi hbi, hold s e]; exact h.ge s e i hi hbi
    · have e : s = m := by omega
      subst e
      rw [hvx i hi hbi, hvm]
      have := I.ge i hi hbi
      omega
  · by_cases e : s < m
    · rw [holdx s e i hi hbi, hold s e]; exact h.geB s e i hi hbi hB
    · have e : s = m := by omega
      subst e
      rw [hvx i hi hbi, hvm]
      have := I.ge i hi hbi
      rcases k3 with ⟨_, e⟩ | ⟨q, _⟩
      · omega
      · exact absurd hB q
  · by_cases e : s < m
    · obtain ⟨i, hi, hbi, q⟩ := h.ex s h0 e
      exact ⟨i, hi, hbi, by rw [holdx s e i hi hbi, hold s e]; exact q⟩
    · have e : s = m := by omega
      subst e
      have hex : ∃ i, i < n ∧ s.testBit i = true ∧ u.getD s 0 = t.getD (s ^^^ 2 ^ i) 0 := by
        rcases I.ex with q | q
        · obtain ⟨i, hi, hbi⟩ := bit_some h0 hm
          refine ⟨i, hi, hbi, ?_⟩
          have h1 := I.ge i hi hbi
          have h2 := h.nn (s ^^^ 2 ^ i)
          omega
        · exact q
      obtain ⟨i, hi, hbi, q⟩ := hex
      refine ⟨i, hi, hbi, ?_⟩
      rw [hvx i hi hbi, hvm, ← q]
      exact k3
def tabAll (b : Nat → Bool) (n : Nat) (m : Nat) : List Int := (List.range' 1 (m - 1)).foldl (stepT b n) (List.replicate 256 0)
theorem tab_all {X : Type} {d : Nat → X → Int} {n : Nat} {b : Nat → Bool} (hn : 2 ^ n ≤ 256) (hb : ∀ s, s < 2 ^ n → (b s = true ↔ BalN d n s.testBit)) : ∀ m, m ≤ 2 ^ n → 1 ≤ m → TabUpto d n m (tabAll b n m)
  | 0, _, h => by omega
  | 1, _, _ => by
    have e : ∀ q, (List.replicate 256 (0 : Int)).getD q 0 = 0 := fun q => by
      rw [List.getD_eq_getElem?_getD, List.getElem?_replicate]
      split <;> rfl
    have e1 : tabAll b n 1 = List.replicate 256 0 := rfl
    rw [e1]
    refine ⟨List.length_replicate, e 0, fun q => by rw [e]; exact Int.le_refl _, fun q _ => e q, fun s hs i hi hbi => ?_, fun s hs i hi hbi => ?_, fun s h0 hs => by omega⟩
    · obtain rfl : s = 0 := by omega
      simp at hbi
    · obtain rfl : s = 0 := by omega
      simp at hbi
  | m + 2, hm, _ => by
    have e : tabAll b n (m + 2) = stepT b n (tabAll b n (m + 1)) (m + 1) := by
      unfold tabAll
      rw [show m + 2 - 1 = m + 1 by omega, show m + 1 - 1 = m by omega, List.range'_concat, List.foldl_append, Nat.one_mul, Nat.add_comm 1 m]
      rfl
    rw [e]
    exact tab_step hn (by omega) (by omega) (hb _ (by omega)) (tab_all hn hb (m + 1) (by omega) (by omega))
theorem tab_table {X : Type} {d : Nat → X → Int} {n : Nat} {b : Nat → Bool} (hn : 2 ^ n ≤ 256) (hb : ∀ s, s < 2 ^ n → (b s = true ↔ BalN d n s.testBit)) : Table d n (fun s => (tabAll b n (2 ^ n)).getD s 0) := by
  have h := tab_all hn hb (2 ^ n) (Nat.le_refl _) (Nat.two_pow_pos n)
  exact ⟨h.zero, h.ge, h.geB, h.ex⟩
--END
theorem sumN_at (i : Nat) (v : Int) : ∀ n, sumN (fun j => if j = i then v else 0) n = if i < n then v else 0
  | 0 => rfl
  | n + 1 => by
    rw [sumN, sumN_at i v n]
    split <;> split <;> split <;> omega
theorem sumN_two {g g' : Nat → Int} {n i k : Nat} (hi : i < n) (hk : k < n) (hne : i ≠ k) (hs : ∀ j, j < n → j ≠ i → j ≠ k → g j = g' j) (ht : g i + g k = g' i + g' k) : sumN g n = sumN g' n := by
  have e : sumN g n = sumN (fun j => (g' j + if j = i then g i - g' i else 0) + if j = k then g k - g' k else 0) n := sumN_congr n (fun j hj => by
    by_cases c1 : j = i
    · subst c1; rw [if_pos rfl, if_neg hne]; omega
    · by_cases c2 : j = k
      · subst c2; rw [if_neg c1, if_pos rfl]; omega
      · rw [if_neg c1, if_neg c2, hs j hj c1 c2]; omega)
  rw [e, sumN_add, sumN_add, sumN_at, sumN_at, if_pos hi, if_pos hk]
  omega
structure Sw {X : Type} (d d' : Nat → X → Int) (n i k : Nat) : Prop where
  hi : i < n
  hk : k < n
  ne : i ≠ k
  same : ∀ j, j ≠ i → j ≠ k → ∀ x, d' j x = d j x
  sum : ∀ x, d' i x + d' k x = d i x + d k x
theorem Sw.bal {X : Type} {d d' : Nat → X → Int} {n i k : Nat} (s : Sw d d' n i k) {f : Nat → Bool} (hf : f i = f k) (h : BalN d' n f) : BalN d n f := fun x => by
  refine Eq.trans ?_ (h x)
  refine sumN_two s.hi s.hk s.ne (fun j _ h1 h2 => by rw [s.same j h1 h2]) ?_
  have := s.sum x
  rw [hf]
  cases f k <;> simp <;> omega
theorem bal_one {X : Type} {d : Nat → X → Int} {n i : Nat} (hz : ∀ x, d i x = 0) : BalN d n (fun j => decide (j = i)) := fun x => by
  refine (sumN_congr n (fun j _ => ?_)).trans (sumN_zero n)
  by_cases c : j = i
  · subst c; rw [hz]; simp
  · simp [c]
structure ClS {X : Type} (d : Nat → X → Int) (n : Nat) (S : Nat → Bool) (p : Nat → Nat) (L : List Nat) : Prop where
  mem : ∀ i, i < n → S i = true → p i ∈ L
  ne : ∀ j, j ∈ L → ∃ i, i < n ∧ S i = true ∧ p i = j
  bal : ∀ j, j ∈ L → BalN d n (fun i => S i && decide (p i = j))
  nd : L.Nodup
theorem Sw.merge {X : Type} {d d' : Nat → X → Int} {n i k : Nat} (s : Sw d d' n i k) {p : Nat → Nat} {L : List Nat} (h : ClS d' n (fun _ => true) p L) : ∃ p' L', ClS d n (fun _ => true) p' L' ∧ L.length ≤ L'.length + 1 := by
  by_cases c : p i = p k
  · exact ⟨p, L, ⟨h.mem, h.ne, fun j hj => s.bal (by simp only [c]) (h.bal j hj), h.nd⟩, by omega⟩
  · have mi := h.mem i s.hi rfl
    have mk := h.mem k s.hk rfl
    refine ⟨fun y => if p y = p k then p i else p y, L.erase (p k), ⟨fun y hy _ => ?_, fun j hj => ?_, fun j hj => ?_, h.nd.erase _⟩, by rw [List.length_erase_of_mem mk]; omega⟩
    · show (if p y = p k then p i else p y) ∈ _
      split
      · exact (List.mem_erase_of_ne c).2 mi
      · rename_i q; exact (List.mem_erase_of_ne q).2 (h.mem y hy rfl)
    · have hj2 := List.mem_of_mem_erase hj
      have hne : j ≠ p k := fun q => by subst q; exact absurd hj (h.nd.not_mem_erase)
      obtain ⟨y, y1, _, y2⟩ := h.ne j hj2
      exact ⟨y, y1, rfl, by show (if p y = p k then p i else p y) = j; rw [if_neg (by omega)]; exact y2⟩
    · have hj2 := List.mem_of_mem_erase hj
      have hne : j ≠ p k := fun q => by subst q; exact absurd hj (h.nd.not_mem_erase)
      by_cases e : j = p i
      · subst e
        have hu := (h.bal _ mi).union (h.bal _ mk) (fun y _ q => by simp only [Bool.true_and, decide_eq_true_eq] at q; rw [q]; simp [c])
        refine (s.bal (by simp) hu).congr (fun y _ => ?_)
        by_cases q : p y = p k
        · simp [q]
        · simp [q]
      · refine (s.bal (f := fun y => true && decide (p y = j)) (by simp [show ¬ p i = j from fun q => e q.symm, show ¬ p k = j from fun q => hne q.symm]) (h.bal j hj2)).congr (fun y _ => ?_)
        by_cases q : p y = p k
        · simp [q, show ¬ p k = j from fun q => hne q.symm, show ¬ p i = j from fun q => e q.symm]
        · simp [q]
theorem Sw.keep {X : Type} {d d' : Nat → X → Int} {n i k : Nat} (s : Sw d d' n i k) (hz : ∀ x, d i x = 0) {p : Nat → Nat} {L : List Nat} (h : ClS d' n (fun _ => true) p L) : ∃ p', ClS d n (fun _ => true) p' L := by
  by_cases c : p i = p k
  · exact ⟨p, ⟨h.mem, h.ne, fun j hj => s.bal (by simp only [c]) (h.bal j hj), h.nd⟩⟩
  · have mi := h.mem i s.hi rfl
    have mk := h.mem k s.hk rfl
    have hnk : ¬ p k = p i := fun q => c q.symm
    have hki : ¬ k = i := fun q => s.ne q.symm
    have hu := (h.bal _ mi).union (h.bal _ mk) (fun y _ q => by simp only [Bool.true_and, decide_eq_true_eq] at q; rw [q]; simp [c])
    have hu2 := (s.bal (by simp) hu).diff (bal_one hz) (fun y _ q => by simp only [decide_eq_true_eq] at q; subst q; simp)
    refine ⟨fun y => if y = i then p i else if p y = p i then p k else p y, ⟨fun y hy _ => ?_, fun j hj => ?_, fun j hj => ?_, h.nd⟩⟩
    · show (if y = i then p i else if p y = p i then p k else p y) ∈ _
      split
      · exact mi
      · split
        · exact mk
        · exact h.mem y hy rfl
    · by_cases e : j = p i
      · exact ⟨i, s.hi, rfl, by simp [e]⟩
      · by_cases e2 : j = p k
        · exact ⟨k, s.hk, rfl, by simp [hki, hnk, e2]⟩
        · obtain ⟨y, y1, _, y2⟩ := h.ne j hj
          refine ⟨y, y1, rfl, ?_⟩
          have q1 : ¬ y = i := fun q => e (by rw [← y2, q])
          simp [q1, y2, e]
    · by_cases e : j = p i
      · refine (bal_one (n := n) hz).congr (fun y _ => ?_)
        by_cases q : y = i
        · simp [q, e]
        · by_cases q2 : p y = p i
          · simp [q, q2, e, hnk]
          · simp [q, q2, e]
      · by_cases e2 : j = p k
        · refine hu2.congr (fun y _ => ?_)
          by_cases q : y = i
          · simp [q, e2, c]
          · by_cases q2 : p y = p i
            · simp [q, q2, e2]
            · simp [q, q2, e2]
        · refine (s.bal (f := fun y => true && decide (p y = j)) (by simp [show ¬ p i = j from fun q => e q.symm, show ¬ p k = j from fun q => e2 q.symm]) (h.bal j hj)).congr (fun y _ => ?_)
          by_cases q : y = i
          · simp [q]
          · by_cases q2 : p y = p i
            · simp [q, q2, show ¬ p i = j from fun q => e q.symm, show ¬ p k = j from fun q => e2 q.symm]
            · simp [q, q2]
theorem Sw.gain {X : Type} {d d' : Nat → X → Int} {n i k : Nat} (s : Sw d d' n i k) (hz : ∀ x, d i x = 0) {p : Nat → Nat} {L : List Nat} (h : ClS d' n (fun _ => true) p L) (hp : p i = p k) : ∃ p' L', ClS d n (fun _ => true) p' L' ∧ L'.length = L.length + 1 := by
  have hki : ¬ k = i := fun q => s.ne q.symm
  have mi := h.mem i s.hi rfl
  obtain ⟨f, hf⟩ : ∃ f : Nat, f ∉ L := by
    refine ⟨L.sum + 1, fun q => ?_⟩
    have : ∀ (l : List Nat) (x : Nat), x ∈ l → x ≤ l.sum := fun l => by
      induction l with
      | nil => intro x hx; cases hx
      | cons y l ih =>
        intro x hx
        rw [List.sum_cons]
        rcases List.mem_cons.1 hx with q | q
        · omega
        · have := ih x q; omega
    have := this L _ q
    omega
  have hfn : ∀ j, j ∈ L → ¬ f = j := fun j hj q => hf (q ▸ hj)
  have hc := (s.bal (by simp only [hp]) (h.bal _ mi)).diff (bal_one hz) (fun y _ q => by simp only [decide_eq_true_eq] at q; subst q; simp)
  refine ⟨fun y => if y = i then f else p y, f :: L, ⟨fun y hy _ => ?_, fun j hj => ?_, fun j hj => ?_, List.nodup_cons.2 ⟨hf, h.nd⟩⟩, rfl⟩
  · show (if y = i then f else p y) ∈ _
    split
    · exact List.mem_cons_self
    · exact List.mem_cons_of_mem _ (h.mem y hy rfl)
  · rcases List.mem_cons.1 hj with q | q
    · exact ⟨i, s.hi, rfl, by simp [q]⟩
    · by_cases e : j = p i
      · exact ⟨k, s.hk, rfl, by simp [hki, e, hp]⟩
      · obtain ⟨y, y1, _, y2⟩ := h.ne j q
        have q1 : ¬ y = i := fun q => e (by rw [← y2, q])
        exact ⟨y, y1, rfl, by simp [q1, y2]⟩
  · rcases List.mem_cons.1 hj with q | q
    · refine (bal_one (n := n) hz).congr (fun y hy => ?_)
      by_cases q1 : y = i
      · simp [q1, q]
      · simp [q1, q, show ¬ p y = f from fun q2 => hf (q2 ▸ h.mem y hy rfl)]
    · by_cases e : j = p i
      · refine hc.congr (fun y _ => ?_)
        by_cases q1 : y = i
        · simp [q1, hfn j q]
        · simp [q1, e]
      · refine (s.bal (f := fun y => true && decide (p y = j)) (by simp [hp]) (h.bal j q)).congr (fun y _ => ?_)
        by_cases q1 : y = i
        · simp [q1, hfn j q, show ¬ p i = j from fun q => e q.symm]
        · simp [q1]
theorem ClS.drop {X : Type} {d : Nat → X → Int} {n i : Nat} (hz : ∀ x, d i x = 0) {S : Nat → Bool} {p : Nat → Nat} {L : List Nat} (h : ClS d n S p L) : ∃ L', ClS d n (fun y => S y && !decide (y = i)) p L' ∧ L.length ≤ L'.length + 1 := by
  have hb : ∀ j, j ∈ L → BalN d n (fun y => (S y && !decide (y = i)) && decide (p y = j)) := fun j hj x => by
    refine (sumN_congr n (fun y _ => ?_)).trans (h.bal j hj x)
    by_cases q : y = i
    · simp [q, hz]
    · simp [q]
  by_cases c : ∃ y, y < n ∧ S y = true ∧ p y = p i ∧ y ≠ i
  · refine ⟨L, ⟨fun y hy hS => h.mem y hy (by simp only [Bool.and_eq_true] at hS; exact hS.1), fun j hj => ?_, hb, h.nd⟩, by omega⟩
    obtain ⟨y, y1, y2, y3⟩ := h.ne j hj
    by_cases q : y = i
    · obtain ⟨z, z1, z2, z3, z4⟩ := c
      exact ⟨z, z1, by simp [z2, z4], by rw [z3, ← q, y3]⟩
    · exact ⟨y, y1, by simp [y2, q], y3⟩
  · refine ⟨L.erase (p i), ⟨fun y hy hS => ?_, fun j hj => ?_, fun j hj => hb j (List.mem_of_mem_erase hj), h.nd.erase _⟩, by
      have := List.length_erase (a := p i) (l := L)
      rw [this]; split <;> omega⟩
    · simp only [Bool.and_eq_true, Bool.not_eq_true', decide_eq_false_iff_not] at hS
      exact (List.mem_erase_of_ne (fun q => c ⟨y, hy, hS.1, q, hS.2⟩)).2 (h.mem y hy hS.1)
    · have hj2 := List.mem_of_mem_erase hj
      have hne : j ≠ p i := fun q => by subst q; exact absurd hj (h.nd.not_mem_erase)
      obtain ⟨y, y1, y2, y3⟩ := h.ne j hj2
      exact ⟨y, y1, by simp [y2, show ¬ y = i from fun q => hne (by rw [← y3, q])], y3⟩
theorem ClS.add {X : Type} {d : Nat → X → Int} {n i : Nat} (hi : i < n) (hz : ∀ x, d i x = 0) {S : Nat → Bool} (hS : S i = false) {p : Nat → Nat} {L : List Nat} (h : ClS d n S p L) : ∃ p' L', ClS d n (fun y => S y || decide (y = i)) p' L' ∧ L'.length = L.length + 1 := by
  obtain ⟨f, hf⟩ : ∃ f : Nat, f ∉ L := by
    refine ⟨L.sum + 1, fun q => ?_⟩
    have : ∀ (l : List Nat) (x : Nat), x ∈ l → x ≤ l.sum := fun l => by
      induction l with
      | nil => intro x hx; cases hx
      | cons y l ih =>
        intro x hx
        rw [List.sum_cons]
        rcases List.mem_cons.1 hx with q | q
        · omega
        · have := ih x q; omega
    have := this L _ q
    omega
  have hfn : ∀ j, j ∈ L → ¬ f = j := fun j hj q => hf (q ▸ hj)
  refine ⟨fun y => if y = i then f else p y, f :: L, ⟨fun y hy hy2 => ?_, fun j hj => ?_, fun j hj => ?_, List.nodup_cons.2 ⟨hf, h.nd⟩⟩, rfl⟩
  · show (if y = i then f else p y) ∈ _
    split
    · exact List.mem_cons_self
    · rename_i q
      exact List.mem_cons_of_mem _ (h.mem y hy (by simpa [q] using hy2))
  · rcases List.mem_cons.1 hj with q | q
    · exact ⟨i, hi, by simp, by simp [q]⟩
    · obtain ⟨y, y1, y2, y3⟩ := h.ne j q
      have q1 : ¬ y = i := fun q => by rw [q, hS] at y2; cases y2
      exact ⟨y, y1, by simp [y2], by simp [q1, y3]⟩
  · rcases List.mem_cons.1 hj with q | q
    · refine (bal_one (n := n) hz).congr (fun y hy => ?_)
      by_cases q1 : y = i
      · simp [q1, q]
      · cases hSy : S y with
        | true => simp [q1, q, show ¬ p y = f from fun q2 => hf (q2 ▸ h.mem y hy hSy)]
        | false => simp [q1]
    · refine (h.bal j q).congr (fun y _ => ?_)
      by_cases q1 : y = i
      · simp [q1, hfn j q, hS]
      · simp [q1]
theorem ClS.congr {X : Type} {d : Nat → X → Int} {n : Nat} {S T : Nat → Bool} (e : ∀ i, i < n → S i = T i) {p : Nat → Nat} {L : List Nat} (h : ClS d n S p L) : ClS d n T p L :=
  ⟨fun i hi hT => h.mem i hi ((e i hi).trans hT), fun j hj => by obtain ⟨i, i1, i2, i3⟩ := h.ne j hj; exact ⟨i, i1, (e i i1).symm.trans i2, i3⟩, fun j hj => (h.bal j hj).congr (fun i hi => by rw [e i hi]), h.nd⟩
def cz (S : Nat → Bool) : Nat → Nat
  | 0 => 0
  | n + 1 => cz S n + if S n = true then 0 else 1
theorem cz_filter (S : Nat → Bool) : ∀ n, cz S n + ((List.range n).filter S).length = n
  | 0 => rfl
  | n + 1 => by
    have := cz_filter S n
    rw [cz, List.range_succ, List.filter_append, List.length_append]
    cases c : S n <;> simp [c] <;> omega
theorem ClS.drops {X : Type} {d : Nat → X → Int} {n : Nat} {S : Nat → Bool} (hz : ∀ i, i < n → S i = false → ∀ x, d i x = 0) {p : Nat → Nat} {L : List Nat} (h : ClS d n (fun _ => true) p L) : ∀ m, m ≤ n → ∃ L', ClS d n (fun y => S y || decide (m ≤ y)) p L' ∧ L.length ≤ L'.length + cz S m
  | 0, _ => ⟨L, h.congr (fun i _ => by simp), by simp [cz]⟩
  | m + 1, hm => by
    obtain ⟨L1, h1, h2⟩ := ClS.drops hz h m (by omega)
    cases c : S m with
    | true =>
      refine ⟨L1, h1.congr (fun i _ => ?_), by simp [cz, c]; omega⟩
      by_cases e : i = m
      · subst e; simp [c]
      · rw [show (decide (m ≤ i)) = decide (m + 1 ≤ i) from by congr 1; exact propext ⟨fun q => by omega, fun q => by omega⟩]
    | false =>
      obtain ⟨L2, q1, q2⟩ := h1.drop (hz m (by omega) c)
      refine ⟨L2, q1.congr (fun i _ => ?_), by simp [cz, c]; omega⟩
      by_cases e : i = m
      · subst e; simp [c]
      · rw [show (decide (m ≤ i)) = decide (m + 1 ≤ i) from by congr 1; exact propext ⟨fun q => by omega, fun q => by omega⟩]
        simp [e]
theorem ClS.adds {X : Type} {d : Nat → X → Int} {n : Nat} {S : Nat → Bool} (hz : ∀ i, i < n → S i = false → ∀ x, d i x = 0) {p : Nat → Nat} {L : List Nat} (h : ClS d n S p L) : ∀ m, m ≤ n → ∃ p' L', ClS d n (fun y => S y || decide (y < m)) p' L' ∧ L'.length = L.length + cz S m
  | 0, _ => ⟨p, L, h.congr (fun i _ => by simp), by simp [cz]⟩
  | m + 1, hm => by
    obtain ⟨p1, L1, h1, h2⟩ := ClS.adds hz h m (by omega)
    cases c : S m with
    | true =>
      refine ⟨p1, L1, h1.congr (fun i _ => ?_), by simp [cz, c]; omega⟩
      by_cases e : i = m
      · subst e; simp [c]
      · rw [show (decide (i < m)) = decide (i < m + 1) from by congr 1; exact propext ⟨fun q => by omega, fun q => by omega⟩]
    | false =>
      obtain ⟨p2, L2, q1, q2⟩ := h1.add (i := m) (by omega) (hz m (by omega) c) (by simp [c])
      refine ⟨p2, L2, q1.congr (fun i _ => ?_), by simp [cz, c]; omega⟩
      by_cases e : i = m
      · subst e; simp
      · rw [show (decide (i < m)) = decide (i < m + 1) from by congr 1; exact propext ⟨fun q => by omega, fun q => by omega⟩]
        simp [e]
theorem sumN_app (g : Nat → Int) (l : List Nat) (y : Nat) : sumN (fun m => g ((l ++ [y]).getD m 0)) (l ++ [y]).length = sumN (fun m => g (l.getD m 0)) l.length + g y := by
  rw [List.length_append, List.length_singleton, sumN]
  have e : sumN (fun m => g ((l ++ [y]).getD m 0)) l.length = sumN (fun m => g (l.getD m 0)) l.length := sumN_congr _ (fun m hm => by
    rw [List.getD_eq_getElem?_getD, List.getElem?_append_left hm, ← List.getD_eq_getElem?_getD])
  rw [e, List.getD_eq_getElem?_getD, List.getElem?_append_right (Nat.le_refl _), Nat.sub_self]
  rfl
theorem sumN_filter (g : Nat → Int) (S : Nat → Bool) : ∀ n, sumN (fun m => g (((List.range n).filter S).getD m 0)) ((List.range n).filter S).length = sumN (fun i => if S i = true then g i else 0) n
  | 0 => rfl
  | n + 1 => by
    have ih := sumN_filter g S n
    rw [List.range_succ, List.filter_append, sumN, ← ih]
    cases c : S n with
    | true => rw [show [n].filter S = [n] from by simp [c], sumN_app]; simp
    | false => rw [show [n].filter S = [] from by simp [c], List.append_nil]; simp
theorem getD_lt {l : List Nat} {m : Nat} (h : m < l.length) : l.getD m 0 = l[m] := by rw [List.getD_eq_getElem?_getD, List.getElem?_eq_getElem h]; rfl
theorem idx_at {l : List Nat} (hn : l.Nodup) {m : Nat} (h : m < l.length) : l.idxOf l[m] = m := by
  have h1 : l.idxOf l[m] < l.length := List.idxOf_lt_length_iff.2 (List.getElem_mem h)
  have h2 : l[l.idxOf l[m]] = l[m] := List.getElem_idxOf h1
  exact (List.getElem_inj hn).1 h2
theorem ClS.of_row {X : Type} {d : Nat → X → Int} {n : Nat} {S : Nat → Bool} {ps : List Nat} (hps : ps = (List.range n).filter S) {p : Nat → Nat} {k : Nat} (h : Classes (fun m => d (ps.getD m 0)) ps.length p k) : ClS d n S (fun i => p (ps.idxOf i)) (List.range k) := by
  have hnd : ps.Nodup := by rw [hps]; exact List.nodup_range.filter _
  have hmem : ∀ i, i ∈ ps ↔ i < n ∧ S i = true := fun i => by rw [hps, List.mem_filter, List.mem_range]
  refine ⟨fun i hi hS => ?_, fun j hj => ?_, fun j hj x => ?_, List.nodup_range⟩
  · exact List.mem_range.2 (h.lt _ (List.idxOf_lt_length_iff.2 ((hmem i).2 ⟨hi, hS⟩)))
  · obtain ⟨m, m1, m2⟩ := h.ne j (List.mem_range.1 hj)
    obtain ⟨q1, q2⟩ := (hmem ps[m]).1 (List.getElem_mem m1)
    exact ⟨ps[m], q1, q2, by show p (ps.idxOf ps[m]) = j; rw [idx_at hnd m1, m2]⟩
  · have h1 := sumN_filter (fun i => if p (ps.idxOf i) = j then d i x else 0) S n
    rw [← hps] at h1
    have h2 := h.bal j (List.mem_range.1 hj) x
    have e1 : sumN (fun i => if (S i && decide (p (ps.idxOf i) = j)) = true then d i x else 0) n = sumN (fun i => if S i = true then (if p (ps.idxOf i) = j then d i x else 0) else 0) n := sumN_congr _ (fun i _ => by
      cases S i <;> simp)
    have e2 : sumN (fun m => if p (ps.idxOf (ps.getD m 0)) = j then d (ps.getD m 0) x else 0) ps.length = sumN (fun m => if (decide (p m = j)) = true then d (ps.getD m 0) x else 0) ps.length := sumN_congr _ (fun m hm => by
      rw [getD_lt hm, idx_at hnd hm]; simp)
    rw [e1, ← h1, e2]
    exact h2
theorem ClS.row {X : Type} {d : Nat → X → Int} {n : Nat} {S : Nat → Bool} {ps : List Nat} (hps : ps = (List.range n).filter S) {p : Nat → Nat} {L : List Nat} (h : ClS d n S p L) : Classes (fun m => d (ps.getD m 0)) ps.length (fun m => L.idxOf (p (ps.getD m 0))) L.length := by
  have hmem : ∀ i, i ∈ ps ↔ i < n ∧ S i = true := fun i => by rw [hps, List.mem_filter, List.mem_range]
  refine ⟨fun m hm => ?_, fun j hj => ?_, fun j hj x => ?_⟩
  · obtain ⟨q1, q2⟩ := (hmem ps[m]).1 (List.getElem_mem hm)
    rw [getD_lt hm]
    exact List.idxOf_lt_length_iff.2 (h.mem _ q1 q2)
  · obtain ⟨i, i1, i2, i3⟩ := h.ne L[j] (List.getElem_mem hj)
    have hi := (hmem i).2 ⟨i1, i2⟩
    have hlt := List.idxOf_lt_length_iff.2 hi
    refine ⟨ps.idxOf i, hlt, ?_⟩
    show L.idxOf (p (ps.getD (ps.idxOf i) 0)) = j
    rw [getD_lt hlt, List.getElem_idxOf hlt, i3, idx_at h.nd hj]
  · have h1 := sumN_filter (fun i => if p i = L[j] then d i x else 0) S n
    rw [← hps] at h1
    have h2 := h.bal L[j] (List.getElem_mem hj) x
    have e1 : sumN (fun i => if (S i && decide (p i = L[j])) = true then d i x else 0) n = sumN (fun i => if S i = true then (if p i = L[j] then d i x else 0) else 0) n := sumN_congr _ (fun i _ => by
      cases S i <;> simp)
    rw [e1, ← h1] at h2
    refine Eq.trans (sumN_congr _ (fun m hm => ?_)) h2
    obtain ⟨q1, q2⟩ := (hmem ps[m]).1 (List.getElem_mem hm)
    have hm2 := h.mem _ q1 q2
    show (if decide (L.idxOf (p (ps.getD m 0)) = j) = true then d (ps.getD m 0) x else 0) = if p (ps.getD m 0) = L[j] then d (ps.getD m 0) x else 0
    rw [getD_lt hm]
    have hiff : L.idxOf (p ps[m]) = j ↔ p ps[m] = L[j] := by
      constructor
      · intro q
        have := List.getElem_idxOf (List.idxOf_lt_length_iff.2 hm2)
        rw [← this]
        congr 1
      · intro q
        rw [q, idx_at h.nd hj]
    by_cases c : p ps[m] = L[j]
    · simp [c, hiff.2 c, idx_at h.nd hj]
    · simp [c, show ¬ L.idxOf (p ps[m]) = j from fun q => c (hiff.1 q)]
theorem max_all {X : Type} {d : Nat → X → Int} {n K : Nat} {S : Nat → Bool} {ps : List Nat} (hps : ps = (List.range n).filter S) (hz : ∀ i, i < n → S i = false → ∀ x, d i x = 0) (h1 : ∃ p, Classes (fun m => d (ps.getD m 0)) ps.length p K) (h2 : ∀ p k, Classes (fun m => d (ps.getD m 0)) ps.length p k → k ≤ K) :
    (∃ p L, ClS d n (fun _ => true) p L ∧ L.length + ps.length = K + n) ∧ ∀ p L, ClS d n (fun _ => true) p L → L.length + ps.length ≤ K + n := by
  have hc := cz_filter S n
  rw [← hps] at hc
  refine ⟨?_, fun p L h => ?_⟩
  · obtain ⟨p, hp⟩ := h1
    obtain ⟨p2, L2, q1, q2⟩ := (ClS.of_row hps hp).adds hz n (Nat.le_refl _)
    refine ⟨p2, L2, q1.congr (fun i hi => by simp [hi]), ?_⟩
    rw [q2, List.length_range]; omega
  · obtain ⟨L2, q1, q2⟩ := h.drops hz n (Nat.le_refl _)
    have q3 : ClS d n S p L2 := q1.congr (fun i hi => by simp [show ¬ n ≤ i by omega])
    have := h2 _ _ (ClS.row hps q3)
    omega
end Go.Proofs.Rg
namespace Go.Proofs
open Go Go.RowKit
set_option linter.unusedVariables false
set_option linter.unusedSimpArgs false
set_option maxRecDepth 100000
theorem Try.info2 : (Try.prog.info? 2).map (fun i => (i.zero, i.size, i.bytes)) = some (some (.int .i64 0), 1, 8) := by kernel_rfl
def intV (l : List Int) : List Value := l.map (.int .i64)
theorem intV_len (l : List Int) : (intV l).length = l.length := by simp [intV]
theorem run_append_fit {P : Program} (w : World) (base : Nat) (t ty e : TypeId) (i : TypeInfo) (z : Value) (bytes : Nat) (ht : P.underlying t = some (.slice e)) (hi : P.info? e = some i) (hz : i.zero = some z)
    (hsize : i.size = 1) (hby : i.bytes = bytes) (hzs : z.cells.size = 1)
    (g n cap : Nat) (xs : List Value) (hown : w.ownsRow base e 1 (.slice (some ⟨g, 0, none⟩) n cap) n xs)
    (a : Addr) (x : Value) (hnews : w.cell? (a.add 0) = some x) (h1 : x.oneCell' = true)
    (hroom : n + 1 ≤ cap) :
    ∃ w', (Builtin.append_ #[t, t] ty #[.slice (some ⟨g, 0, none⟩) n cap, .slice (some a) 1 1]).run P w = .ok (.slice (some ⟨g, 0, none⟩) (n + 1) cap) w' ∧
      w'.ownsRow base e 1 (.slice (some ⟨g, 0, none⟩) (n + 1) cap) (n + 1) (xs ++ [x]) ∧ w.grownBy w' (some g) := by
  have hnews' : ∀ j u, [x][j]? = some u → w.cell? (a.add j) = some u := fun j u hu => by
    match j, hu with
    | 0, hu => obtain rfl := Option.some.inj hu; exact hnews
  have h1' : ∀ u ∈ [x], u.oneCell' = true := fun u hu => by obtain rfl := List.mem_singleton.1 hu; exact h1
  have hlen : (xs ++ [x]).length = (n + 1) * 1 := by rw [List.length_append, hown.1]; simp
  rcases hown.2 with ⟨q, _⟩ | ⟨g2, cap2, cur, hv, hbg, hg, hnc, hcm, hcs, htake⟩
  · cases q
  · obtain ⟨rfl, rfl⟩ : g = g2 ∧ cap = cap2 := by simpa using hv
    have hfit : n * i.size + [x].length ≤ cur.size := by rw [hsize]; simp; omega
    have hr := run_append_room (P := P) w t ty e i ht hi g n cap cur hg a 1 1 [x] (by rw [hsize]; rfl) hnews' h1' hroom hfit
    refine ⟨_, hr, ⟨hlen, .inr ⟨g, cap, _, rfl, hbg, setRow_heap w g cur _ e _ hg, hroom, hcm, ?_, ?_⟩⟩, ⟨rfl, rfl, rfl, by simp, fun k _ hk => setRow_other w g k _ (fun e => hk (by simp [e]))⟩⟩
    · simp only [hsize, List.size_toArray, List.length_append, List.length_take, List.length_drop, Array.length_toList, List.length_singleton]
      omega
    · simp only [hsize]
      rw [htake, ← hlen]
      exact List.take_left
theorem step_calls {P : Program} {ops : Array Oper} {o : Oper} {a : Act} {w : World} {K : Act → World → Prop} {Q : Exit → Act → World → Prop} {E : Prop} (hgd : o.guard = none) (x : Operand) (args : Array Operand) (ts : Array TypeId)
    (ho : o.op = .call { callee := .value x, args := args, argTypes := ts }) (F : FuncId) (caps : Array Value) (hx : a.eval x = .func (.func F) #[] caps) (vs : Array Value) (hvs : #[] ++ args.map a.eval ++ caps = vs)
    (fn : Go.Func) (f1 : P.funcs[F]? = some fn) (f2 : (fn.name == "runtime.NumGoroutine") = false) (f3 : fn.body.isNone = false) (R : Value → World → Prop) (h : Calls P F vs w fun e w' => ∃ v, e = .returned v ∧ R v w')
    (hk : ∀ v w', R v w' → K (a.put o.dst v) w') : if Region.wanted o (yielded ops a.tmps) = true then Oper.wp P o a w K Q else E := by
  have hw : Region.wanted o (yielded ops a.tmps) = true := by simp [Region.wanted, hgd]
  rw [if_pos hw]
  have hrun : (execOp a.eval o).run P w = .ok (.enter F vs) w := by
    unfold execOp
    rw [ho]
    simp only [resolve, Deferred.ofValue, hx, Sem.run_bind, Sem.run_pure, Result.andThen_ok, invoke, callFunc, run_program, f1, hvs]
    simp [f2, f3]
  unfold Oper.wp
  rw [hrun]
  refine h.mono fun e w' he => ?_
  obtain ⟨v, rfl, hr⟩ := he
  exact hk v w' hr
theorem own_keep {w w' : World} {base : Nat} {e : TypeId} {size n : Nat} {v : Value} {xs : List Value} (h : w.ownsRow base e size v n xs) (hb : ∀ k, v.ownBlock = some k → w'.heap[k]? = w.heap[k]?) : w'.ownsRow base e size v n xs := by
  refine ⟨h.1, ?_⟩
  rcases h.2 with q | ⟨g, cap, cur, rfl, q2, q3, q4⟩
  · exact .inl q
  · exact .inr ⟨g, cap, cur, rfl, q2, (hb g rfl).trans q3, q4⟩
theorem own_mono {w : World} {B C : Nat} {e : TypeId} {size n : Nat} {v : Value} {xs : List Value} (h : w.ownsRow C e size v n xs) (hb : B ≤ C) : w.ownsRow B e size v n xs := by
  refine ⟨h.1, ?_⟩
  rcases h.2 with q | ⟨g, cap, cur, rfl, q2, q3⟩
  · exact .inl q
  · exact .inr ⟨g, cap, cur, rfl, Nat.le_trans hb q2, q3⟩
theorem own_cells {w : World} {B : Nat} {e : TypeId} {v : Value} {n : Nat} {xs : List Value} (h : w.ownsRow B e 1 v n xs) {k : Nat} (hk : v.ownBlock = some k) : ∃ cur, w.heap[k]? = some (.cells cur e (0, 0)) := by
  rcases h.2 with ⟨rfl, _⟩ | ⟨g, cap, cur, rfl, _, q, _⟩
  · cases hk
  · obtain rfl : g = k := by simpa [Value.ownBlock] using hk
    exact ⟨cur, q⟩
theorem own_ne {w : World} {B : Nat} {e t : TypeId} {v : Value} {n : Nat} {xs : List Value} {b : Nat} {cs : Array Value} {fr : Nat × Nat} (h : w.ownsRow B e 1 v n xs) (hb : w.heap[b]? = some (.cells cs t fr)) (hne : e ≠ t) : v.ownBlock ≠ some b := fun q => by
  obtain ⟨c, h1⟩ := own_cells h q
  rw [h1] at hb
  injection hb with hb
  injection hb with _ h3 _
  exact hne h3
theorem own_one {w : World} {B : Nat} {e : TypeId} {v : Value} {n : Nat} {xs : List Value} (h : w.ownsRow B e 1 v n xs) : ∀ u ∈ [v], u.oneCell' = true := fun u hu => by
  obtain rfl := List.mem_singleton.1 hu
  rcases h.2 with ⟨rfl, _⟩ | ⟨g, cap, cur, rfl, _⟩ <;> rfl
theorem own_slice {w : World} {B : Nat} {e : TypeId} {v : Value} {n : Nat} {xs : List Value} (h : w.ownsRow B e 1 v n xs) : ∃ A c, v = .slice A n c := by
  rcases h.2 with ⟨rfl, rfl⟩ | ⟨g, cap, cur, rfl, _⟩
  · exact ⟨none, 0, rfl⟩
  · exact ⟨_, _, rfl⟩
theorem own_prefix {w : World} {B g cap m : Nat} {xs : List Value} {x : Value} (hm : xs.length = m) (h : w.ownsRow B 2 1 (.slice (some ⟨g, 0, none⟩) (m + 1) cap) (m + 1) (xs ++ [x])) : w.ownsRow B 2 1 (.slice (some ⟨g, 0, none⟩) m cap) m xs := by
  refine ⟨by omega, ?_⟩
  rcases h.2 with ⟨q, _⟩ | ⟨g2, cap2, cur, hv, q2, q3, q4, q5, q6, q7⟩
  · cases q
  · obtain ⟨rfl, rfl⟩ : g = g2 ∧ cap = cap2 := by simpa using hv
    refine .inr ⟨g, cap, cur, rfl, q2, q3, by omega, q5, q6, ?_⟩
    have e1 : cur.toList.take (m * 1) = (cur.toList.take ((m + 1) * 1)).take (m * 1) := by rw [List.take_take, Nat.min_eq_left (by omega)]
    rw [e1, q7, List.take_append_of_le_length (by omega), List.take_of_length_le (by omega)]
theorem own_below {w w' : World} {base : Nat} {e : TypeId} {size n : Nat} {v : Value} {xs : List Value} (h : w.ownsRow base e size v n xs) (hb : Below w.heap.size w w') : w'.ownsRow base e size v n xs := own_keep h (fun k hk => hb.block k (h.lt k hk).2)
theorem ord_c2 {w : World} {o : Obj} {a : Addr} {v : Value} (h : w.cell? a = some v) : (w.alloc o).cell? a = some v :=
  (World.cell?_of_block (heap_alloc_old w o (World.block_lt_of_cell? w a h))).trans h
set_option maxHeartbeats 4000000 in
theorem Try.clone_calls (g cap : Nat) (L : List Int) (B : Nat) (w : World) (hown : w.ownsRow B 2 1 (.slice (some ⟨g, 0, none⟩) L.length cap) L.length (intV L)) (hL : L.length ≤ 1000000) :
    Calls Try.prog 133 #[.slice (some ⟨g, 0, none⟩) L.length cap] w fun e w' => ∃ x, e = .returned x ∧ w'.ownsRow w.heap.size 2 1 x L.length (intV L) ∧ Below w.heap.size w w' := by
  obtain ⟨i0, hi, hz0, hz1, hz2⟩ := info_parts Try.info2
  have ownE : (w.alloc (.cells #[] 2)).ownsRow w.heap.size 2 1 (.slice (some ⟨w.heap.size, 0, none⟩) 0 0) 0 [] :=
    World.ownsRow_made w #[] 0 (Nat.le_refl _) (by unfold maxLen; omega) rfl
  have holdc := hown.cells (g := g) rfl
  have hlt : g < w.heap.size := (hown.lt g rfl).2
  have hc1 : ∀ j u, (intV L)[j]? = some u → (w.alloc (.cells #[] 2)).cell? ((⟨g, 0, none⟩ : Addr).add j) = some u := fun j u hu => by
    have := holdc j u hu
    rw [← this]
    refine World.cell?_of_block ?_
    have e : ((⟨g, 0, none⟩ : Addr).add j).block = g := by unfold Addr.add; split <;> simp_all
    rw [e]
    exact heap_alloc_old w _ hlt
  have hc2 : ∀ u ∈ intV L, u.oneCell' = true := fun u hu => by
    unfold intV at hu
    obtain ⟨y, _, rfl⟩ := List.mem_map.1 hu
    rfl
  have hnil : (binOp BinOp.eql 60 (Value.slice (some ⟨g, 0, none⟩) L.length cap) (Value.slice none 0 0)).run Try.prog w = .ok (.bool false) w := Lib.run_eql_slice_nil w 60 2 (some ⟨g, 0, none⟩) L.length cap 0 0 Try.underlying60
  go_enter Try.func133, Try.ntmps133
  go_wp2_with (at_builtin; refine wpList_append_own _ rfl _ _ 60 rfl w.heap.size 2 i0 _ 1 8 Try.underlying60 hi hz0 hz1 hz2 rfl (by omega) _ 0 [] rfl ownE ⟨g, 0, none⟩ L.length cap (intV L) rfl (by rw [intV_len]; omega) hc1 hc2 (by unfold maxLen; omega) (by omega) (by simp) ?_)
  intro v' w1 hown1 hgrow _
  go_wp2
  go_ret
  refine ⟨v', rfl, by simpa using hown1, ((Below.refl _ w).alloc (Nat.le_refl _) _).grown hgrow (by simp) (fun k hk => (ownE.lt k hk).1)⟩

theorem wpList_load_midG {P : Program} {ops : Array Oper} {rest : List Oper} {op : Oper} {a : Act} {w : World} {Q : Exit → Act → World → Prop} (ty : TypeId) (x : Operand) (ho : op.op = .load ty x) (hw : Region.wanted op (yielded ops a.tmps) = true)
    (b o : Nat) (hx : a.eval x = .pointer (some ⟨b, o, none⟩)) (cs : List Value) (d : TypeDesc) (hc : w.rangeAt b o cs)
    (hu : P.underlying ty = some d) (hd : d.isRow = true) (hi : (P.info? ty).map (·.size) = some cs.length)
    (h : wpList P ops Q rest (a.put op.dst (.agg cs.toArray)) w) : wpList P ops Q (op :: rest) a w :=
  wpList_step fun K hK => by rw [if_pos hw]; exact wp_load_mid ty x ho b o hx cs d hc hu hd hi (hK _ _ h)
def RdI (w : World) (v : Value) (l : List Int) (X : Nat → Prop) : Prop := ∃ A cap, v = .slice A l.length cap ∧ l.length ≤ cap ∧ (0 < l.length → ∃ b o, A = some ⟨b, o, none⟩ ∧ b < w.heap.size ∧ X b ∧ ∀ i (h : i < l.length), w.cell? ⟨b, o + i, none⟩ = some (.int .i64 l[i]))
theorem RdI.keep {w w' : World} {v : Value} {l : List Int} {X : Nat → Prop} (h : RdI w v l X) (hs : w.heap.size ≤ w'.heap.size) (hb : ∀ k, k < w.heap.size → X k → w'.heap[k]? = w.heap[k]?) : RdI w' v l X := by
  obtain ⟨A, cap, e, h1, h2⟩ := h
  refine ⟨A, cap, e, h1, fun q => ?_⟩
  obtain ⟨b, o, e1, e2, e3, e4⟩ := h2 q
  exact ⟨b, o, e1, by omega, e3, fun i hi => (World.cell?_of_block (hb b e2 e3)).trans (e4 i hi)⟩
theorem rdI_of {w : World} {B : Nat} {v : Value} {xs : List Int} (h : w.ownsRow B 2 1 v xs.length (intV xs)) : RdI w v xs (fun _ => True) := by
  rcases h.2 with ⟨rfl, q⟩ | ⟨g, cap, cur, rfl, q2, q3, q4, _⟩
  · have hx : xs = [] := List.eq_nil_of_length_eq_zero q
    subst hx
    exact ⟨none, 0, rfl, Nat.le_refl _, fun q => absurd q (by simp)⟩
  · refine ⟨_, cap, rfl, q4, fun _ => ⟨g, 0, rfl, (Array.getElem?_eq_some_iff.1 q3).1, trivial, fun i hi => ?_⟩⟩
    have := h.cells (g := g) rfl i (.int .i64 xs[i]) (by unfold intV; rw [List.getElem?_map, List.getElem?_eq_getElem hi]; rfl)
    rw [show (⟨g, 0 + i, none⟩ : Addr) = (⟨g, 0, none⟩ : Addr).add i from by unfold Addr.add; simp]
    exact this
structure RgB where
  (bp bm ba bb bt be g : Nat)
def RgB.X (b : RgB) (k : Nat) : Prop := k ≠ b.g ∧ k ≠ b.bm ∧ k ≠ b.bt
def RgB.F (b : RgB) : Value := .func (.func 131) #[] #[.pointer (some ⟨b.bp, 0, none⟩), .pointer (some ⟨b.bm, 0, none⟩), .pointer (some ⟨b.ba, 0, none⟩), .pointer (some ⟨b.bb, 0, none⟩), .pointer (some ⟨b.bt, 0, none⟩), .pointer (some ⟨b.be, 0, none⟩)]
structure RgInv (w : World) (B : Nat) (b : RgB) (Vp : Value) (ps : List Int) (ca cb : List Value) (st : List Int × Int) (bv : Value) : Prop where
  hp : w.heap[b.bp]? = some (.cells #[Vp] 60 (0, 0))
  hm : w.heap[b.bm]? = some (.cells #[.int .i64 st.2] 2 (0, 0))
  ha : w.heap[b.ba]? = some (.cells ca.toArray 31 (0, 0))
  hb : w.heap[b.bb]? = some (.cells cb.toArray 31 (0, 0))
  ht : w.heap[b.bt]? = some (.cells #[bv] 60 (0, 0))
  he : w.heap[b.be]? = some (.cells #[b.F] 146 (0, 0))
  ne : b.bm ≠ b.g ∧ b.bp ≠ b.bt
  own : w.ownsRow B 2 1 bv st.1.length (intV st.1)
  sep : bv.ownBlock ≠ some b.g
  pl : RdI w Vp ps b.X
structure RgFr (w w' : World) (b : RgB) : Prop where
  os : w'.os = w.os
  tape : w'.tape = w.tape
  output : w'.output = w.output
  size : w.heap.size ≤ w'.heap.size
  block : ∀ k, k < w.heap.size → k ≠ b.bm → k ≠ b.bt → k ≠ b.g → w'.heap[k]? = w.heap[k]?
theorem RgInv.below {w w' : World} {B : Nat} {b : RgB} {Vp : Value} {ps : List Int} {ca cb : List Value} {st : List Int × Int} {bv : Value} (h : RgInv w B b Vp ps ca cb st bv) (hb : Below w.heap.size w w') : RgInv w' B b Vp ps ca cb st bv := by
  have lt : ∀ {k : Nat} {o : Obj}, w.heap[k]? = some o → w'.heap[k]? = some o := fun {k o} q => (hb.block k (Array.getElem?_eq_some_iff.1 q).1).trans q
  exact ⟨lt h.hp, lt h.hm, lt h.ha, lt h.hb, lt h.ht, lt h.he, h.ne, own_below h.own hb, h.sep, h.pl.keep hb.size (fun k hk _ => hb.block k hk)⟩
def RgPost (w w' : World) (B : Nat) (b : RgB) (Vp : Value) (ps : List Int) (ca cb : List Value) (st : List Int × Int) (cap : Nat) (L : List Int) : Prop :=
  (∃ bv, RgInv w' B b Vp ps ca cb st bv) ∧ w'.ownsRow B 2 1 (.slice (some ⟨b.g, 0, none⟩) L.length cap) L.length (intV L) ∧ RgFr w w' b
theorem heap_set_ne (w : World) (b k : Nat) (v : Value) (h : k ≠ b) : (w.setCell ⟨b, 0, none⟩ v).heap[k]? = w.heap[k]? := Below.heap_setCell _ _ _ _ h
theorem heap_set_eq (w : World) (b : Nat) (u v : Value) (t : TypeId) (h : w.heap[b]? = some (.cells #[u] t (0, 0))) : (w.setCell ⟨b, 0, none⟩ v).heap[b]? = some (.cells #[v] t (0, 0)) := by
  simp [World.setCell, Array.getElem?_modify, h]
theorem range_of {w : World} {b : Nat} {cs : List Value} {t : TypeId} (h : w.heap[b]? = some (.cells cs.toArray t (0, 0))) : w.rangeAt b 0 cs := fun j v hv => by
  have : w.cell? ⟨b, 0 + j, none⟩ = cs.toArray[0 + j]? := by simp [World.cell?, h]
  rw [this, Nat.zero_add]
  simpa using hv
theorem RgInv.bmt {w : World} {B : Nat} {b : RgB} {Vp : Value} {ps : List Int} {ca cb : List Value} {st : List Int × Int} {bv : Value} (h : RgInv w B b Vp ps ca cb st bv) : b.bm ≠ b.bt := fun q => by
  have h1 := h.hm; have h2 := h.ht
  rw [q, h2] at h1
  injection h1 with h1; injection h1 with _ h3 _; exact absurd h3 (by decide)
theorem RgInv.cells {w : World} {B : Nat} {b : RgB} {Vp : Value} {ps : List Int} {ca cb : List Value} {st : List Int × Int} {bv : Value} (h : RgInv w B b Vp ps ca cb st bv) : w.cell? ⟨b.bt, 0, none⟩ = some bv ∧ w.frozen? ⟨b.bt, 0, none⟩ = false ∧
    ∀ v, (w.setCell ⟨b.bt, 0, none⟩ v).cell? ⟨b.bm, 0, none⟩ = some (.int .i64 st.2) ∧ (w.setCell ⟨b.bt, 0, none⟩ v).frozen? ⟨b.bm, 0, none⟩ = false := by
  refine ⟨by simp [World.cell?, h.ht], by simp [World.frozen?, h.ht], fun v => ?_⟩
  have e := heap_set_ne w b.bt b.bm v h.bmt
  rw [h.hm] at e
  exact ⟨by simp [World.cell?, e], by simp [World.frozen?, e]⟩
theorem rg_put {w w1 w2 : World} {B : Nat} {b : RgB} {Vp : Value} {ps : List Int} {ca cb : List Value} {st : List Int × Int} {bv : Value} {cap next : Nat} {L : List Int} {x : Value} (h : RgInv w B b Vp ps ca cb st bv) (hL : w.ownsRow B 2 1 (.slice (some ⟨b.g, 0, none⟩) L.length cap) L.length (intV L)) (hBw : B ≤ w.heap.size)
    (h1 : Below w.heap.size w w1) (h2 : Below w1.heap.size w1 w2) (hx : w2.ownsRow w1.heap.size 2 1 x L.length (intV L)) :
    RgPost w ((w2.setCell ⟨b.bt, 0, none⟩ x).setCell ⟨b.bm, 0, none⟩ (.int .i64 (next : Int))) B b Vp ps ca cb (L, (next : Int)) cap L := by
  have s1 := h1.size
  have s2 := h2.size
  have hw2 := (h.below h1).below h2
  have bmt := h.bmt
  have lm : b.bm < w.heap.size := (Array.getElem?_eq_some_iff.1 h.hm).1
  have lt : b.bt < w.heap.size := (Array.getElem?_eq_some_iff.1 h.ht).1
  have hb : ∀ k, k ≠ b.bm → k ≠ b.bt → ((w2.setCell ⟨b.bt, 0, none⟩ x).setCell ⟨b.bm, 0, none⟩ (.int .i64 (next : Int))).heap[k]? = w2.heap[k]? := fun k a1 a2 => (heap_set_ne _ _ _ _ a1).trans (heap_set_ne _ _ _ _ a2)
  have nt : ∀ {k : Nat} {cs : Array Value} {t : TypeId}, w2.heap[k]? = some (.cells cs t (0, 0)) → t ≠ 2 → t ≠ 60 → ((w2.setCell ⟨b.bt, 0, none⟩ x).setCell ⟨b.bm, 0, none⟩ (.int .i64 (next : Int))).heap[k]? = some (.cells cs t (0, 0)) := fun {k cs t} q a1 a2 =>
    (hb k (fun e => a1 (by rw [e, hw2.hm] at q; injection q with q; injection q with _ h3 _; exact h3.symm)) (fun e => a2 (by rw [e, hw2.ht] at q; injection q with q; injection q with _ h3 _; exact h3.symm))).trans q
  have hL2 := own_below (own_below hL h1) h2
  have gm : b.g ≠ b.bt := fun q => own_ne hL2 (hw2.ht) (by decide) (by rw [← q]; rfl)
  have hgb : b.g ≠ b.bm := fun q => h.ne.1 q.symm
  refine ⟨⟨x, ⟨(hb _ (fun e => by have h3 := hw2.hp; rw [e, hw2.hm] at h3; injection h3 with h3; injection h3 with _ h4 _; exact absurd h4 (by decide)) h.ne.2).trans hw2.hp, ?_, nt hw2.ha (by decide) (by decide), nt hw2.hb (by decide) (by decide), ?_, nt hw2.he (by decide) (by decide), h.ne, ?_, ?_, ?_⟩⟩, ?_, ?_⟩
  · exact heap_set_eq _ _ _ _ _ ((heap_set_ne _ _ _ _ bmt).trans hw2.hm)
  · exact (heap_set_ne _ _ _ _ bmt.symm).trans (heap_set_eq _ _ _ _ _ hw2.ht)
  · refine own_mono (own_keep hx fun k hk => hb k ?_ ?_) (Nat.le_trans hBw s1)
    · have := (hx.lt k hk).1; omega
    · have := (hx.lt k hk).1; omega
  · intro q
    have := (hx.lt _ q).1
    have := (hL.lt b.g rfl).2
    omega
  · exact hw2.pl.keep (by simp) fun k _ hX => hb k hX.2.1 hX.2.2
  · refine own_keep hL2 fun k hk => ?_
    obtain rfl : b.g = k := by simpa [Value.ownBlock] using hk
    exact hb _ hgb gm
  · refine ⟨?_, ?_, ?_, by simp; omega, fun k hk a1 a2 a3 => (hb k a1 a2).trans ((h2.block k (by omega)).trans (h1.block k hk))⟩
    · exact (h2.os.trans h1.os)
    · exact (h2.tape.trans h1.tape)
    · exact (h2.output.trans h1.output)
theorem rg_same {w w1 : World} {B : Nat} {b : RgB} {Vp : Value} {ps : List Int} {ca cb : List Value} {st : List Int × Int} {bv : Value} {cap : Nat} {L : List Int} (h : RgInv w B b Vp ps ca cb st bv) (hL : w.ownsRow B 2 1 (.slice (some ⟨b.g, 0, none⟩) L.length cap) L.length (intV L))
    (h1 : Below w.heap.size w w1) : RgPost w w1 B b Vp ps ca cb st cap L :=
  ⟨⟨bv, h.below h1⟩, own_below hL h1, h1.os, h1.tape, h1.output, h1.size, fun k hk _ _ _ => h1.block k hk⟩
set_option maxHeartbeats 400000 in
theorem Try.rg_leaf (B : Nat) (b : RgB) (Vp : Value) (ps : List Int) (ca cb : List Value) (st : List Int × Int) (bv : Value) (cap : Nat) (L : List Int) (next : Nat) (f : List Int → Bool) (w : World)
    (h : RgInv w B b Vp ps ca cb st bv) (hL : w.ownsRow B 2 1 (.slice (some ⟨b.g, 0, none⟩) L.length cap) L.length (intV L)) (hlen : L.length = ps.length) (hps : ps.length ≤ 8) (hca : ca.length = 24) (hcb : cb.length = 24) (hn : next ≤ 1000) (hBw : B ≤ w.heap.size)
    (hA : ∀ w' V2, RdI w' Vp ps b.X → RdI w' V2 L (fun _ => True) → Calls Try.prog 132 #[.agg ca.toArray, .agg cb.toArray, Vp, V2] w' fun e w'' => e = .returned (.bool (f L)) ∧ Below w'.heap.size w' w'') :
    Calls Try.prog 131 #[.slice (some ⟨b.g, 0, none⟩) L.length cap, .int .i64 (next : Int), .pointer (some ⟨b.bp, 0, none⟩), .pointer (some ⟨b.bm, 0, none⟩), .pointer (some ⟨b.ba, 0, none⟩), .pointer (some ⟨b.bb, 0, none⟩), .pointer (some ⟨b.bt, 0, none⟩), .pointer (some ⟨b.be, 0, none⟩)] w
      fun e w' => e = .returned (.tuple #[]) ∧ RgPost w w' B b Vp ps ca cb (Rg.keepMax f st (L, next)) cap L := by
  obtain ⟨Ap, cp, rfl, hp1, hp2⟩ := id h.pl
  have c1 : w.cell? ⟨b.bp, 0, none⟩ = some (.slice Ap ps.length cp) := by simp [World.cell?, h.hp]
  have c2 : w.cell? ⟨b.bm, 0, none⟩ = some (.int .i64 st.2) := by simp [World.cell?, h.hm]
  have ra := range_of h.ha
  have rb := range_of h.hb
  have f1 : w.frozen? ⟨b.bm, 0, none⟩ = false := by simp [World.frozen?, h.hm]
  have f2 : w.frozen? ⟨b.bt, 0, none⟩ = false := by simp [World.frozen?, h.ht]
  have ia : (Try.prog.info? 31).map (·.size) = some ca.length := by rw [hca]; kernel_rfl
  have ib : (Try.prog.info? 31).map (·.size) = some cb.length := by rw [hcb]; kernel_rfl
  by_cases c : (next : Int) > st.2
  · have hcA := hA w (.slice (some ⟨b.g, 0, none⟩) L.length cap) h.pl (rdI_of hL)
    cases hf : f L with
    | true =>
      rw [hf] at hcA
      rw [hlen] at hcA
      have cl := fun w1 hb1 => Try.clone_calls b.g cap L B w1 (own_below hL hb1) (by omega)
      rw [hlen] at cl
      go_enter Try.func131, Try.ntmps131
      go_wp2_with (first
        | (refine wpList_load_midG 31 _ rfl ?_ b.ba 0 rfl ca _ ra Try.underlying31 rfl ia ?_)
        | (refine wpList_load_midG 31 _ rfl ?_ b.bb 0 rfl cb _ rb Try.underlying31 rfl ib ?_)
        | (go_at_call 132; refine hcA.mono ?_; rintro e w1 ⟨rfl, hb1⟩)
        | (go_at_call 133; refine (cl w1 hb1).mono ?_; rintro e w2 ⟨x, rfl, hx, hb2⟩; obtain ⟨A2, c3, rfl⟩ := own_slice hx; have kk := ((h.below hb1).below hb2).cells; have k1 := kk.1; have k2 := kk.2.1; have k3 := (kk.2.2 (.slice A2 ps.length c3)).1; have k4 := (kk.2.2 (.slice A2 ps.length c3)).2; clear kk))
      refine bodyPost_ret (results_none rfl _ _ _) rfl ⟨rfl, ?_⟩
      have e : Rg.keepMax f st (L, next) = (L, (next : Int)) := by unfold Rg.keepMax; rw [if_pos ⟨c, hf⟩]
      rw [e]
      exact rg_put h hL hBw hb1 hb2 (by rw [hlen]; exact hx)
    | false =>
      rw [hf] at hcA
      rw [hlen] at hcA
      go_enter Try.func131, Try.ntmps131
      go_wp2_with (first
        | (refine wpList_load_midG 31 _ rfl ?_ b.ba 0 rfl ca _ ra Try.underlying31 rfl ia ?_)
        | (refine wpList_load_midG 31 _ rfl ?_ b.bb 0 rfl cb _ rb Try.underlying31 rfl ib ?_)
        | (go_at_call 132; refine hcA.mono ?_; rintro e w1 ⟨rfl, hb1⟩))
      refine bodyPost_ret (results_none rfl _ _ _) rfl ⟨rfl, ?_⟩
      have e : Rg.keepMax f st (L, next) = st := by unfold Rg.keepMax; rw [if_neg (fun q => by simp [hf] at q)]
      rw [e]
      exact rg_same h hL hb1
  · go_enter Try.func131, Try.ntmps131
    go_wp2
    refine bodyPost_ret (results_none rfl _ _ _) rfl ⟨rfl, ?_⟩
    have e : Rg.keepMax f st (L, next) = st := by unfold Rg.keepMax; rw [if_neg (fun q => by have := q.1; omega)]
    rw [e]
    exact rg_same h hL (Below.refl _ _)
theorem step_append_fit {P : Program} {ops : Array Oper} {o : Oper} {a : Act} {w : World} {K : Act → World → Prop} {Q : Exit → Act → World → Prop} {E : Prop} (hgd : o.guard = none) (t : TypeId) (s x : Operand) (ho : o.op = .call { callee := .builtin .append, args := #[s, x], argTypes := #[t, t] })
    (base : Nat) (e : TypeId) (i : TypeInfo) (z : Value) (bytes : Nat) (ht : P.underlying t = some (.slice e)) (hi : P.info? e = some i) (hz : i.zero = some z)
    (hsize : i.size = 1) (hby : i.bytes = bytes) (hzs : z.cells.size = 1)
    (g n cap : Nat) (xs : List Value) (hs : a.eval s = .slice (some ⟨g, 0, none⟩) n cap) (hown : w.ownsRow base e 1 (.slice (some ⟨g, 0, none⟩) n cap) n xs)
    (ad : Addr) (y : Value) (hx : a.eval x = .slice (some ad) 1 1) (hnews : w.cell? (ad.add 0) = some y) (h1 : y.oneCell' = true) (hroom : n + 1 ≤ cap)
    (h : ∀ w', w'.ownsRow base e 1 (.slice (some ⟨g, 0, none⟩) (n + 1) cap) (n + 1) (xs ++ [y]) → w.grownBy w' (some g) → K (a.put o.dst (.slice (some ⟨g, 0, none⟩) (n + 1) cap)) w') :
    if Region.wanted o (yielded ops a.tmps) = true then Oper.wp P o a w K Q else E := by
  have hw : Region.wanted o (yielded ops a.tmps) = true := by simp [Region.wanted, hgd]
  rw [if_pos hw]
  obtain ⟨w', hr, h2, h3⟩ := run_append_fit (P := P) w base t o.type e i z bytes ht hi hz hsize hby hzs g n cap xs hown ad y hnews h1 hroom
  unfold Oper.wp execOp
  simp only [ho, resolve, invoke, builtin, Sem.run_bind, Sem.run_pure, Result.andThen_ok, List.map_toArray, List.map_cons, List.map_nil, hs, hx, hr]
  exact h w' h2 h3
theorem rg_own5 {w : World} {B g cap : Nat} {L : List Int} {x : Int} (h : w.ownsRow B 2 1 (.slice (some ⟨g, 0, none⟩) (L.length + 1) cap) (L.length + 1) (intV L ++ [.int .i64 x])) : w.ownsRow B 2 1 (.slice (some ⟨g, 0, none⟩) (L ++ [x]).length cap) (L ++ [x]).length (intV (L ++ [x])) := by
  rw [List.length_append, List.length_singleton]
  unfold intV at h ⊢
  rw [List.map_append]
  exact h
theorem rg_ih {P : Program} {F : FuncId} {g cap : Nat} {L : List Int} {x : Int} {cs : List Value} {w : World} {R : World → Prop} (h : Calls P F (.slice (some ⟨g, 0, none⟩) (L ++ [x]).length cap :: cs).toArray w fun e w' => e = .returned (.tuple #[]) ∧ R w') :
    Calls P F (.slice (some ⟨g, 0, none⟩) (L.length + 1) cap :: cs).toArray w fun e w' => ∃ v, e = .returned v ∧ R w' := by
  rw [List.length_append, List.length_singleton] at h
  exact h.mono fun e w' ⟨a, b⟩ => ⟨_, a, b⟩
theorem rg_app {w4 w5 : World} {B : Nat} {b : RgB} {Vp : Value} {ps : List Int} {ca cb : List Value} {st : List Int × Int} {bv : Value} {cap : Nat} {L : List Int} {o : Obj} (h : RgInv w4 B b Vp ps ca cb st bv) (hL : w4.ownsRow B 2 1 (.slice (some ⟨b.g, 0, none⟩) L.length cap) L.length (intV L))
    (hg : (w4.alloc o).grownBy w5 (some b.g)) : RgInv w5 B b Vp ps ca cb st bv ∧ (∀ k, k < w4.heap.size → k ≠ b.g → w5.heap[k]? = w4.heap[k]?) ∧ w4.heap.size + 1 ≤ w5.heap.size := by
  have e1 : (w4.alloc o).heap.size = w4.heap.size + 1 := by simp
  have hs := hg.size
  rw [e1] at hs
  have hb : ∀ k, k < w4.heap.size → k ≠ b.g → w5.heap[k]? = w4.heap[k]? := fun k hk hne => (hg.block k (by omega) (fun q => hne (Option.some.inj q))).trans (heap_alloc_old w4 o hk)
  have lt : ∀ {k : Nat} {o : Obj}, k ≠ b.g → w4.heap[k]? = some o → w5.heap[k]? = some o := fun {k o} hk q => (hb k (Array.getElem?_eq_some_iff.1 q).1 hk).trans q
  have ng : ∀ {j : Nat} {cs : Array Value} {t : TypeId}, w4.heap[j]? = some (.cells cs t (0, 0)) → 2 ≠ t → j ≠ b.g := fun hj hne q => own_ne hL hj hne (by rw [q]; rfl)
  have hgB := (hL.lt b.g rfl).1
  refine ⟨⟨lt (ng h.hp (by decide)) h.hp, lt h.ne.1 h.hm, lt (ng h.ha (by decide)) h.ha, lt (ng h.hb (by decide)) h.hb, lt (ng h.ht (by decide)) h.ht, lt (ng h.he (by decide)) h.he, h.ne, own_keep h.own (fun k hk => hb k (h.own.lt k hk).2 (fun q => h.sep (q ▸ hk))), h.sep, h.pl.keep (by omega) (fun k hk hX => hb k hk hX.1)⟩, hb, hs⟩
theorem rg_comb {w w4 w5 w6 : World} {B : Nat} {b : RgB} {Vp : Value} {ps : List Int} {ca cb : List Value} {st' : List Int × Int} {cap : Nat} {L : List Int} {x : Int} {o : Obj} (h4 : RgFr w w4 b) (hg : (w4.alloc o).grownBy w5 (some b.g)) (hb : ∀ k, k < w4.heap.size → k ≠ b.g → w5.heap[k]? = w4.heap[k]?)
    (hs : w4.heap.size + 1 ≤ w5.heap.size) (hp : RgPost w5 w6 B b Vp ps ca cb st' cap (L ++ [x])) : RgPost w w6 B b Vp ps ca cb st' cap L := by
  obtain ⟨p1, p3, p4⟩ := hp
  have hs4 := h4.size
  refine ⟨p1, ?_, p4.os.trans (hg.os.trans h4.os), p4.tape.trans (hg.tape.trans h4.tape), p4.output.trans (hg.output.trans h4.output), by have := p4.size; omega, fun k hk c1 c2 c3 => ?_⟩
  · rw [List.length_append, List.length_singleton] at p3
    refine own_prefix (x := .int .i64 x) (intV_len L) ?_
    unfold intV at p3 ⊢
    rw [List.map_append] at p3
    exact p3
  · rw [p4.block k (by omega) c1 c2 c3, hb k (by omega) c3]
    exact h4.block k hk c1 c2 c3
theorem RgInv.drew {w : World} {B : Nat} {b : RgB} {Vp : Value} {ps : List Int} {ca cb : List Value} {st : List Int × Int} {bv : Value} (h : RgInv w B b Vp ps ca cb st bv) : RgInv w.drew B b Vp ps ca cb st bv := ⟨h.hp, h.hm, h.ha, h.hb, h.ht, h.he, h.ne, own_keep (w' := w.drew) h.own (fun _ _ => rfl), h.sep, h.pl.keep (Nat.le_refl _) (fun _ _ _ => rfl)⟩
set_option maxHeartbeats 8000000 in
theorem Try.rg_calls (B : Nat) (b : RgB) (Vp : Value) (ps : List Int) (ca cb : List Value) (cap : Nat) (f : List Int → Bool) (hps : ps.length ≤ 8) (hcap : ps.length ≤ cap) (hca : ca.length = 24) (hcb : cb.length = 24)
    (hA : ∀ L w' V2, L.length = ps.length → RdI w' Vp ps b.X → RdI w' V2 L (fun _ => True) → Calls Try.prog 132 #[.agg ca.toArray, .agg cb.toArray, Vp, V2] w' fun e w'' => e = .returned (.bool (f L)) ∧ Below w'.heap.size w' w'') :
    ∀ (d : Nat) (L : List Int) (next : Nat) (st : List Int × Int) (bv : Value) (w : World), RgInv w B b Vp ps ca cb st bv → w.ownsRow B 2 1 (.slice (some ⟨b.g, 0, none⟩) L.length cap) L.length (intV L) → B ≤ w.heap.size → L.length + d = ps.length → next + d ≤ 1000 →
    Calls Try.prog 131 #[.slice (some ⟨b.g, 0, none⟩) L.length cap, .int .i64 (next : Int), .pointer (some ⟨b.bp, 0, none⟩), .pointer (some ⟨b.bm, 0, none⟩), .pointer (some ⟨b.ba, 0, none⟩), .pointer (some ⟨b.bb, 0, none⟩), .pointer (some ⟨b.bt, 0, none⟩), .pointer (some ⟨b.be, 0, none⟩)] w
      fun e w' => e = .returned (.tuple #[]) ∧ RgPost w w' B b Vp ps ca cb ((Rg.leaves d L next).foldl (Rg.keepMax f) st) cap L
  | 0, L, next, st, bv, w, h, hL, hBw, hd, hn => Try.rg_leaf B b Vp ps ca cb st bv cap L next f w h hL (by omega) hps hca hcb (by omega) hBw (fun w' V2 => hA L w' V2 (by omega))
  | d + 1, L, next, st, bv, w, h, hL, hBw, hd, hn => by
    obtain ⟨Ap, cp, rfl, hp1, hp2⟩ := id h.pl
    have c1 : w.cell? ⟨b.bp, 0, none⟩ = some (.slice Ap ps.length cp) := by simp [World.cell?, h.hp]
    go_enter Try.func131, Try.ntmps131
    go_wp2
    have hnb : ((L.length : Int) == (ps.length : Int)) = false := by simp; omega
    rw [hnb]
    clear hnb
    go_loopw [10] (fun i wr => ∃ k : Nat, k ≤ next + 1 ∧ i = .int .i64 k ∧ RgPost w wr B b (.slice Ap ps.length cp) ps ca cb (((List.range k).flatMap fun (part : Nat) => Rg.leaves d (L ++ [(part : Int)]) (max next (part + 1))).foldl (Rg.keepMax f) st) cap L)
      (fun i _ => next + 1 - (intOf i).toNat)
    case atStart => exact ⟨0, Nat.zero_le _, rfl, ⟨bv, h⟩, hL, rfl, rfl, rfl, Nat.le_refl _, fun _ _ _ _ _ => rfl⟩
    case round =>
      obtain ⟨k, hk, rfl, hp⟩ := hrel
      by_cases hlt : k < next + 1
      · obtain ⟨⟨bv4, q1⟩, q3, q4⟩ := hp
        obtain ⟨i0, hi, hz0, hz1, hz2⟩ := info_parts Try.info2
        have ce : wr.cell? ⟨b.be, 0, none⟩ = some b.F := by simp [World.cell?, q1.he]
        unfold RgB.F at ce
        have ce2 := ord_c2 (w := wr) (o := .cells #[.int .i64 (k : Int)] 2) ce
        have hbwr : B ≤ wr.heap.size := Nat.le_trans hBw q4.size
        have hnew : (wr.drew.alloc (.cells #[.int .i64 (k : Int)] 2)).cell? ((⟨wr.heap.size, 0, none⟩ : Addr).add 0) = some (.int .i64 (k : Int)) :=
          World.news_of_block (cs := #[.int .i64 (k : Int)]) (t := 2) (fr := (0, 0)) (heap_alloc_new wr.drew _) 0 _ rfl
        have q1d := q1.drew
        have q3d := own_keep (w' := wr.drew) q3 (fun _ _ => rfl)
        have hle : (k : Int) ≤ (next : Int) := by omega
        have hmx : (if (next : Int) < IntKind.i64.wrap ((k : Int) + 1) then IntKind.i64.wrap ((k : Int) + 1) else (next : Int)) = ((max next (k + 1) : Nat) : Int) := by
          have e : IntKind.i64.wrap ((k : Int) + 1) = ((k + 1 : Nat) : Int) := by rw [IntKind.wrap_i64]; omega
          rw [e]; split <;> omega
        go_wp2
        go_region_law (first
          | (refine step_append_fit (by rfl) _ _ _ (by rfl) B 2 i0 _ 8 Try.underlying60 hi hz0 hz1 hz2 rfl b.g L.length cap (intV L) (by rfl) (q3d.alloc _) ⟨wr.heap.size, 0, none⟩ (.int .i64 (k : Int)) (by rfl) hnew rfl (by omega) ?_; intro w5 hown5 hgrow5; have ha := rg_app q1d q3d hgrow5; have ce5 : w5.cell? ⟨b.be, 0, none⟩ = some b.F := (by simp [World.cell?, ha.1.he]); unfold RgB.F at ce5)
          | (refine step_calls (by rfl) _ _ _ (by rfl) 131 #[.pointer (some ⟨b.bp, 0, none⟩), .pointer (some ⟨b.bm, 0, none⟩), .pointer (some ⟨b.ba, 0, none⟩), .pointer (some ⟨b.bb, 0, none⟩), .pointer (some ⟨b.bt, 0, none⟩), .pointer (some ⟨b.be, 0, none⟩)] (by simp [Act.eval, Act.put]) #[.slice (some ⟨b.g, 0, none⟩) (L.length + 1) cap, .int .i64 ((max next (k + 1) : Nat) : Int), .pointer (some ⟨b.bp, 0, none⟩), .pointer (some ⟨b.bm, 0, none⟩), .pointer (some ⟨b.ba, 0, none⟩), .pointer (some ⟨b.bb, 0, none⟩), .pointer (some ⟨b.bt, 0, none⟩), .pointer (some ⟨b.be, 0, none⟩)] (by simp [Act.eval, Act.put] <;> exact hmx) _ Try.func131 (by kernel_rfl) (by kernel_rfl) (fun v w6 => RgPost w5 w6 B b (.slice Ap ps.length cp) ps ca cb ((Rg.leaves d (L ++ [(k : Int)]) (max next (k + 1))).foldl (Rg.keepMax f) (((List.range k).flatMap fun (part : Nat) => Rg.leaves d (L ++ [(part : Int)]) (max next (part + 1))).foldl (Rg.keepMax f) st)) cap (L ++ [(k : Int)])) (rg_ih (Try.rg_calls B b (.slice Ap ps.length cp) ps ca cb cap f hps hcap hca hcb hA d (L ++ [(k : Int)]) (max next (k + 1)) _ bv4 w5 ha.1 (rg_own5 hown5) (Nat.le_trans hbwr (Nat.le_trans (Nat.le_succ _) ha.2.2)) (by rw [List.length_append, List.length_singleton]; omega) (by omega))) ?_; intro v w6 hp6))
        all_goals
          go_wp2
          go_roundw
          case rel =>
            refine ⟨k + 1, by omega, by go_num, ?_⟩
            rw [List.range_succ, List.flatMap_append, List.flatMap_singleton, List.foldl_append]
            exact rg_comb (w4 := wr.drew) (o := .cells #[.int .i64 (k : Int)] 2) ⟨q4.os, q4.tape, q4.output, q4.size, q4.block⟩ hgrow5 ha.2.1 ha.2.2 hp6
          case measure => simp [intOf]; omega
      · have hk2 : k = next + 1 := by omega
        subst hk2
        go_wp2
        go_end0
        exact ⟨rfl, hp⟩
theorem RdI.weak {w : World} {v : Value} {l : List Int} {X Y : Nat → Prop} (h : RdI w v l X) (hxy : ∀ k, k < w.heap.size → X k → Y k) : RdI w v l Y := by
  obtain ⟨A, cap, e, h1, h2⟩ := h
  refine ⟨A, cap, e, h1, fun q => ?_⟩
  obtain ⟨b, o, e1, e2, e3, e4⟩ := h2 q
  exact ⟨b, o, e1, e2, hxy b e2 e3, e4⟩
abbrev rgB (w w1 : World) : RgB := ⟨w1.heap.size, w1.heap.size + 1 + 1 + 1, w.heap.size, w.heap.size + 1, w1.heap.size + 1 + 1, w1.heap.size + 1 + 1 + 1 + 1, w1.heap.size + 1 + 1 + 1 + 1 + 1⟩
abbrev rgH (w w1 : World) (Vp : Value) (n : Nat) : Array Obj := ((((((w1.heap.push (.cells #[Vp] 60)).push (.cells (madeCells #[.int .i64 0] n) 2)).push (.cells #[.slice (some ⟨w1.heap.size + 1, 0, none⟩) n n] 60)).push (.cells #[.int .i64 (-1)] 2)).push (.cells #[(rgB w w1).F] 146)).push (.cells (madeCells #[.int .i64 0] n) 2))
theorem rg_H (w w1 : World) (Vp : Value) (n : Nat) : (rgH w w1 Vp n).size = w1.heap.size + 6 ∧ (∀ k, k < w1.heap.size → (rgH w w1 Vp n)[k]? = w1.heap[k]?) ∧ (rgH w w1 Vp n)[w1.heap.size]? = some (.cells #[Vp] 60) ∧ (rgH w w1 Vp n)[w1.heap.size + 1]? = some (.cells (madeCells #[.int .i64 0] n) 2) ∧
    (rgH w w1 Vp n)[w1.heap.size + 1 + 1]? = some (.cells #[.slice (some ⟨w1.heap.size + 1, 0, none⟩) n n] 60) ∧ (rgH w w1 Vp n)[w1.heap.size + 1 + 1 + 1]? = some (.cells #[.int .i64 (-1)] 2) ∧
    (rgH w w1 Vp n)[w1.heap.size + 1 + 1 + 1 + 1]? = some (.cells #[(rgB w w1).F] 146) ∧ (rgH w w1 Vp n)[w1.heap.size + 1 + 1 + 1 + 1 + 1]? = some (.cells (madeCells #[.int .i64 0] n) 2) := by
  unfold rgH
  refine ⟨by simp, fun k hk => ?_, ?_, ?_, ?_, ?_, ?_, ?_⟩
  · rw [Array.getElem?_push, if_neg (by simp <;> omega), Array.getElem?_push, if_neg (by simp <;> omega), Array.getElem?_push, if_neg (by simp <;> omega), Array.getElem?_push, if_neg (by simp <;> omega), Array.getElem?_push, if_neg (by simp <;> omega), Array.getElem?_push, if_neg (by omega)]
  · rw [Array.getElem?_push, if_neg (by simp <;> omega), Array.getElem?_push, if_neg (by simp <;> omega), Array.getElem?_push, if_neg (by simp <;> omega), Array.getElem?_push, if_neg (by simp <;> omega), Array.getElem?_push, if_neg (by simp), Array.getElem?_push, if_pos rfl]
  · rw [Array.getElem?_push, if_neg (by simp <;> omega), Array.getElem?_push, if_neg (by simp <;> omega), Array.getElem?_push, if_neg (by simp <;> omega), Array.getElem?_push, if_neg (by simp), Array.getElem?_push, if_pos (by simp)]
  · rw [Array.getElem?_push, if_neg (by simp <;> omega), Array.getElem?_push, if_neg (by simp <;> omega), Array.getElem?_push, if_neg (by simp), Array.getElem?_push, if_pos (by simp)]
  · rw [Array.getElem?_push, if_neg (by simp <;> omega), Array.getElem?_push, if_neg (by simp), Array.getElem?_push, if_pos (by simp)]
  · rw [Array.getElem?_push, if_neg (by simp), Array.getElem?_push, if_pos (by simp)]
  · rw [Array.getElem?_push, if_pos (by simp)]
theorem intV_zeros (n : Nat) : (madeCells #[.int .i64 0] n).toList = intV (List.replicate n 0) := by
  rw [toList_madeCells_one]
  simp [intV]
theorem rg_start (w w1 W : World) (Vp : Value) (ps : List Int) (ca cb : List Value) (hh : W.heap = rgH w w1 Vp ps.length) (hps : ps.length ≤ 8) (hw : w.heap.size + 2 ≤ w1.heap.size) (ha : w1.heap[w.heap.size]? = some (.cells ca.toArray 31)) (hb : w1.heap[w.heap.size + 1]? = some (.cells cb.toArray 31)) (hv : RdI w1 Vp ps (fun _ => True)) :
    RgInv W w.heap.size (rgB w w1) Vp ps ca cb (List.replicate ps.length 0, -1) (.slice (some ⟨w1.heap.size + 1, 0, none⟩) ps.length ps.length) ∧ W.ownsRow w.heap.size 2 1 (.slice (some ⟨w1.heap.size + 1 + 1 + 1 + 1 + 1, 0, none⟩) 0 ps.length) 0 [] ∧ W.heap.size = w1.heap.size + 6 ∧ (∀ k, k < w1.heap.size → W.heap[k]? = w1.heap[k]?) := by
  obtain ⟨s0, s1, s2, s3, s4, s5, s6, s7⟩ := rg_H w w1 Vp ps.length
  rw [← hh] at s0 s1 s2 s3 s4 s5 s6 s7
  have hz : (madeCells #[Value.int .i64 0] ps.length).size = ps.length := size_madeCells _ _
  refine ⟨⟨s2, s5, (s1 w.heap.size (by omega)).trans ha, (s1 (w.heap.size + 1) (by omega)).trans hb, s4, s6, ⟨by show w1.heap.size + 1 + 1 + 1 ≠ w1.heap.size + 1 + 1 + 1 + 1 + 1; omega, by show w1.heap.size ≠ w1.heap.size + 1 + 1; omega⟩, ?_, ?_, ?_⟩, ?_, s0, s1⟩
  · rw [List.length_replicate]
    refine ⟨by rw [intV_len, List.length_replicate, Nat.mul_one], .inr ⟨w1.heap.size + 1, ps.length, _, rfl, by omega, s3, Nat.le_refl _, by unfold maxLen; omega, by rw [hz, Nat.mul_one], ?_⟩⟩
    rw [intV_zeros, List.take_of_length_le (by rw [intV_len, List.length_replicate, Nat.mul_one]; exact Nat.le_refl _)]
  · show some (w1.heap.size + 1) ≠ some (w1.heap.size + 1 + 1 + 1 + 1 + 1)
    intro q; have := Option.some.inj q; omega
  · refine RdI.weak (RdI.keep (RdI.weak (Y := fun k => k < w1.heap.size) hv (fun k hk _ => hk)) (by omega) (fun k hk _ => s1 k hk)) (fun k _ hk => ⟨?_, ?_, ?_⟩)
    · show k ≠ w1.heap.size + 1 + 1 + 1 + 1 + 1; omega
    · show k ≠ w1.heap.size + 1 + 1 + 1; omega
    · show k ≠ w1.heap.size + 1 + 1; omega
  · exact ⟨rfl, .inr ⟨_, ps.length, _, rfl, by omega, s7, by omega, by unfold maxLen; omega, by rw [hz, Nat.mul_one], rfl⟩⟩
set_option maxHeartbeats 8000000 in
theorem Try.best_calls (ps : List Int) (ca cb : List Value) (f : List Int → Bool) (hps : ps.length ≤ 8) (hca : ca.length = 24) (hcb : cb.length = 24) (w : World)
    (hD : ∀ w', Calls Try.prog 107 #[.agg ca.toArray, .agg cb.toArray] w' fun e w'' => ∃ v, e = .returned v ∧ RdI w'' v ps (fun k => w'.heap.size ≤ k) ∧ Below w'.heap.size w' w'')
    (hA : ∀ L w' Vp V2, L.length = ps.length → RdI w' Vp ps (fun _ => True) → RdI w' V2 L (fun _ => True) → Calls Try.prog 132 #[.agg ca.toArray, .agg cb.toArray, Vp, V2] w' fun e w'' => e = .returned (.bool (f L)) ∧ Below w'.heap.size w' w'') :
    Calls Try.prog 108 #[.agg ca.toArray, .agg cb.toArray] w fun e w' => ∃ v, e = .returned v ∧ w'.ownsRow w.heap.size 2 1 v ((Rg.leaves ps.length [] 0).foldl (Rg.keepMax f) (List.replicate ps.length 0, -1)).1.length (intV ((Rg.leaves ps.length [] 0).foldl (Rg.keepMax f) (List.replicate ps.length 0, -1)).1) ∧ Below w.heap.size w w' := by
  have ia : (Try.prog.info? 31).map (·.size) = some ca.length := by rw [hca]; kernel_rfl
  have ib : (Try.prog.info? 31).map (·.size) = some cb.length := by rw [hcb]; kernel_rfl
  have hda := hD ((w.alloc (.cells ca.toArray 31)).alloc (.cells cb.toArray 31))
  have ra : ((w.alloc (.cells ca.toArray 31)).alloc (.cells cb.toArray 31)).rangeAt w.heap.size 0 ca := range_of (t := 31) ((heap_alloc_old _ _ (by simp)).trans (heap_alloc_new w _))
  have rb : ((w.alloc (.cells ca.toArray 31)).alloc (.cells cb.toArray 31)).rangeAt (w.heap.size + 1) 0 cb := range_of (t := 31) (by have := heap_alloc_new (w.alloc (.cells ca.toArray 31)) (.cells cb.toArray 31); simpa using this)
  obtain ⟨i0, hi, hz0, hz1, hz2⟩ := info_parts Try.info2
  have hmk : ∀ W : World, (Instr.makeSlice 60 (.int .i64 (ps.length : Int)) (.int .i64 (ps.length : Int))).run Try.prog W = .ok (.slice (some ⟨W.heap.size, 0, none⟩) ps.length ps.length) (W.alloc (.cells (madeCells #[.int .i64 0] ps.length) 2)) := fun W => by
    have := run_make (P := Try.prog) W 60 2 i0 _ Try.underlying60 hi hz0 .i64 .i64 (ps.length : Int) (ps.length : Int) (by omega) (by omega) (by rw [hz2]; omega) (by omega)
    simpa [hz1, Value.cells] using this
  have hmk0 : ∀ W : World, (Instr.makeSlice 60 (.int .i64 0) (.int .i64 (ps.length : Int))).run Try.prog W = .ok (.slice (some ⟨W.heap.size, 0, none⟩) 0 ps.length) (W.alloc (.cells (madeCells #[.int .i64 0] ps.length) 2)) := fun W => by
    have := run_make (P := Try.prog) W 60 2 i0 _ Try.underlying60 hi hz0 .i64 .i64 0 (ps.length : Int) (by omega) (by omega) (by rw [hz2]; omega) (by omega)
    simpa [hz1, Value.cells] using this
  go_enter Try.func108, Try.ntmps108
  go_wp2_with (first
        | (refine wpList_load_midG 31 _ rfl ?_ w.heap.size 0 rfl ca _ ra Try.underlying31 rfl ia ?_)
        | (refine wpList_load_midG 31 _ rfl ?_ (w.heap.size + 1) 0 rfl cb _ rb Try.underlying31 rfl ib ?_)
        | (go_at_call 107; refine hda.mono ?_; rintro e w1 ⟨v, rfl, hv, hb1⟩; obtain ⟨Ap, cp, rfl, hp1, hp2⟩ := id hv))
  have hbS := hb1.size
  have e2 : ((w.alloc (.cells ca.toArray 31)).alloc (.cells cb.toArray 31)).heap.size = w.heap.size + 2 := by simp
  rw [e2] at hbS
  have hc : ∀ W : World, W.heap = rgH w w1 (.slice Ap ps.length cp) ps.length → Calls Try.prog 131 #[.slice (some ⟨w1.heap.size + 1 + 1 + 1 + 1 + 1, 0, none⟩) 0 ps.length, .int .i64 0, .pointer (some ⟨w1.heap.size, 0, none⟩), .pointer (some ⟨w1.heap.size + 1 + 1 + 1, 0, none⟩), .pointer (some ⟨w.heap.size, 0, none⟩), .pointer (some ⟨w.heap.size + 1, 0, none⟩), .pointer (some ⟨w1.heap.size + 1 + 1, 0, none⟩), .pointer (some ⟨w1.heap.size + 1 + 1 + 1 + 1, 0, none⟩)] W
      fun e w6 => ∃ v, e = .returned v ∧ ∃ bv, RgInv w6 w.heap.size (rgB w w1) (.slice Ap ps.length cp) ps ca cb ((Rg.leaves ps.length [] 0).foldl (Rg.keepMax f) (List.replicate ps.length 0, -1)) bv ∧ RgFr W w6 (rgB w w1) ∧ W.heap.size = w1.heap.size + 6 ∧ (∀ k, k < w1.heap.size → W.heap[k]? = w1.heap[k]?) := fun W hh => by
    obtain ⟨t1, t2, t3, t4⟩ := rg_start w w1 W _ ps ca cb hh hps hbS ((hb1.block _ (by rw [e2]; omega)).trans ((heap_alloc_old _ _ (by simp)).trans (heap_alloc_new w _))) ((hb1.block _ (by rw [e2]; omega)).trans (by have := heap_alloc_new (w.alloc (.cells ca.toArray 31)) (.cells cb.toArray 31); simpa using this)) (hv.weak (fun _ _ _ => trivial))
    refine (Try.rg_calls w.heap.size (rgB w w1) _ ps ca cb ps.length f hps (Nat.le_refl _) hca hcb (fun L w' V2 hL h1 h2 => hA L w' _ V2 hL (h1.weak (fun _ _ _ => trivial)) h2) ps.length [] 0 _ _ W t1 t2 (by omega) (by simp) (by omega)).mono ?_
    rintro e w6 ⟨rfl, ⟨bv, p1⟩, _, p3⟩
    exact ⟨_, rfl, bv, p1, p3, t3, t4⟩
  go_region_law (first
    | (refine step_calls (by rfl) _ _ _ (by rfl) 131 #[.pointer (some ⟨w1.heap.size, 0, none⟩), .pointer (some ⟨w1.heap.size + 1 + 1 + 1, 0, none⟩), .pointer (some ⟨w.heap.size, 0, none⟩), .pointer (some ⟨w.heap.size + 1, 0, none⟩), .pointer (some ⟨w1.heap.size + 1 + 1, 0, none⟩), .pointer (some ⟨w1.heap.size + 1 + 1 + 1 + 1, 0, none⟩)] (by simp [Act.eval, Act.put]) #[.slice (some ⟨w1.heap.size + 1 + 1 + 1 + 1 + 1, 0, none⟩) 0 ps.length, .int .i64 0, .pointer (some ⟨w1.heap.size, 0, none⟩), .pointer (some ⟨w1.heap.size + 1 + 1 + 1, 0, none⟩), .pointer (some ⟨w.heap.size, 0, none⟩), .pointer (some ⟨w.heap.size + 1, 0, none⟩), .pointer (some ⟨w1.heap.size + 1 + 1, 0, none⟩), .pointer (some ⟨w1.heap.size + 1 + 1 + 1 + 1, 0, none⟩)] (by simp [Act.eval, Act.put]) _ Try.func131 (by kernel_rfl) (by kernel_rfl) _ (hc _ rfl) ?_; rintro v w6 ⟨bv, p1, p3, p4, p5⟩; have ct : w6.cell? ⟨w1.heap.size + 1 + 1, 0, none⟩ = some bv := (by simp [World.cell?, p1.ht])))
  all_goals
    go_wp2
    go_ret
    have q5 := p3.size
    refine ⟨bv, rfl, p1.own, p3.os.trans hb1.os, p3.tape.trans hb1.tape, p3.output.trans hb1.output, by omega, fun k hk => ?_⟩
    have h1 := p3.block k (by omega) (by show k ≠ w1.heap.size + 1 + 1 + 1; omega) (by show k ≠ w1.heap.size + 1 + 1; omega) (by show k ≠ w1.heap.size + 1 + 1 + 1 + 1 + 1; omega)
    rw [h1]
    exact (p5 k (by omega)).trans ((hb1.block k (by rw [e2]; omega)).trans ((heap_alloc_old _ _ (by simp; omega)).trans (heap_alloc_old w _ hk)))
def OwnR (w : World) (B : Nat) (v : Value) (xs : List Int) : Prop := ∃ A cap, v = .slice A xs.length cap ∧ xs.length ≤ cap ∧ (0 < xs.length → ∃ b o, A = some ⟨b, o, none⟩ ∧ b < w.heap.size ∧ ∀ i (h : i < xs.length), w.cell? ⟨b, o + i, none⟩ = some (.int .i64 xs[i])) ∧
  (0 < cap → ∃ b o arr e, A = some ⟨b, o, none⟩ ∧ B ≤ b ∧ w.heap[b]? = some (.cells arr e (0, 0)) ∧ o + cap ≤ arr.size)
theorem OwnR.below {w w' : World} {B : Nat} {v : Value} {xs : List Int} (h : OwnR w B v xs) (hb : Below w.heap.size w w') : OwnR w' B v xs := by
  obtain ⟨A, cap, e, h1, h2, h3⟩ := h
  refine ⟨A, cap, e, h1, fun q => ?_, fun q => ?_⟩
  · obtain ⟨b, o, e1, e2, e3⟩ := h2 q
    exact ⟨b, o, e1, Nat.lt_of_lt_of_le e2 hb.size, fun i hi => (Below.cell hb (p := ⟨b, o + i, none⟩) e2).trans (e3 i hi)⟩
  · obtain ⟨b, o, arr, e', e1, e2, e3, e4⟩ := h3 q
    exact ⟨b, o, arr, e', e1, e2, (hb.block b (Array.getElem?_eq_some_iff.1 e3).1).trans e3, e4⟩
theorem OwnR.le {w : World} {B C : Nat} {v : Value} {xs : List Int} (h : OwnR w C v xs) (hb : B ≤ C) : OwnR w B v xs := by
  obtain ⟨A, cap, e, h1, h2, h3⟩ := h
  refine ⟨A, cap, e, h1, h2, fun q => ?_⟩
  obtain ⟨b, o, arr, e', e1, e2, e3⟩ := h3 q
  exact ⟨b, o, arr, e', e1, Nat.le_trans hb e2, e3⟩
theorem ownR_of {w : World} {B : Nat} {v : Value} {xs : List Int} (h : w.ownsRow B 2 1 v xs.length (intV xs)) : OwnR w B v xs := by
  rcases h.2 with ⟨rfl, q⟩ | ⟨g, cap, cur, rfl, q2, q3, q4, q5, q6, q7⟩
  · have hx : xs = [] := List.eq_nil_of_length_eq_zero q
    subst hx
    exact ⟨none, 0, rfl, Nat.le_refl _, fun q => absurd q (by simp), fun q => absurd q (by simp)⟩
  · refine ⟨_, cap, rfl, q4, fun _ => ⟨g, 0, rfl, (Array.getElem?_eq_some_iff.1 q3).1, fun i hi => ?_⟩, fun _ => ⟨g, 0, cur, 2, rfl, q2, q3, by omega⟩⟩
    have := h.cells (g := g) rfl i (.int .i64 xs[i]) (by unfold intV; rw [List.getElem?_map, List.getElem?_eq_getElem hi]; rfl)
    rw [show (⟨g, 0 + i, none⟩ : Addr) = (⟨g, 0, none⟩ : Addr).add i from by unfold Addr.add; simp]
    exact this
end Go.Proofs
