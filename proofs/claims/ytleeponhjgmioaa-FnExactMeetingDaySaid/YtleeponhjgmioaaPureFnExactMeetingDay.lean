/- For two walkers: the program's MeetingDay answers what the reference answers. -/
import Derived.Test.YtleeponhjgmioaaHOn
import Derived.Test.YtleeponhjgmioaaHLcm
import Derived.Test.YtleeponhjgmioaaPaf12
namespace Go.Proofs.Ytleeponhjgmioaa.Pure
open Go.RowKit Go.Proofs.Ytleeponhjgmioaa.Pa Go.Proofs.YtleeponhjgmioaaW.PrintWords Go.Proofs.YtleeponhjgmioaaW.PrintLast Go.Proofs.Ytleeponhjgmioaa.Com

/-- The first one of n numbers from j on. -/
def findP (p : Int → Bool) : Nat → Int → Option Int
  | 0, _ => none
  | n + 1, j => if p j = true then some j else findP p n (j + 1)
theorem findP_add (p : Int → Bool) : ∀ (m n : Nat) (j : Int), findP p (m + n) j = match findP p m j with | some d => some d | none => findP p n (j + m)
  | 0, n, j => by simp [findP]
  | m + 1, n, j => by
    rw [show m + 1 + n = (m + n) + 1 by omega, findP, findP]
    by_cases h : p j = true
    · rw [if_pos h, if_pos h]
    · rw [if_neg h, if_neg h, findP_add p m n (j + 1), show j + 1 + (m : Int) = j + ((m + 1 : Nat) : Int) by omega]
theorem findP_none {p : Int → Bool} : ∀ {n : Nat} {j : Int}, findP p n j = none → ∀ i : Nat, i < n → p (j + i) = false
  | n + 1, j, h, i, hi => by
    rw [findP] at h
    split at h
    · cases h
    · rename_i hp
      rcases i with _ | i
      · simpa using hp
      · have := findP_none h i (by omega)
        rw [show j + 1 + (i : Int) = j + ((i + 1 : Nat) : Int) by omega] at this
        exact this
theorem findP_all_none {p : Int → Bool} : ∀ {n : Nat} {j : Int}, (∀ i : Nat, i < n → p (j + i) = false) → findP p n j = none
  | 0, _, _ => rfl
  | n + 1, j, h => by
    have h0 := h 0 (by omega)
    rw [show j + ((0 : Nat) : Int) = j by omega] at h0
    rw [findP, if_neg (by simp [h0])]
    refine findP_all_none (fun i hi => ?_)
    have := h (i + 1) (by omega)
    rw [show j + ((i + 1 : Nat) : Int) = j + 1 + i by omega] at this
    exact this
theorem findP_period {p : Int → Bool} {L N : Nat} (hL : 0 < L) (hLN : L ≤ N) (hp : ∀ j : Int, p (j + L) = p j) : findP p N 0 = findP p L 0 := by
  obtain ⟨n, rfl⟩ : ∃ n, N = L + n := ⟨N - L, by omega⟩
  rw [findP_add]
  cases h : findP p L 0 with
  | some d => rfl
  | none =>
    have hall : ∀ i : Nat, p (i : Int) = false := by
      intro i
      induction i using Nat.strongRecOn with
      | _ i ih =>
        by_cases hi : i < L
        · have := findP_none h i hi
          rwa [Int.zero_add] at this
        · have := ih (i - L) (by omega)
          rw [← hp] at this
          rw [show ((i - L : Nat) : Int) + (L : Int) = (i : Int) by omega] at this
          exact this
    refine findP_all_none (fun i _ => ?_)
    rw [show (0 : Int) + (L : Int) + (i : Int) = ((L + i : Nat) : Int) by omega]
    exact hall _
/-- Both come. -/
def meets (first F1 E1 F2 E2 j : Int) : Bool := decide ((first + j - F1) % E1 = 0) && decide ((first + j - F2) % E2 = 0)
def meetOut (first : Int) : Option Int → Int × Int
  | some d => (first + d, 0)
  | none => (0, 6)
theorem on_is (f0 f1 f2 f3 f4 f5 d : Int) (hF : 0 ≤ wrap64 f0 ∧ wrap64 f0 ≤ 10000) (hE : 1 ≤ wrap64 f1 ∧ wrap64 f1 ≤ 100) (hd : wrap64 f0 ≤ d) (hd2 : d ≤ 1000000) :
    spec_l05On.f f0 f1 f2 f3 f4 f5 d = some (decide ((d - wrap64 f0) % wrap64 f1 = 0)) ∧ impl_Walker_comes.f f0 f1 f2 f3 f4 f5 d = some (decide ((d - wrap64 f0) % wrap64 f1 = 0)) := by
  unfold spec_l05On.f impl_Walker_comes.f
  rw [w64 (i := d - wrap64 f0) (by omega) (by omega), if_pos (by omega), if_neg (by omega), if_pos (by omega), Int.tmod_eq_emod_of_nonneg (by omega)]
  have : ((d - wrap64 f0) % wrap64 f1 == 0) = decide ((d - wrap64 f0) % wrap64 f1 = 0) := by
    rw [Bool.eq_iff_iff]; simp
  rw [this]
  exact ⟨rfl, rfl⟩
section
variable (a0 a1 a2 a3 a4 a5 b0 b1 b2 b3 b4 b5 first : Int)
theorem meet_loop (hA : 0 ≤ wrap64 a0 ∧ wrap64 a0 ≤ 10000) (hAE : 1 ≤ wrap64 a1 ∧ wrap64 a1 ≤ 100) (hB : 0 ≤ wrap64 b0 ∧ wrap64 b0 ≤ 10000) (hBE : 1 ≤ wrap64 b1 ∧ wrap64 b1 ≤ 100) (hfA : wrap64 a0 ≤ first) (hfB : wrap64 b0 ≤ first) (hf : first ≤ 10000) :
    ∀ (n k : Nat) (j M : Int), 0 ≤ j → j + n = M → M ≤ 10000 → n < k →
      (wrap64 (wrap64 a1 * wrap64 b1) = M → spec_MeetingDay.l0 k first j a0 a1 a2 a3 a4 a5 b0 b1 b2 b3 b4 b5 = some (meetOut first (findP (meets first (wrap64 a0) (wrap64 a1) (wrap64 b0) (wrap64 b1)) n j))) ∧
      impl_MeetingDay.l0 k first M j a0 a1 a2 a3 a4 a5 b0 b1 b2 b3 b4 b5 = some (meetOut first (findP (meets first (wrap64 a0) (wrap64 a1) (wrap64 b0) (wrap64 b1)) n j)) := by
  intro n
  induction n with
  | zero =>
    intro k j M h0 hj hM hk
    obtain ⟨k, rfl⟩ : ∃ m, k = m + 1 := ⟨k - 1, by omega⟩
    simp only [spec_MeetingDay.l0, impl_MeetingDay.l0]
    constructor
    · intro e
      rw [e, if_neg (by omega)]; rfl
    · rw [if_neg (by omega)]; rfl
  | succ n ih =>
    intro k j M h0 hj hM hk
    obtain ⟨k, rfl⟩ : ∃ m, k = m + 1 := ⟨k - 1, by omega⟩
    obtain ⟨i1, i2⟩ := ih k (j + 1) M (by omega) (by omega) hM (by omega)
    obtain ⟨sa, ia⟩ := on_is a0 a1 a2 a3 a4 a5 (first + j) hA hAE (by omega) (by omega)
    obtain ⟨sb, ib⟩ := on_is b0 b1 b2 b3 b4 b5 (first + j) hB hBE (by omega) (by omega)
    have hw : wrap64 (first + j) = first + j := w64 (by omega) (by omega)
    have hw1 : wrap64 (j + 1) = j + 1 := w64 (by omega) (by omega)
    simp only [spec_MeetingDay.l0, impl_MeetingDay.l0]
    rw [hw, hw1, sa, sb, ia, ib, findP]
    constructor
    · intro e
      have i1 := i1 e
      rw [e, if_pos (by omega)]
      simp only [Option.bind_some, meets]
      by_cases c1 : (first + j - wrap64 a0) % wrap64 a1 = 0 <;> by_cases c2 : (first + j - wrap64 b0) % wrap64 b1 = 0 <;> simp [c1, c2, i1, meetOut]
    · rw [if_pos (by omega)]
      simp only [Option.bind_some, meets]
      by_cases c1 : (first + j - wrap64 a0) % wrap64 a1 = 0 <;> by_cases c2 : (first + j - wrap64 b0) % wrap64 b1 = 0 <;> simp [c1, c2, i2, meetOut]
end
theorem max_is (a b : Int) : spec_l00Max.f a b = some (mx a b) := by
  unfold spec_l00Max.f mx
  by_cases h : a > b
  · rw [if_pos h, if_neg (by omega)]
  · rw [if_neg h]
    by_cases h2 : a < b
    · rw [if_pos h2]
    · rw [if_neg h2]
      congr 1
      omega
theorem FnExactMeetingDay : laws_FnExactMeetingDay.Pure := by
  intro b a0 a1 a2 a3 a4 a5 b0 b1 b2 b3 b4 b5 d _ _ _ _
  refine ⟨100000, ?_⟩
  unfold laws_FnExactMeetingDay.f spec_MeetingDay.f impl_MeetingDay.f laws_toWalker.f
  simp only [Option.bind_some, day_is, asked_is 100000 b _ _ (by omega), implWalkers_is, isDay_is, codeOf_is, List.all_cons, List.all_nil, Bool.and_true]
  by_cases hc : codeIs (walkersOk b [⟨a0, a1, a2, a3, a4, a5⟩, ⟨b0, b1, b2, b3, b4, b5⟩]) (dayOk d) = 0
  · rw [if_pos hc, if_pos hc]
    obtain ⟨hv, hd⟩ := codeIs_zero.1 hc
    have hA := walkersOk_of hv (List.mem_cons_self ..)
    have hB := walkersOk_of hv (List.mem_cons_of_mem _ (List.mem_cons_self ..))
    have hd := dayOk_iff.1 hd
    simp only at hA hB
    have e1 : wrap64 a1 = (((wrap64 a1).toNat : Nat) : Int) := by omega
    have e2 : wrap64 b1 = (((wrap64 b1).toNat : Nat) : Int) := by omega
    have hm := multiple_is 100000 (wrap64 a1).toNat (wrap64 b1).toNat (by omega) (by omega) (by omega) (by omega) (by omega)
    rw [← e1, ← e2] at hm
    have efirst : mx d (mx (wrap64 a0) (wrap64 b0)) = mx (mx d (wrap64 a0)) (wrap64 b0) := by unfold mx; omega
    have hfA : wrap64 a0 ≤ mx (mx d (wrap64 a0)) (wrap64 b0) := by unfold mx; omega
    have hfB : wrap64 b0 ≤ mx (mx d (wrap64 a0)) (wrap64 b0) := by unfold mx; omega
    have hf : mx (mx d (wrap64 a0)) (wrap64 b0) ≤ 10000 := by unfold mx; omega
    simp only [max_is, Option.bind_some, efirst, hm]
    generalize mx (mx d (wrap64 a0)) (wrap64 b0) = first at hfA hfB hf
    have hpos : 0 < wrap64 a1 * wrap64 b1 := Int.mul_pos (by omega) (by omega)
    have hprod : wrap64 a1 * wrap64 b1 ≤ 100 * 100 := Int.mul_le_mul (by omega) (by omega) (by omega) (by omega)
    have hN : wrap64 a1 * wrap64 b1 = (((wrap64 a1).toNat * (wrap64 b1).toNat : Nat) : Int) := by rw [Int.natCast_mul, ← e1, ← e2]
    have hLN : Nat.lcm (wrap64 a1).toNat (wrap64 b1).toNat ≤ (wrap64 a1).toNat * (wrap64 b1).toNat := Nat.div_le_self _ _
    have hL : 0 < Nat.lcm (wrap64 a1).toNat (wrap64 b1).toNat := Nat.lcm_pos (by omega) (by omega)
    have s := (meet_loop a0 a1 a2 a3 a4 a5 b0 b1 b2 b3 b4 b5 first hA.1 hA.2.1 hB.1 hB.2.1 hfA hfB hf ((wrap64 a1).toNat * (wrap64 b1).toNat) 100000 0 (wrap64 a1 * wrap64 b1) (by omega) (by omega) (by omega) (by omega)).1 (w64 (by omega) (by omega))
    have i := (meet_loop a0 a1 a2 a3 a4 a5 b0 b1 b2 b3 b4 b5 first hA.1 hA.2.1 hB.1 hB.2.1 hfA hfB hf (Nat.lcm (wrap64 a1).toNat (wrap64 b1).toNat) 100000 0 (Nat.lcm (wrap64 a1).toNat (wrap64 b1).toNat : Nat) (by omega) (by omega) (by omega) (by omega)).2
    rw [findP_period hL hLN (fun j => ?_)] at s
    · rw [s, i]
      simp
    · obtain ⟨m1, h1⟩ := Nat.dvd_lcm_left (wrap64 a1).toNat (wrap64 b1).toNat
      obtain ⟨m2, h2⟩ := Nat.dvd_lcm_right (wrap64 a1).toNat (wrap64 b1).toNat
      have h1' : ((Nat.lcm (wrap64 a1).toNat (wrap64 b1).toNat : Nat) : Int) = wrap64 a1 * (m1 : Int) := by rw [h1, Int.natCast_mul, ← e1]
      have h2' : ((Nat.lcm (wrap64 a1).toNat (wrap64 b1).toNat : Nat) : Int) = wrap64 b1 * (m2 : Int) := by rw [h2, Int.natCast_mul, ← e2]
      unfold meets
      have q1 : (first + (j + ((Nat.lcm (wrap64 a1).toNat (wrap64 b1).toNat : Nat) : Int)) - wrap64 a0) % wrap64 a1 = (first + j - wrap64 a0) % wrap64 a1 := by
        rw [h1', show first + (j + wrap64 a1 * (m1 : Int)) - wrap64 a0 = (first + j - wrap64 a0) + wrap64 a1 * (m1 : Int) by omega, Int.add_mul_emod_self_left]
      have q2 : (first + (j + ((Nat.lcm (wrap64 a1).toNat (wrap64 b1).toNat : Nat) : Int)) - wrap64 b0) % wrap64 b1 = (first + j - wrap64 b0) % wrap64 b1 := by
        rw [h2', show first + (j + wrap64 b1 * (m2 : Int)) - wrap64 b0 = (first + j - wrap64 b0) + wrap64 b1 * (m2 : Int) by omega, Int.add_mul_emod_self_left]
      rw [q1, q2]
  · rw [if_neg hc, if_neg hc]
    simp
end Go.Proofs.Ytleeponhjgmioaa.Pure
