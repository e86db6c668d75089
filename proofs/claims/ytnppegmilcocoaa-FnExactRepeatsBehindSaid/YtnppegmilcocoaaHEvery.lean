/- How often all walkers come together: the reference's and the program's answer are one. -/
import Derived.Test.YtnppegmilcocoaaHWalk
import Derived.Test.YtnppegmilcocoaaHLcm
import Derived.Test.YtnppegmilcocoaaPaf73
import Derived.Test.YtnppegmilcocoaaPaf61
namespace Go.Proofs.Ytnppegmilcocoaa.Pure
open Go.RowKit Go.Proofs.Ytnppegmilcocoaa.Pa Go.Proofs.YtnppegmilcocoaaW.PrintWords Go.Proofs.YtnppegmilcocoaaW.PrintLast Go.Proofs.Ytnppegmilcocoaa.Com

theorem common_loop : ∀ (n k x y : Nat), y ≤ n → n < k → spec_l05Common.l0 k x y = some ((Nat.gcd x y : Nat) : Int) := by
  intro n
  induction n with
  | zero =>
    intro k x y hy hk
    obtain ⟨k, rfl⟩ : ∃ m, k = m + 1 := ⟨k - 1, by omega⟩
    obtain rfl : y = 0 := by omega
    simp only [spec_l05Common.l0]
    rw [if_neg (by omega), Nat.gcd_zero_right]
  | succ n ih =>
    intro k x y hy hk
    obtain ⟨k, rfl⟩ : ∃ m, k = m + 1 := ⟨k - 1, by omega⟩
    simp only [spec_l05Common.l0]
    by_cases h : y = 0
    · subst h
      rw [if_neg (by omega), Nat.gcd_zero_right]
    · have hlt := Nat.mod_lt x (show 0 < y by omega)
      rw [if_pos (by omega), if_neg (by omega), tmod_nat, ih k y (x % y) (by omega) (by omega), Nat.gcd_comm x y, Nat.gcd_rec y x, Nat.gcd_comm (x % y) y]
def everyOf (x : S51) : Nat := (wrap64 x.f1).toNat
/-- What both answer, from o on. -/
def everyFrom : Nat → List S51 → Option Nat
  | o, [] => some o
  | o, x :: l => if Nat.lcm o (everyOf x) > 1000000 then none else everyFrom (Nat.lcm o (everyOf x)) l
theorem every_loop (l : List S51) (hn : l.length ≤ 1000) (hl : ∀ x ∈ l, 1 ≤ wrap64 x.f1 ∧ wrap64 x.f1 ≤ 100) (k : Nat) (i : Int) (h0 : 0 ≤ i) (h1 : i ≤ l.length) (hk : (l.length : Int) - i + 300 < k) :
    ∀ o : Nat, 0 < o → o ≤ 1000000 →
      spec_l05Every.l0 k l o i = some (match everyFrom o (l.drop i.toNat) with | some r => ((r : Int), true) | none => (0, false)) ∧
      impl_AllWalkEvery.l0 k o l l.length i = some (match everyFrom o (l.drop i.toNat) with | some r => ((r : Int), 0) | none => (0, 3)) := by
  refine up_from' (n := l.length) 300 (P := fun k i => ∀ o : Nat, 0 < o → o ≤ 1000000 →
      spec_l05Every.l0 k l o i = some (match everyFrom o (l.drop i.toNat) with | some r => ((r : Int), true) | none => (0, false)) ∧
      impl_AllWalkEvery.l0 k o l l.length i = some (match everyFrom o (l.drop i.toNat) with | some r => ((r : Int), 0) | none => (0, 3))) (fun k hk o ho ho2 => ?_) (fun k i hk h0 h1 ih o ho ho2 => ?_) k i h0 h1 hk
  · simp only [spec_l05Every.l0, impl_AllWalkEvery.l0]
    rw [if_neg (by omega), if_neg (by omega)]
    simp [everyFrom]
  · have hi : i.toNat < l.length := by omega
    have e : (i + 1).toNat = i.toNat + 1 := by omega
    have hr : rd_T51 l i = l[i.toNat] := by simp [rd_T51, List.getD_eq_getElem?_getD, List.getElem?_eq_getElem hi]
    have hx := hl _ (List.getElem_mem hi)
    have hE : wrap64 l[i.toNat].f1 = ((everyOf l[i.toNat] : Nat) : Int) := by unfold everyOf; omega
    have hEp : 0 < everyOf l[i.toNat] := by omega
    have hEl : everyOf l[i.toNat] ≤ 100 := by omega
    have hm := multiple_is k o (everyOf l[i.toNat]) hEl ho hEp ho2 (by omega)
    have hg0 : 0 < Nat.gcd o (everyOf l[i.toNat]) := Nat.gcd_pos_of_pos_left _ ho
    have hc := common_loop (everyOf l[i.toNat]) k o (everyOf l[i.toNat]) (Nat.le_refl _) (by omega)
    have hv : wrap64 (wrap64 (Int.tdiv (o : Int) (Nat.gcd o (everyOf l[i.toNat]) : Nat)) * ((everyOf l[i.toNat] : Nat) : Int)) = ((Nat.lcm o (everyOf l[i.toNat]) : Nat) : Int) := by
      have := multiple_loop (o : Int) (everyOf l[i.toNat] : Nat) (everyOf l[i.toNat]) k o (everyOf l[i.toNat]) (Nat.le_refl _) (by omega) (by omega)
      unfold impl_multiple.f at hm
      rw [hm] at this
      exact (Option.some.inj this).symm
    have hlp : 0 < Nat.lcm o (everyOf l[i.toNat]) := Nat.lcm_pos ho hEp
    simp only [spec_l05Every.l0, impl_AllWalkEvery.l0]
    rw [if_pos h1, if_pos h0, if_pos h1, if_pos h0, if_pos h1, hr, hE, hm, spec_l05Common.f, hc]
    simp only [Option.bind_some]
    rw [if_neg (by omega), hv, w64 (i := i + 1) (by omega) (by omega), List.drop_eq_getElem_cons hi, everyFrom]
    by_cases h : Nat.lcm o (everyOf l[i.toNat]) > 1000000
    · rw [if_pos (by omega), if_pos h, if_pos (by omega)]
      exact ⟨rfl, rfl⟩
    · rw [if_neg (by omega), if_neg h, if_neg (by omega), ← e]
      exact ih _ hlp (by omega)
/-- What AllWalkEvery answers. -/
def allEvery (b : Int) (l : List S51) : Int × Int :=
  if walkersOk b l = true then (match everyFrom 1 l with | some r => ((r : Int), 0) | none => (0, 3)) else (0, 1)
theorem allEvery_is (k : Nat) (b : Int) (l : List S51) (hk : 2000 < k) : spec_AllWalkEvery.f k b l = some (allEvery b l) ∧ impl_AllWalkEvery.f k b l = some (allEvery b l) := by
  unfold spec_AllWalkEvery.f impl_AllWalkEvery.f allEvery
  rw [asked_is k b l true (by omega), implWalkers_is]
  simp only [Option.bind_some]
  cases hv : walkersOk b l with
  | false => exact ⟨rfl, rfl⟩
  | true =>
    have hb := walkersOk_b hv
    obtain ⟨h1, h2⟩ := every_loop l (by omega) (fun x hx => (walkersOk_of hv hx).2.1) k 0 (by omega) (by omega) (by omega) 1 (by omega) (by omega)
    simp only [codeIs, if_true, spec_l05Every.f]
    rw [show ((1 : Nat) : Int) = 1 from rfl] at h1 h2
    rw [h1, h2]
    simp only [Int.toNat_zero, List.drop_zero, Option.bind_some]
    cases everyFrom 1 l <;> simp
end Go.Proofs.Ytnppegmilcocoaa.Pure
