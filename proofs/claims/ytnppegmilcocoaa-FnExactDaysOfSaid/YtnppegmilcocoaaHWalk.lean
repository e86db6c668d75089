/- When walkers are valid: the reference's and the program's answer in plain words. -/
import Derived.Test.YtnppegmilcocoaaCom
import Derived.Test.YtnppegmilcocoaaPaf71
import Derived.Test.YtnppegmilcocoaaPaf32
namespace Go.Proofs.Ytnppegmilcocoaa.Pure
open Go.RowKit Go.Proofs.Ytnppegmilcocoaa.Pa Go.Proofs.YtnppegmilcocoaaW.PrintWords Go.Proofs.YtnppegmilcocoaaW.PrintLast Go.Proofs.Ytnppegmilcocoaa.Com

theorem in_is (a b c : Int) : spec_l00In.f a b c = some (decide (b ≤ a ∧ a ≤ c)) := by
  unfold spec_l00In.f
  by_cases h : b ≤ a <;> simp [h]
def walkersOk (b : Int) (l : List S51) : Bool := decide (1 ≤ b ∧ b ≤ 60) && (decide ((l.length : Int) ≤ 8) && !l.any (walkerBad b))
theorem implWalkers_is (b : Int) (l : List S51) : impl_ValidWalkers.f b l = some (walkersOk b l) := rfl
theorem l05Walker_is (k : Nat) (hk : 1 ≤ k) (b f0 f1 f2 f3 f4 f5 : Int) : spec_l05Walker.f k b f0 f1 f2 f3 f4 f5 = some (!walkerBad b ⟨f0, f1, f2, f3, f4, f5⟩) := by
  obtain ⟨k, rfl⟩ : ∃ m, k = m + 1 := ⟨k - 1, by omega⟩
  unfold spec_l05Walker.f walkerBad
  simp only [in_is, Option.bind_some, spec_l05Walker.j0]
  generalize decide (0 ≤ wrap64 f0 ∧ wrap64 f0 ≤ 10000) = q0
  generalize decide (1 ≤ wrap64 f1 ∧ wrap64 f1 ≤ 100) = q1
  generalize decide (0 ≤ wrap64 f2 ∧ wrap64 f2 ≤ wrap64 (b - 1)) = q2
  generalize decide (0 ≤ wrap64 f3 ∧ wrap64 f3 ≤ 60) = q3
  generalize decide (1 ≤ wrap64 f4 ∧ wrap64 f4 ≤ 60) = q4
  generalize decide (-7 ≤ wrap64 f5 ∧ wrap64 f5 ≤ 7) = q5
  cases q0 <;> cases q1 <;> cases q2 <;> cases q3 <;> cases q4 <;> cases q5 <;> rfl
theorem l05Walkers_loop (b : Int) (l : List S51) (hn : l.length ≤ 1048576) (k : Nat) (i : Int) (h0 : 0 ≤ i) (h1 : i ≤ l.length) (hk : (l.length : Int) - i + 1 < k) :
    spec_l05Walkers.l0 k b l i = some (!(l.drop i.toNat).any (walkerBad b)) := by
  refine up_from' (n := l.length) 1 (P := fun k i => spec_l05Walkers.l0 k b l i = some (!(l.drop i.toNat).any (walkerBad b))) (fun k hk => ?_) (fun k i hk h0 h1 ih => ?_) k i h0 h1 (by omega)
  · simp only [spec_l05Walkers.l0]
    rw [if_neg (by omega)]
    simp
  · simp only [spec_l05Walkers.l0]
    have hi : i.toNat < l.length := by omega
    have e : (i + 1).toNat = i.toNat + 1 := by omega
    have hr : rd_T51 l i = l[i.toNat] := by simp [rd_T51, List.getD_eq_getElem?_getD, List.getElem?_eq_getElem hi]
    rw [if_pos h1, if_pos h0, w64 (by omega) (by omega), ih, e, List.drop_eq_getElem_cons hi, l05Walker_is k hk, hr]
    simp only [Option.bind_some, List.any_cons]
    cases walkerBad b l[i.toNat] <;> simp
theorem l05Walkers_is (k : Nat) (b : Int) (l : List S51) (hk : 20 < k) : spec_l05Walkers.f k b l = some (walkersOk b l) := by
  obtain ⟨k, rfl⟩ : ∃ m, k = m + 1 := ⟨k - 1, by omega⟩
  unfold spec_l05Walkers.f walkersOk
  simp only [in_is, Option.bind_some, spec_l05Walkers.j0]
  cases hb : decide (1 ≤ b ∧ b ≤ 60)
  · simp
  · by_cases hl : (l.length : Int) ≤ 8
    · have h8 : decide ((l.length : Int) > 8) = false := by simp; omega
      rw [h8, l05Walkers_loop b l (by omega) k 0 (by omega) (by omega) (by omega)]
      simp [hl]
    · have h8 : decide ((l.length : Int) > 8) = true := by simp; omega
      rw [h8]
      simp [hl]
theorem asked_is (k : Nat) (b : Int) (l : List S51) (q : Bool) (hk : 20 < k) : spec_l05Asked.f k b l q = some (codeIs (walkersOk b l) q) := by
  unfold spec_l05Asked.f codeIs
  rw [l05Walkers_is k b l hk]
  simp only [Option.bind_some]
  cases walkersOk b l <;> cases q <;> rfl
theorem walkersOk_b {b : Int} {l : List S51} (h : walkersOk b l = true) : 1 ≤ b ∧ b ≤ 60 ∧ l.length ≤ 8 := by
  unfold walkersOk at h
  simp only [Bool.and_eq_true, decide_eq_true_eq] at h
  omega
theorem walkersOk_of {b : Int} {l : List S51} (h : walkersOk b l = true) {x : S51} (hx : x ∈ l) :
    (0 ≤ wrap64 x.f0 ∧ wrap64 x.f0 ≤ 10000) ∧ (1 ≤ wrap64 x.f1 ∧ wrap64 x.f1 ≤ 100) ∧ (0 ≤ wrap64 x.f2 ∧ wrap64 x.f2 ≤ b - 1) ∧ (0 ≤ wrap64 x.f3 ∧ wrap64 x.f3 ≤ 60) ∧ (1 ≤ wrap64 x.f4 ∧ wrap64 x.f4 ≤ 60) ∧ (-7 ≤ wrap64 x.f5 ∧ wrap64 x.f5 ≤ 7) := by
  have hb := walkersOk_b h
  unfold walkersOk at h
  simp only [Bool.and_eq_true, decide_eq_true_eq, Bool.not_eq_true', List.any_eq_false] at h
  have := h.2.2 x hx
  unfold walkerBad at this
  rw [w64 (i := b - 1) (by omega) (by omega)] at this
  simpa [and_assoc] using this
end Go.Proofs.Ytnppegmilcocoaa.Pure
