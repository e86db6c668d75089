/- How often each bottle is come to on a walk: the reference's and the program's answer are one. -/
import Derived.Test.YtnppegmilcocoaaHWalk
import Derived.Test.YtnppegmilcocoaaWf
import Derived.Test.YtnppegmilcocoaaPaf30
import Derived.Test.YtnppegmilcocoaaPaf27
namespace Go.Proofs.Ytnppegmilcocoaa.Pure
open Go.RowKit Go.Proofs.Ytnppegmilcocoaa.Pa Go.Proofs.YtnppegmilcocoaaW.PrintWords Go.Proofs.YtnppegmilcocoaaW.PrintLast Go.Proofs.Ytnppegmilcocoaa.Com

/-- What both answer. -/
def visitsFrom (b S T : Int) : Nat → Int → List Int → List Int
  | 0, _, x => x
  | n + 1, j, x => visitsFrom b S T n (j + 1) (x.set ((S + j * T) % b).toNat (wrap64 (rd x ((S + j * T) % b) + 1)))
theorem visitsFrom_length (b S T : Int) : ∀ (n : Nat) (j : Int) (x : List Int), (visitsFrom b S T n j x).length = x.length
  | 0, _, _ => rfl
  | n + 1, j, x => by rw [visitsFrom, visitsFrom_length b S T n]; simp
def visitsOf (b S T C : Int) : List Int := visitsFrom b S T C.toNat 0 (List.replicate b.toNat 0)
theorem visits_loop (f0 f1 f2 f3 f4 f5 b S T C : Int) (hS : wrap64 f2 = S) (hT : wrap64 f3 = T) (hf4 : f4 = C) (hb : 1 ≤ b ∧ b ≤ 60) (hS2 : 0 ≤ S ∧ S ≤ b - 1) (hT2 : 0 ≤ T ∧ T ≤ 60) (hC2 : 1 ≤ C ∧ C ≤ 60) :
    ∀ (n : Nat) (k : Nat) (j : Int) (x : List Int), 0 ≤ j → j + n = C → n < k → (x.length : Int) = b →
      spec_l05Visits.l0 k b x ((S + j * T) % b) j f0 f1 f2 f3 f4 f5 = some (visitsFrom b S T n j x) ∧ impl_Walker_visits.l0 k b x C j f0 f1 f2 f3 f4 f5 = some (visitsFrom b S T n j x) := by
  intro n
  induction n with
  | zero =>
    intro k j x h0 hj hk hx
    obtain ⟨k, rfl⟩ : ∃ m, k = m + 1 := ⟨k - 1, by omega⟩
    simp only [spec_l05Visits.l0, impl_Walker_visits.l0]
    rw [if_neg (by omega), if_neg (by omega)]
    exact ⟨rfl, rfl⟩
  | succ n ih =>
    intro k j x h0 hj hk hx
    obtain ⟨k, rfl⟩ : ∃ m, k = m + 1 := ⟨k - 1, by omega⟩
    have hjT0 : 0 ≤ j * T := Int.mul_nonneg h0 hT2.1
    have hjT1 : j * T ≤ 60 * 60 := Int.mul_le_mul (by omega) hT2.2 hT2.1 (by omega)
    have hm0 := Int.emod_nonneg (S + j * T) (show b ≠ 0 by omega)
    have hm1 := Int.emod_lt_of_pos (S + j * T) (show 0 < b by omega)
    obtain ⟨h1, h2⟩ := ih k (j + 1) (x.set ((S + j * T) % b).toNat (wrap64 (rd x ((S + j * T) % b) + 1))) (by omega) (by omega) (by omega) (by simpa using hx)
    have hat : Int.tmod (wrap64 ((S + j * T) % b + T)) b = (S + (j + 1) * T) % b := by
      rw [w64 (by omega) (by omega), Int.tmod_eq_emod_of_nonneg (by omega), Int.emod_add_emod, Int.add_mul, Int.one_mul, Int.add_assoc]
    have hix : Int.tmod (wrap64 (S + wrap64 (j * T))) b = (S + j * T) % b := by
      rw [w64 (i := j * T) (by omega) (by omega), w64 (by omega) (by omega), Int.tmod_eq_emod_of_nonneg (by omega)]
    constructor
    · simp only [spec_l05Visits.l0]
      rw [hT, hat, wrap16 (by omega) (by omega), if_pos (by omega), if_pos hm0, if_pos (by omega), if_neg (by omega)]
      exact h1
    · simp only [impl_Walker_visits.l0]
      rw [hT, hS, hix, w64 (i := j + 1) (by omega) (by omega), if_pos (by omega), if_neg (by omega), if_pos hm0, if_pos (by omega)]
      exact h2
theorem visits_is (k : Nat) (f0 f1 f2 f3 f4 f5 b : Int) (hk : 100 < k) (hb : 1 ≤ b ∧ b ≤ 60) (hS : 0 ≤ wrap64 f2 ∧ wrap64 f2 ≤ b - 1) (hT : 0 ≤ wrap64 f3 ∧ wrap64 f3 ≤ 60) (hC : 1 ≤ wrap64 f4 ∧ wrap64 f4 ≤ 60) (hf4 : (Lit.int .i16 f4).wf = true) :
    spec_l05Visits.f k b f0 f1 f2 f3 f4 f5 = some (visitsOf b (wrap64 f2) (wrap64 f3) (wrap64 f4)) ∧ impl_Walker_visits.f k f0 f1 f2 f3 f4 f5 b = some (visitsOf b (wrap64 f2) (wrap64 f3) (wrap64 f4)) := by
  have e : wrap64 f4 = f4 := by
    have hf4 := wf_i16 hf4
    exact w64 (by omega) (by omega)
  have hbl : ((List.replicate b.toNat (0 : Int)).length : Int) = b := by simp; omega
  obtain ⟨h1, h2⟩ := visits_loop f0 f1 f2 f3 f4 f5 b _ _ _ rfl rfl e.symm hb hS hT hC (wrap64 f4).toNat k 0 (List.replicate b.toNat 0) (by omega) (by omega) (by omega) hbl
  rw [Int.zero_mul, Int.add_zero, Int.emod_eq_of_lt (by omega) (by omega)] at h1
  constructor
  · unfold spec_l05Visits.f visitsOf
    rw [if_pos (by omega), if_pos (by omega)]
    exact h1
  · unfold impl_Walker_visits.f visitsOf
    rw [if_pos (by omega), if_pos (by omega)]
    exact h2
theorem visitsOf_length (b S T C : Int) : (visitsOf b S T C).length = b.toNat := by
  unfold visitsOf
  rw [visitsFrom_length]; simp
end Go.Proofs.Ytnppegmilcocoaa.Pure
