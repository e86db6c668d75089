/- A day's walks, as the reference turns a row by them. -/
import Derived.Test.YtnppegmilcocoaaHUntil
import Derived.Test.YtnppegmilcocoaaPaf30
import Derived.Test.YtnppegmilcocoaaPaf32
namespace Go.Proofs.Ytnppegmilcocoaa.Pure
open Go.RowKit Go.Proofs.Ytnppegmilcocoaa.Pa Go.Proofs.YtnppegmilcocoaaW.PrintWords Go.Proofs.YtnppegmilcocoaaW.PrintLast Go.Proofs.Ytnppegmilcocoaa.Com

def onOf (d : Int) (x : S51) : Int := if comesB x d = true then 1 else 0
theorem on_is (b d : Int) (x : S51) (hx : wOk b x) (hd : 0 ≤ d ∧ d ≤ 10000) : spec_l05On.f x.f0 x.f1 x.f2 x.f3 x.f4 x.f5 d = some (comesB x d) := by
  obtain ⟨⟨h0, h1, _⟩, _⟩ := hx
  unfold spec_l05On.f comesB
  rw [w64 (i := d - wrap64 x.f0) (by omega) (by omega)]
  by_cases h : wrap64 x.f0 ≤ d
  · rw [if_pos (by omega), if_neg (by omega), Int.tmod_eq_emod_of_nonneg (by omega)]
    congr 1
    rw [Bool.eq_iff_iff]; simp; omega
  · rw [if_neg (by omega)]
    congr 1
    symm
    simp; omega
theorem between_is (b f t : Int) (x : S51) (hx : wOk b x) (hf : 0 ≤ f ∧ f ≤ 10000) (ht : 0 ≤ t ∧ t ≤ 10000) :
    impl_Walker_between.f x.f0 x.f1 x.f2 x.f3 x.f4 x.f5 f t = some (untilOf t x - untilOf (f - 1) x) := by
  unfold impl_Walker_between.f
  rw [untilI_is b t x hx (by omega), w64 (i := f - 1) (by omega) (by omega), untilI_is b (f - 1) x hx (by omega)]
  have h1 := (untilOf_eq hx (show 0 ≤ t + 1 ∧ t ≤ 10000 by omega)).2
  have h2 := (untilOf_eq hx (show 0 ≤ (f - 1) + 1 ∧ f - 1 ≤ 10000 by omega)).2
  simp only [Option.bind_some]
  rw [w64 (by omega) (by omega)]
theorem behind_loop (n : Nat) (hn : 1 ≤ n ∧ n ≤ 60) (t : Int) (ht : 0 ≤ t ∧ t ≤ 10000) (l : List S51) (hl : l.length ≤ 8) (hw : ∀ x ∈ l, wOk n x) :
    ∀ (d k : Nat) (i : Int) (F : Nat → Int), 0 ≤ i → i + d = l.length → d + 300 < k → (∀ j, 0 ≤ F j ∧ F j < 8) →
      spec_l05Behind.l0 k l t (rowBy n F) i = some (rowBy n (fun j => (F j + turnSum n (onOf t) j (l.drop i.toNat)) % 8)) := by
  intro d
  induction d with
  | zero =>
    intro k i F h0 hd hk hF
    obtain ⟨k, rfl⟩ : ∃ m, k = m + 1 := ⟨k - 1, by omega⟩
    simp only [spec_l05Behind.l0]
    rw [if_neg (by omega), List.drop_eq_nil_of_le (by omega)]
    congr 1
    exact rowBy_congr fun j _ => by
      have := hF j
      rw [turnSum, Int.add_zero, Int.emod_eq_of_lt this.1 this.2]
  | succ d ih =>
    intro k i F h0 hd hk hF
    obtain ⟨k, rfl⟩ : ∃ m, k = m + 1 := ⟨k - 1, by omega⟩
    have hil : i.toNat < l.length := by omega
    have e : (i + 1).toNat = i.toNat + 1 := by omega
    have hr : rd_T51 l i = l[i.toNat] := by simp [rd_T51, List.getD_eq_getElem?_getD, List.getElem?_eq_getElem hil]
    have hm := List.getElem_mem hil
    simp only [spec_l05Behind.l0]
    rw [if_pos (by omega), if_pos h0, hr, on_is n t l[i.toNat] (hw _ hm) ht]
    simp only [Option.bind_some]
    rw [w64 (i := i + 1) (by omega) (by omega)]
    by_cases hc : comesB l[i.toNat] t = true
    · rw [if_pos hc, turned_is k n F l[i.toNat] _ (by omega) hn (hw _ hm)]
      simp only [Option.bind_some]
      rw [ih k (i + 1) _ (by omega) (by omega) (by omega) (fun j => ⟨Int.emod_nonneg _ (by omega), Int.emod_lt_of_pos _ (by omega)⟩), List.drop_eq_getElem_cons hil, e]
      congr 1
      refine rowBy_congr fun j _ => ?_
      rw [turnSum, Int.emod_add_emod, Int.add_assoc, onOf, if_pos hc]
    · rw [if_neg hc, ih k (i + 1) F (by omega) (by omega) (by omega) hF, List.drop_eq_getElem_cons hil, e]
      congr 1
      refine rowBy_congr fun j _ => ?_
      rw [turnSum, onOf, if_neg hc, Int.zero_mul, Int.zero_mul, Int.zero_add]
theorem behind_is (k n : Nat) (hn : 1 ≤ n ∧ n ≤ 60) (t : Int) (ht : 0 ≤ t ∧ t ≤ 10000) (l : List S51) (hl : l.length ≤ 8) (hw : ∀ x ∈ l, wOk n x) (F : Nat → Int) (hk : 400 < k) (hF : ∀ j, 0 ≤ F j ∧ F j < 8) :
    spec_l05Behind.f k (rowBy n F) l t = some (rowBy n (fun j => (F j + turnSum n (onOf t) j l) % 8)) := by
  unfold spec_l05Behind.f
  simp only [Option.bind_some, List.nil_append, List.length_nil, rowBy_length]
  rw [if_pos (by omega), behind_loop n hn t ht l hl hw l.length k 0 F (by omega) (by omega) (by omega) hF]
  rfl
end Go.Proofs.Ytnppegmilcocoaa.Pure
