/- For all walkers and days: the program's BusiestDay answers what the reference answers, and the walkers stay as they are. -/
import Derived.Test.YtleeponhjgmioaaHSpan
import Derived.Test.YtleeponhjgmioaaHWalkS
import Derived.Test.YtleeponhjgmioaaPaf14
namespace Go.Proofs.Ytleeponhjgmioaa.Pure
open Go.RowKit Go.Proofs.Ytleeponhjgmioaa.Pa Go.Proofs.YtleeponhjgmioaaW.PrintWords Go.Proofs.YtleeponhjgmioaaW.PrintLast Go.Proofs.Ytleeponhjgmioaa.Com

def comesB (x : S40) (d : Int) : Bool := decide (wrap64 x.f0 ≤ d) && decide ((d - wrap64 x.f0) % wrap64 x.f1 = 0)
theorem comes_is (f0 f1 f2 f3 f4 f5 d : Int) (hF : 0 ≤ wrap64 f0 ∧ wrap64 f0 ≤ 10000) (hE : 1 ≤ wrap64 f1 ∧ wrap64 f1 ≤ 100) (hd : 0 ≤ d) (hd2 : d ≤ 1000000) :
    spec_l05On.f f0 f1 f2 f3 f4 f5 d = some (comesB ⟨f0, f1, f2, f3, f4, f5⟩ d) ∧ impl_Walker_comes.f f0 f1 f2 f3 f4 f5 d = some (comesB ⟨f0, f1, f2, f3, f4, f5⟩ d) := by
  unfold spec_l05On.f impl_Walker_comes.f comesB
  rw [w64 (i := d - wrap64 f0) (by omega) (by omega)]
  by_cases h : d ≥ wrap64 f0
  · rw [if_pos (by omega), if_neg (by omega), if_pos h, Int.tmod_eq_emod_of_nonneg (by omega)]
    have : ((d - wrap64 f0) % wrap64 f1 == 0) = (decide (wrap64 f0 ≤ d) && decide ((d - wrap64 f0) % wrap64 f1 = 0)) := by
      rw [Bool.eq_iff_iff]; simp; omega
    rw [this]
    exact ⟨rfl, rfl⟩
  · rw [if_neg (by omega), if_neg h]
    have : (decide (wrap64 f0 ≤ d) && decide ((d - wrap64 f0) % wrap64 f1 = 0)) = false := by simp; omega
    rw [this]
    exact ⟨rfl, rfl⟩
def daySum (d : Int) : List S40 → Int
  | [] => 0
  | x :: l => (if comesB x d = true then wrap64 x.f4 else 0) + daySum d l
theorem daySum_range (d : Int) : ∀ l : List S40, (∀ x ∈ l, 1 ≤ wrap64 x.f4 ∧ wrap64 x.f4 ≤ 60) → 0 ≤ daySum d l ∧ daySum d l ≤ 60 * l.length
  | [], _ => by simp [daySum]
  | x :: l, h => by
    have h1 := h x (List.mem_cons_self ..)
    have h2 := daySum_range d l (fun y hy => h y (List.mem_cons_of_mem _ hy))
    rw [daySum, List.length_cons]
    split <;> omega
def busy (l : List S40) : Nat → Int → Int → Int → Int × Int
  | 0, _, b, m => (b, m)
  | n + 1, d, b, m => if daySum d l > m then busy l n (d + 1) d (daySum d l) else busy l n (d + 1) b m
theorem inner_loop (l : List S40) (hn : l.length ≤ 8) (hl : ∀ x ∈ l, (0 ≤ wrap64 x.f0 ∧ wrap64 x.f0 ≤ 10000) ∧ (1 ≤ wrap64 x.f1 ∧ wrap64 x.f1 ≤ 100) ∧ (1 ≤ wrap64 x.f4 ∧ wrap64 x.f4 ≤ 60)) (t b m d : Int) (hd : 0 ≤ d) (hd2 : d ≤ 10000) :
    ∀ (n k : Nat) (s i : Int), 0 ≤ i → i + n = l.length → n < k → 0 ≤ s → s ≤ 60 * i →
      spec_BusiestDay.l1 k l t b m d s i = (if s + daySum d (l.drop i.toNat) > m then spec_BusiestDay.l0 (k - n - 1) l t d (s + daySum d (l.drop i.toNat)) (d + 1) else spec_BusiestDay.l0 (k - n - 1) l t b m (d + 1)) ∧
      impl_BusiestDay.l1 k l t b m d s l l.length i = (if s + daySum d (l.drop i.toNat) > m then impl_BusiestDay.l0 (k - n - 1) l t d (s + daySum d (l.drop i.toNat)) (d + 1) else impl_BusiestDay.l0 (k - n - 1) l t b m (d + 1)) := by
  intro n
  induction n with
  | zero =>
    intro k s i h0 hi hk hs hs2
    obtain ⟨k, rfl⟩ : ∃ m, k = m + 1 := ⟨k - 1, by omega⟩
    have hdr : l.drop i.toNat = [] := List.drop_eq_nil_of_le (by omega)
    simp only [spec_BusiestDay.l1, impl_BusiestDay.l1]
    simp only [if_neg (show ¬ i < (l.length : Int) by omega)]
    rw [hdr, w64 (i := d + 1) (by omega) (by omega)]
    simp [daySum]
  | succ n ih =>
    intro k s i h0 hi hk hs hs2
    obtain ⟨k, rfl⟩ : ∃ m, k = m + 1 := ⟨k - 1, by omega⟩
    have hil : i.toNat < l.length := by omega
    have e : (i + 1).toNat = i.toNat + 1 := by omega
    have hr : rd_T40 l i = l[i.toNat] := by simp [rd_T40, List.getD_eq_getElem?_getD, List.getElem?_eq_getElem hil]
    have hx := hl _ (List.getElem_mem hil)
    obtain ⟨c1, c2⟩ := comes_is l[i.toNat].f0 l[i.toNat].f1 l[i.toNat].f2 l[i.toNat].f3 l[i.toNat].f4 l[i.toNat].f5 d hx.1 hx.2.1 hd (by omega)
    simp only [spec_BusiestDay.l1, impl_BusiestDay.l1]
    simp only [if_pos (show i < (l.length : Int) by omega), if_pos h0]
    rw [hr, c1, c2, List.drop_eq_getElem_cons hil, daySum, w64 (i := i + 1) (by omega) (by omega), w64 (i := s + wrap64 l[i.toNat].f4) (by omega) (by omega), show k + 1 - (n + 1) - 1 = k - n - 1 by omega]
    simp only [Option.bind_some]
    by_cases hc : comesB l[i.toNat] d = true
    · obtain ⟨i1, i2⟩ := ih k (s + wrap64 l[i.toNat].f4) (i + 1) (by omega) (by omega) (by omega) (by omega) (by omega)
      rw [e] at i1 i2
      have hc' : comesB ⟨l[i.toNat].f0, l[i.toNat].f1, l[i.toNat].f2, l[i.toNat].f3, l[i.toNat].f4, l[i.toNat].f5⟩ d = true := hc
      rw [if_pos hc', if_pos hc', if_pos hc, i1, i2, Int.add_assoc]
      exact ⟨rfl, rfl⟩
    · obtain ⟨i1, i2⟩ := ih k s (i + 1) (by omega) (by omega) (by omega) (by omega) (by omega)
      rw [e] at i1 i2
      have hc' : ¬ comesB ⟨l[i.toNat].f0, l[i.toNat].f1, l[i.toNat].f2, l[i.toNat].f3, l[i.toNat].f4, l[i.toNat].f5⟩ d = true := hc
      rw [if_neg hc', if_neg hc', if_neg hc, i1, i2, Int.zero_add]
      exact ⟨rfl, rfl⟩
theorem outer_loop (l : List S40) (hn : l.length ≤ 8) (hl : ∀ x ∈ l, (0 ≤ wrap64 x.f0 ∧ wrap64 x.f0 ≤ 10000) ∧ (1 ≤ wrap64 x.f1 ∧ wrap64 x.f1 ≤ 100) ∧ (1 ≤ wrap64 x.f4 ∧ wrap64 x.f4 ≤ 60)) (t : Int) (ht : t ≤ 10000) :
    ∀ (n k : Nat) (d b m : Int), 0 ≤ d → d + n = t + 1 → n * (l.length + 2) < k →
      spec_BusiestDay.l0 k l t b m d = some ((busy l n d b m).1, (busy l n d b m).2, 0) ∧ impl_BusiestDay.l0 k l t b m d = some ((busy l n d b m).1, (busy l n d b m).2, 0) := by
  intro n
  induction n with
  | zero =>
    intro k d b m h0 hd hk
    obtain ⟨k, rfl⟩ : ∃ m, k = m + 1 := ⟨k - 1, by omega⟩
    simp only [spec_BusiestDay.l0, impl_BusiestDay.l0]
    rw [if_neg (by omega), if_neg (by omega)]
    exact ⟨rfl, rfl⟩
  | succ n ih =>
    intro k d b m h0 hd hk
    rw [Nat.add_mul, Nat.one_mul] at hk
    obtain ⟨k, rfl⟩ : ∃ m, k = m + 1 := ⟨k - 1, by omega⟩
    obtain ⟨j1, j2⟩ := inner_loop l hn hl t b m d h0 (by omega) l.length k 0 0 (by omega) (by omega) (by omega) (by omega) (by omega)
    simp only [spec_BusiestDay.l0, impl_BusiestDay.l0]
    rw [if_pos (by omega), if_pos (by omega), j1, j2]
    simp only [Int.toNat_zero, List.drop_zero, Int.zero_add, busy]
    by_cases h : daySum d l > m
    · rw [if_pos h, if_pos h, if_pos h]
      exact ih _ _ _ _ (by omega) (by omega) (by omega)
    · rw [if_neg h, if_neg h, if_neg h]
      exact ih _ _ _ _ (by omega) (by omega) (by omega)
theorem FnExactBusiestDay : laws_FnExactBusiestDay.Pure := by
  intro b l f t _ hl _ _ _
  refine ⟨1048579, ?_⟩
  unfold laws_FnExactBusiestDay.f
  rw [szWalkerS_is l hl]
  simp only [Option.bind_some]
  by_cases ha : (l.length : Int) > 1048576
  · rw [if_pos ha, if_pos (by omega)]
  rw [if_neg ha, if_neg (by omega)]
  have hR : ∃ R : Int × Int × Int, spec_BusiestDay.f 1048579 b (l.map conv) f t = some R ∧ impl_BusiestDay.f 1048579 b (l.map conv) f t = some R := by
    unfold spec_BusiestDay.f impl_BusiestDay.f
    rw [from_is, implWalkers_is]
    simp only [Option.bind_some]
    rw [asked_is 1048579 b _ _ (by omega), spanCode_is 1048579 (by omega)]
    simp only [Option.bind_some]
    rw [span_is]
    simp only [Option.bind_some]
    by_cases hc : spanIs (codeIs (walkersOk b (l.map conv)) (fromTo f t)) f t = 0
    · rw [if_pos hc, if_pos hc]
      obtain ⟨hv, h1, h2, h3, h4⟩ := spanIs_zero hc
      have hb := walkersOk_b hv
      have hlen : (l.map conv).length + 2 ≤ 10 := by omega
      have hmul : (t - f + 1).toNat * ((l.map conv).length + 2) ≤ 400 * 10 := Nat.mul_le_mul (by omega) hlen
      obtain ⟨o1, o2⟩ := outer_loop (l.map conv) hb.2.2 (fun x hx => ⟨(walkersOk_of hv hx).1, (walkersOk_of hv hx).2.1, (walkersOk_of hv hx).2.2.2.2.1⟩) t h3 (t - f + 1).toNat 1048579 f f (-1) h1 (by omega) (by omega)
      exact ⟨_, o1, o2⟩
    · rw [if_neg hc, if_neg hc]
      exact ⟨_, rfl, rfl⟩
  obtain ⟨R, h1, h2⟩ := hR
  simp only [toWalkerS_is 1048579 l (by omega) (by omega), h1, h2, Option.bind_some, if_true, bne_self_eq_false]
  simp only [laws_FnExactBusiestDay.j0, Bool.false_eq_true, if_false, toWalkerS_is 1048578 l (by omega) (by omega), eqWalkerS_refl 1048578 (l.map conv) (by simp; omega) (by omega), Option.bind_some, if_true]
end Go.Proofs.Ytleeponhjgmioaa.Pure
