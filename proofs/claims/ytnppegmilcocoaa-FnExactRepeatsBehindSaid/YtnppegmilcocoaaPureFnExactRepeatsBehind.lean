/- For all bottles and walkers: the program's RepeatsBehind answers what the reference answers, and the walkers stay as they are. -/
import Derived.Test.YtnppegmilcocoaaHTurn
import Derived.Test.YtnppegmilcocoaaHEvery
import Derived.Test.YtnppegmilcocoaaHWalkS
import Derived.Test.YtnppegmilcocoaaPaf4
namespace Go.Proofs.Ytnppegmilcocoaa.Pure
open Go.RowKit Go.Proofs.Ytnppegmilcocoaa.Pa Go.Proofs.YtnppegmilcocoaaW.PrintWords Go.Proofs.YtnppegmilcocoaaW.PrintLast Go.Proofs.Ytnppegmilcocoaa.Com

theorem everyFrom_some : ∀ (l : List S51) (o r : Nat), 0 < o → o ≤ 1000000 → (∀ x ∈ l, 0 < everyOf x) → everyFrom o l = some r → o ∣ r ∧ (∀ x ∈ l, everyOf x ∣ r) ∧ 0 < r ∧ r ≤ 1000000
  | [], o, r, ho, ho2, _, h => by
    rw [everyFrom, Option.some.injEq] at h
    subst h
    exact ⟨Nat.dvd_refl _, fun x hx => absurd hx (by simp), ho, ho2⟩
  | x :: l, o, r, ho, _, hl, h => by
    rw [everyFrom] at h
    by_cases hc : Nat.lcm o (everyOf x) > 1000000
    · rw [if_pos hc] at h
      cases h
    · rw [if_neg hc] at h
      obtain ⟨h1, h2, h3⟩ := everyFrom_some l _ r (Nat.lcm_pos ho (hl x (List.mem_cons_self ..))) (by omega) (fun y hy => hl y (List.mem_cons_of_mem _ hy)) h
      refine ⟨Nat.dvd_trans (Nat.dvd_lcm_left _ _) h1, fun y hy => ?_, h3⟩
      rcases List.mem_cons.1 hy with rfl | hy
      · exact Nat.dvd_trans (Nat.dvd_lcm_right _ _) h1
      · exact h2 y hy
/-- How often a walker comes till all begin anew. -/
def timesOf (a : Nat) (x : S51) : Int := ((a / everyOf x : Nat) : Int)
def roundAt (n a : Nat) (l : List S51) (j : Nat) : Int := turnSum n (timesOf a) j l % 8
def atTimes (n a : Nat) (l : List S51) (t : Int) : List Int := rowBy n (fun j => (t * roundAt n a l j) % 8)
def plain (n : Nat) : List Int := rowBy n (fun _ => 0)
theorem turnSum_mul {b : Int} {f : S51 → Int} {j : Nat} (t : Int) : ∀ {l : List S51}, turnSum b (fun x => t * f x) j l = t * turnSum b f j l
  | [] => by rw [turnSum, turnSum, Int.mul_zero]
  | x :: l => by
    rw [turnSum, turnSum, turnSum_mul t (l := l), Int.mul_add, Int.mul_assoc t, Int.mul_assoc t]
theorem turnSum_congr' {b : Int} {f g : S51 → Int} {j : Nat} : ∀ {l : List S51}, (∀ x ∈ l, f x = g x) → turnSum b f j l = turnSum b g j l
  | [], _ => rfl
  | x :: l, h => by
    rw [turnSum, turnSum, h x (List.mem_cons_self ..), turnSum_congr' (l := l) (fun y hy => h y (List.mem_cons_of_mem _ hy))]
theorem round_loop (n a : Nat) (hn : 1 ≤ n ∧ n ≤ 60) (ha : a ≤ 1000000) (l : List S51) (hl : l.length ≤ 8) (hw : ∀ x ∈ l, wOk n x) :
    ∀ (d k : Nat) (i : Int) (F : Nat → Int), 0 ≤ i → i + d = l.length → d + 300 < k → (∀ j, 0 ≤ F j ∧ F j < 8) →
      spec_RepeatsBehind.l0 k l a (rowBy n F) i = spec_RepeatsBehind.l1 (k - d - 1) a (rowBy n (fun j => (F j + turnSum n (timesOf a) j (l.drop i.toNat)) % 8)) 1 (rowBy n (fun j => (F j + turnSum n (timesOf a) j (l.drop i.toNat)) % 8)) := by
  intro d
  induction d with
  | zero =>
    intro k i F h0 hd hk hF
    obtain ⟨k, rfl⟩ : ∃ m, k = m + 1 := ⟨k - 1, by omega⟩
    have e : rowBy n F = rowBy n (fun j => (F j + turnSum n (timesOf a) j (l.drop i.toNat)) % 8) := by
      rw [List.drop_eq_nil_of_le (by omega)]
      exact rowBy_congr fun j _ => by
        have := hF j
        rw [turnSum, Int.add_zero, Int.emod_eq_of_lt this.1 this.2]
    simp only [spec_RepeatsBehind.l0, Option.bind_some, List.nil_append, List.length_nil, rowBy_length]
    rw [if_neg (by omega), if_pos (by omega), ← e]
    rfl
  | succ d ih =>
    intro k i F h0 hd hk hF
    obtain ⟨k, rfl⟩ : ∃ m, k = m + 1 := ⟨k - 1, by omega⟩
    have hil : i.toNat < l.length := by omega
    have e : (i + 1).toNat = i.toNat + 1 := by omega
    have hr : rd_T51 l i = l[i.toNat] := by simp [rd_T51, List.getD_eq_getElem?_getD, List.getElem?_eq_getElem hil]
    have hm := List.getElem_mem hil
    have hx := (hw _ hm).1.2.1
    have hE : wrap64 l[i.toNat].f1 = ((everyOf l[i.toNat] : Nat) : Int) := by unfold everyOf; omega
    have ht : wrap64 (Int.tdiv (a : Int) (wrap64 l[i.toNat].f1)) = timesOf a l[i.toNat] := by
      have hle := Nat.div_le_self a (everyOf l[i.toNat])
      rw [hE, Int.tdiv_eq_ediv_of_nonneg (by omega), ← Int.natCast_ediv, timesOf]
      generalize a / everyOf l[i.toNat] = q at hle ⊢
      exact w64 (by omega) (by omega)
    simp only [spec_RepeatsBehind.l0]
    rw [if_pos (by omega), if_pos h0, hr, if_neg (by omega), ht, turned_is k n F l[i.toNat] _ (by omega) hn (hw _ hm)]
    simp only [Option.bind_some]
    rw [w64 (i := i + 1) (by omega) (by omega), ih k (i + 1) _ (by omega) (by omega) (by omega) (fun j => ⟨Int.emod_nonneg _ (by omega), Int.emod_lt_of_pos _ (by omega)⟩), List.drop_eq_getElem_cons hil, e, show k + 1 - (d + 1) - 1 = k - d - 1 by omega]
    have e2 : (rowBy n fun j => ((F j + timesOf a l[i.toNat] * visAt n l[i.toNat] j * wrap64 l[i.toNat].f5) % 8 + turnSum n (timesOf a) j (List.drop (i.toNat + 1) l)) % 8) = rowBy n (fun j => (F j + turnSum n (timesOf a) j (l[i.toNat] :: List.drop (i.toNat + 1) l)) % 8) :=
      rowBy_congr fun j _ => by rw [turnSum, Int.emod_add_emod, Int.add_assoc]
    rw [e2]
theorem upright_is (k n : Nat) (hn : n ≤ 60) (hk : 100 < k) (F : Nat → Int) : spec_l05Upright.f k (rowBy n F) = some (decide (rowBy n F = plain n)) := by
  unfold spec_l05Upright.f
  have hl : (rowBy n F).length = (plain n).length := by unfold plain; rw [rowBy_length, rowBy_length]
  rw [eq_loop (L := fun k i => spec_l05Upright.l0 k (rowBy n F) i) (a := rowBy n F) (b := plain n) hl (by rw [rowBy_length]; omega) (fun k i => ?_) k 0 (by omega) (by omega) (by rw [rowBy_length]; omega)]
  · simp
  · simp only [spec_l05Upright.l0, ← hl]
    by_cases h1 : i < ((rowBy n F).length : Int)
    · by_cases h0 : 0 ≤ i
      · have h2 := h1
        rw [rowBy_length] at h2
        rw [if_pos h1, if_pos h1, if_pos h0, if_pos h0, if_pos h1, plain, rowBy_rd h0 h2, rowBy_rd h0 h2]
      · rw [if_pos h1, if_pos h1, if_neg h0, if_neg h0]
    · rw [if_neg h1, if_neg h1]
theorem equal_is (k : Nat) (x y : List Int) (hx : x.length ≤ 60) (hxy : x.length = y.length) (hk : 100 < k) : slices_Equal_impl_Row_uint8.f k x y = some (decide (x = y)) := by
  unfold slices_Equal_impl_Row_uint8.f
  rw [if_pos (by omega), eq_loop (L := fun k i => slices_Equal_impl_Row_uint8.l0 k x y x.length i) (a := x) (b := y) hxy (by omega) (fun k i => ?_) k 0 (by omega) (by omega) (by omega)]
  · simp
  · simp only [slices_Equal_impl_Row_uint8.l0]
    by_cases h1 : i < (x.length : Int)
    · by_cases h0 : 0 ≤ i
      · simp only [if_pos h1, if_pos h0]
      · simp only [if_pos h1, if_neg h0]
    · simp only [if_neg h1]
/-- The first time that all stand upright, from t on. -/
def upFrom (n a : Nat) (l : List S51) : Nat → Int → Int
  | 0, t => t
  | d + 1, t => if atTimes n a l t = plain n then t else upFrom n a l d (t + 1)
theorem at_eight (n a : Nat) (l : List S51) : atTimes n a l 8 = plain n :=
  rowBy_congr fun j _ => by rw [Int.mul_emod_right]
theorem add8 {y r : Int} (h0 : 0 ≤ y ∧ y < 8) (h1 : 0 ≤ r ∧ r < 8) : Int.tmod ((y + r) % 256) 8 = (y + r) % 8 := by
  rw [Int.emod_eq_of_lt (by omega) (by omega), Int.tmod_eq_emod_of_nonneg (by omega)]
theorem adds_loop (n a : Nat) (hn : 1 ≤ n ∧ n ≤ 60) (l : List S51) (k : Nat) (hk : 100 < k) (t : Int) (ht : 1 ≤ t ∧ t ≤ 8) :
    spec_RepeatsBehind.l2 k a (rowBy n (roundAt n a l)) t (atTimes n a l t) 0 = spec_RepeatsBehind.l1 (k - n - 1) a (rowBy n (roundAt n a l)) (t + 1) (atTimes n a l (t + 1)) := by
  have hR : ∀ j, 0 ≤ roundAt n a l j ∧ roundAt n a l j < 8 := fun j => ⟨Int.emod_nonneg _ (by omega), Int.emod_lt_of_pos _ (by omega)⟩
  unfold atTimes
  rw [set_loop0 (n := n) (L := fun k r i => spec_RepeatsBehind.l2 k a (rowBy n (roundAt n a l)) t r i) (E := fun k r => spec_RepeatsBehind.l1 k a (rowBy n (roundAt n a l)) (t + 1) r) (g := fun j y => Int.tmod ((y + roundAt n a l j) % 256) 8) (by omega) (fun k F => ?_) (fun k F i h0 h1 => ?_) k _ (by omega)]
  · congr 1
    refine rowBy_congr fun j _ => ?_
    rw [add8 ⟨Int.emod_nonneg _ (by omega), Int.emod_lt_of_pos _ (by omega)⟩ (hR j), Int.emod_add_emod, Int.add_mul, Int.one_mul]
  · simp only [spec_RepeatsBehind.l2, rowBy_length]
    rw [if_neg (by omega), w64 (by omega) (by omega)]
  · simp only [spec_RepeatsBehind.l2, rowBy_length]
    rw [if_pos h1, if_pos h0, if_pos h1, rowBy_rd h0 h1, rowBy_rd h0 h1]
theorem spec_up (n a : Nat) (hn : 1 ≤ n ∧ n ≤ 60) (l : List S51) : ∀ (d k : Nat) (t : Int), 1 ≤ t → t + d = 8 → d * 70 + 300 < k →
    spec_RepeatsBehind.l1 k a (rowBy n (roundAt n a l)) t (atTimes n a l t) = some (wrap64 (upFrom n a l d t * a), 0) := by
  intro d
  induction d with
  | zero =>
    intro k t h0 hd hk
    obtain ⟨k, rfl⟩ : ∃ m, k = m + 1 := ⟨k - 1, by omega⟩
    have : t = 8 := by omega
    subst this
    simp only [spec_RepeatsBehind.l1]
    rw [at_eight, show spec_l05Upright.f k (plain n) = some (decide (plain n = plain n)) from upright_is k n (by omega) (by omega) _, decide_eq_true rfl, Option.bind_some, if_pos rfl, upFrom]
  | succ d ih =>
    intro k t h0 hd hk
    obtain ⟨k, rfl⟩ : ∃ m, k = m + 1 := ⟨k - 1, by omega⟩
    simp only [spec_RepeatsBehind.l1]
    rw [show spec_l05Upright.f k (atTimes n a l t) = some (decide (atTimes n a l t = plain n)) from upright_is k n (by omega) (by omega) _, Option.bind_some, upFrom]
    by_cases hc : atTimes n a l t = plain n
    · rw [decide_eq_true hc, if_pos rfl, if_pos hc]
    · rw [decide_eq_false hc, if_neg (by simp), if_neg hc, adds_loop n a hn l k (by omega) t (by omega), ih _ (t + 1) (by omega) (by omega) (by omega)]
theorem walkedAt (n a : Nat) (hn : 1 ≤ n ∧ n ≤ 60) (ha : 0 < a ∧ a ≤ 1000000) (l : List S51) (hl : l.length ≤ 8) (hw : ∀ x ∈ l, wOk n x) (hd : ∀ x ∈ l, everyOf x ∣ a) (k : Nat) (hk : 1000 < k) (t : Int) (ht : 1 ≤ t ∧ t ≤ 8) :
    impl_walked.f k (plain n) l (fun (y : S51) => impl_RepeatsBehind_1.f t a y.f0 y.f1 y.f2 y.f3 y.f4 y.f5) = some (atTimes n a l t) := by
  have hpl : (plain n).length = n := rowBy_length _ _
  rw [walked_is k (plain n) (by omega) _ (fun x => t * timesOf a x) l hl (by rw [hpl]; exact hw) (fun x hx => ?_) hk]
  · rw [hpl]
    congr 1
    unfold atTimes
    refine rowBy_congr fun j hj => ?_
    rw [plain, rowBy_rd (by omega) (by omega), Int.zero_add, turnSum_mul, roundAt, Int.mul_emod, Int.mul_emod t (_ % 8), Int.emod_emod_of_dvd _ (Int.dvd_refl 8)]
  · have h1 := (hw x hx).1.2.1
    have hE : wrap64 x.f1 = ((everyOf x : Nat) : Int) := by unfold everyOf; omega
    obtain ⟨q, rfl⟩ := hd x hx
    have hp : 0 < everyOf x := by omega
    have hq : q ≤ everyOf x * q := Nat.le_mul_of_pos_left _ hp
    unfold impl_RepeatsBehind_1.f timesOf
    rw [if_neg (by omega), hE, Nat.mul_div_cancel_left _ hp]
    have e : t * ((everyOf x * q : Nat) : Int) = ((everyOf x : Nat) : Int) * (t * (q : Int)) := by
      rw [Int.natCast_mul, Int.mul_left_comm]
    have hb : 0 ≤ t * ((everyOf x * q : Nat) : Int) := Int.mul_nonneg (by omega) (by omega)
    have hb2 : t * ((everyOf x * q : Nat) : Int) ≤ 8 * 1000000 := Int.mul_le_mul (by omega) (by omega) (by omega) (by omega)
    have hc : 0 ≤ t * (q : Int) := Int.mul_nonneg (by omega) (by omega)
    have hc2 : t * (q : Int) ≤ 8 * 1000000 := Int.mul_le_mul (by omega) (by omega) (by omega) (by omega)
    rw [w64 (i := t * ((everyOf x * q : Nat) : Int)) (by omega) (by omega), Int.tdiv_eq_ediv_of_nonneg hb, e, Int.mul_ediv_cancel_left _ (by omega), w64 (by omega) (by omega)]
theorem impl_up (n a : Nat) (hn : 1 ≤ n ∧ n ≤ 60) (ha : 0 < a ∧ a ≤ 1000000) (l : List S51) (hl : l.length ≤ 8) (hw : ∀ x ∈ l, wOk n x) (hv : ∀ x ∈ l, everyOf x ∣ a) : ∀ (d k : Nat) (t : Int), 1 ≤ t → t + d = 8 → d + 1100 < k →
    impl_RepeatsBehind.l0 k l (plain n) a t = some (wrap64 (upFrom n a l d t * a), 0) := by
  have hpl : (plain n).length = n := rowBy_length _ _
  have hal : ∀ t, (plain n).length = (atTimes n a l t).length := fun t => by rw [hpl, atTimes, rowBy_length]
  intro d
  induction d with
  | zero =>
    intro k t h0 hd hk
    obtain ⟨k, rfl⟩ : ∃ m, k = m + 1 := ⟨k - 1, by omega⟩
    have : t = 8 := by omega
    subst this
    simp only [impl_RepeatsBehind.l0]
    rw [walkedAt n a hn ha l hl hw hv k (by omega) 8 (by omega), Option.bind_some, equal_is k _ _ (by omega) (hal 8) (by omega), at_eight, decide_eq_true rfl, Option.bind_some, if_pos rfl, upFrom]
  | succ d ih =>
    intro k t h0 hd hk
    obtain ⟨k, rfl⟩ : ∃ m, k = m + 1 := ⟨k - 1, by omega⟩
    simp only [impl_RepeatsBehind.l0]
    rw [walkedAt n a hn ha l hl hw hv k (by omega) t (by omega), Option.bind_some, equal_is k _ _ (by omega) (hal t) (by omega), Option.bind_some, upFrom]
    by_cases hc : atTimes n a l t = plain n
    · rw [decide_eq_true hc.symm, if_pos rfl, if_pos hc]
    · rw [decide_eq_false (fun h => hc h.symm), if_neg (by simp), if_neg hc, w64 (i := t + 1) (by omega) (by omega), ih k (t + 1) (by omega) (by omega) (by omega)]
theorem repeats_is (b : Int) (ws : List S51) (hw : ∀ x ∈ ws, (Lit.int .i16 x.f4).wf = true) :
    ∃ R : Int × Int, (∀ k, 3000 < k → spec_RepeatsBehind.f k b ws = some R) ∧ (∀ k, 3000 < k → impl_RepeatsBehind.f k b ws = some R) := by
  by_cases hc : (allEvery b ws).2 = 0
  · unfold allEvery at hc
    by_cases hv : walkersOk b ws = true
    · rw [if_pos hv] at hc
      have hb := walkersOk_b hv
      obtain ⟨n, rfl⟩ : ∃ n : Nat, b = n := ⟨b.toNat, by omega⟩
      have hws : ∀ x ∈ ws, wOk n x := fun x hx => ⟨walkersOk_of hv hx, hw x hx⟩
      cases he : everyFrom 1 ws with
      | none => rw [he] at hc; simp at hc
      | some a =>
        obtain ⟨_, h2, h3, h4⟩ := everyFrom_some ws 1 a (by omega) (by omega) (fun x hx => by
          have := (hws x hx).1.2.1
          unfold everyOf
          omega) he
        have hA : allEvery n ws = ((a : Int), 0) := by
          unfold allEvery
          rw [if_pos hv, he]
        refine ⟨(wrap64 (upFrom n a ws 7 1 * a), 0), fun k hk => ?_, fun k hk => ?_⟩
        · unfold spec_RepeatsBehind.f
          rw [(allEvery_is k n ws (by omega)).1, hA, Option.bind_some]
          simp only
          rw [if_pos trivial, if_pos (by omega), if_pos (by omega), Int.toNat_natCast, rowBy_zero, round_loop n a (by omega) h4 ws hb.2.2 hws ws.length k 0 (fun _ => 0) (by omega) (by omega) (by omega) (fun j => by omega)]
          have e : (rowBy n fun j => (0 + turnSum n (timesOf a) j (List.drop (0 : Int).toNat ws)) % 8) = rowBy n (roundAt n a ws) := rowBy_congr fun j _ => by
            rw [Int.zero_add, roundAt]
            rfl
          have e2 : rowBy n (roundAt n a ws) = atTimes n a ws 1 := rowBy_congr fun j _ => by
            rw [Int.one_mul, roundAt, Int.emod_emod_of_dvd _ (Int.dvd_refl 8)]
          rw [e]
          have := spec_up n a (by omega) ws 7 (k - ws.length - 1) 1 (by omega) (by omega) (by omega)
          rw [← e2] at this
          exact this
        · unfold impl_RepeatsBehind.f
          rw [(allEvery_is k n ws (by omega)).2, hA, Option.bind_some]
          simp only
          rw [if_pos trivial, if_pos (by omega), if_pos (by omega), Int.toNat_natCast, rowBy_zero]
          exact impl_up n a (by omega) ⟨h3, h4⟩ ws hb.2.2 hws h2 7 k 1 (by omega) (by omega) (by omega)
    · rw [if_neg hv] at hc
      simp at hc
  · refine ⟨(0, (allEvery b ws).2), fun k hk => ?_, fun k hk => ?_⟩
    · unfold spec_RepeatsBehind.f
      rw [(allEvery_is k b ws (by omega)).1, Option.bind_some, if_neg hc]
    · unfold impl_RepeatsBehind.f
      rw [(allEvery_is k b ws (by omega)).2, Option.bind_some, if_neg hc]
theorem FnExactRepeatsBehind : laws_FnExactRepeatsBehind.Pure := by
  intro b l _ hl hgl
  refine ⟨3000003, ?_⟩
  unfold laws_FnExactRepeatsBehind.f
  rw [szWalkerS_is l hl, Option.bind_some]
  by_cases hb : (l.length : Int) > 1048576
  · rw [if_pos hb, if_pos (by omega)]
  rw [if_neg hb, if_neg (by omega)]
  have hnl : l.length ≤ 1048576 := by omega
  have hnm : (l.map conv).length ≤ 1048576 := by simpa using hnl
  have hwf : ∀ x ∈ l.map conv, (Lit.int .i16 x.f4).wf = true := by
    intro x hx
    obtain ⟨y, hy, rfl⟩ := List.mem_map.1 hx
    exact (hgl y hy).2.2.2.2.1
  obtain ⟨R, hs, hi⟩ := repeats_is b (l.map conv) hwf
  simp only [toWalkerS_is 3000003 l hnl (by omega), hs 3000003 (by omega), hi 3000003 (by omega), Option.bind_some, if_true, bne_self_eq_false]
  simp only [laws_FnExactRepeatsBehind.j0, Bool.false_eq_true, if_false, toWalkerS_is 3000002 l hnl (by omega), Option.bind_some, eqWalkerS_refl 3000002 (l.map conv) hnm (by omega), if_true]
end Go.Proofs.Ytnppegmilcocoaa.Pure
