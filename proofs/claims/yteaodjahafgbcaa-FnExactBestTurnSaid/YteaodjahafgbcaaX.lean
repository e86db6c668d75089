/- Plain proofs: what the functions answer, in plain lists and numbers. -/
import Derived.Test.YteaodjahafgbcaaRd0
import Derived.Test.YteaodjahafgbcaaRd1
import Derived.Test.YteaodjahafgbcaaRd2
import Derived.Test.YteaodjahafgbcaaRd3
import Derived.Test.YteaodjahafgbcaaRd4
import Derived.Test.YteaodjahafgbcaaShelf
namespace Go.Proofs.Yteaodjahafgbcaa.G
open Go
set_option linter.unusedVariables false
set_option linter.unusedSimpArgs false
set_option maxRecDepth 10000
abbrev DB := Int × Int
abbrev DS := DB × Int
abbrev dS : DS := ((0, 0), 0)
theorem s_toBottle : Fz38.S (tot fun x => x) := Fz38.of_tot fun x k => rfl
theorem s_toStored : Fz41.S (tot fun x => x) := Fz41.of_tot s_toBottle fun x k => rfl
theorem copied {β : Type} {l o : List β} {k : Nat} {d : β} (h : k < l.length) (ho : o.length = l.length) (hp : o.take k = l.take k) : (o.set k l[k]).take (k + 1) = l.take (k + 1) ∧ (o.set k l[k]).length = l.length := by
  refine ⟨?_, by simpa using ho⟩
  rw [List.take_succ_eq_append_getElem (by simpa [ho] using h), List.take_succ_eq_append_getElem h, List.take_set_of_le (Nat.le_refl k), hp]
  simp
theorem toStoredS_pf {α : Type} (l : List DS) (h : l.length ≤ 1073741824) (k : List DS → Option α) : Fz42.pf (tot fun x => x) BIG l k = k l := by
  unfold Fz42.pf
  rw [inW_true (by omega) (by omega) (by unfold LIM; omega)]
  simp only [cond_true]
  refine (iter_list (B := Fz42.B1 (tot fun x => x) l fun x1 => k x1.2) l (fun i (c : List DS) => ((i : Int), c)) (fun _ _ => k l) (fun i c => c.length = l.length ∧ c.take i = l.take i) (c := List.replicate l.length dS) (by simp) (big_lt (by omega)) (by simp) ?_ ?_)
  · rintro i hi c rec ⟨h1, h2⟩ hrec
    unfold Fz42.B1
    simp only [decT (show (i : Int) < (l.length : Int) by omega), inB_nat hi, inB_nat (h1 ▸ hi : i < c.length), cond_true, Int.toNat_natCast, getD_lt hi, tot_eq, Option.bind_some, w64n (show i < 9223372036854775807 by omega)]
    have := copied (d := dS) hi h1 h2
    exact hrec _ ⟨this.2, this.1⟩
  · rintro c rec ⟨h1, h2⟩
    unfold Fz42.B1
    rw [decF (by omega)]
    rw [List.take_of_length_le (by omega), List.take_of_length_le (Nat.le_refl _)] at h2
    simp only [cond_false, h2]
theorem s_toStoredS : Fz42.S (cl PL fun l => l) := Fz42.of_cl s_toStored fun x h => toStoredS_pf x h
theorem toRack_pf {α : Type} (l : List (List DS)) (h : Bd l) (k : List (List DS) → Option α) : Fz40.pf (cl PL fun l => l) BIG l k = k l := by
  have hl := h.len
  unfold Fz40.pf
  rw [inW_true (by omega) (by omega) (by unfold LIM; omega)]
  simp only [cond_true]
  refine (iter_list (B := Fz40.B1 (cl PL fun l => l) l fun x1 => k x1.2) l (fun i (c : List (List DS)) => ((i : Int), c)) (fun _ _ => k l) (fun i c => c.length = l.length ∧ c.take i = l.take i) (c := List.replicate l.length []) (by simp) (big_lt (by omega)) (by simp) ?_ ?_)
  · rintro i hi c rec ⟨h1, h2⟩ hrec
    unfold Fz40.B1
    simp only [decT (show (i : Int) < (l.length : Int) by omega), inB_nat hi, inB_nat (h1 ▸ hi : i < c.length), cond_true, Int.toNat_natCast, getD_lt hi, cl_eq (h.pl hi), Option.bind_some, w64n (show i < 9223372036854775807 by omega)]
    have := copied (d := ([] : List DS)) hi h1 h2
    exact hrec _ ⟨this.2, this.1⟩
  · rintro c rec ⟨h1, h2⟩
    unfold Fz40.B1
    rw [decF (by omega)]
    rw [List.take_of_length_le (by omega), List.take_of_length_le (Nat.le_refl _)] at h2
    simp only [cond_false, h2]
theorem s_toRack : Fz40.S (cl Bd fun l => l) :=
  Fz40.of_cl s_toStoredS fun x h => toRack_pf x h
def Psz (x : List DS × Int) : Prop := x.1.length ≤ maxLen ∧ 0 ≤ x.2 ∧ x.2 ≤ 1048576
def vsz (x : List DS × Int) : Int := if x.2 < x.1.length then -1 else x.2 - x.1.length
theorem s_szStoredS : Fz37.S (cl Psz vsz) :=
  Fz37.of_cl fun x ⟨h1, h2, h3⟩ k => by
    unfold maxLen at h1
    unfold Fz37.pf vsz
    rw [w64 (by omega) (by omega)]
    by_cases c : x.2 < x.1.length
    · rw [decT (by omega), if_pos c]; rfl
    · rw [decF (by omega), if_neg c]; rfl
def szL (n : Int) : List (List DS) → Int
  | [] => n
  | x :: l => if n < x.length then -1 else szL (n - x.length) l
theorem szRack_pf {α : Type} (l : List (List DS)) (n : Int) (h : l.length ≤ maxLen) (hr : ∀ x, x ∈ l → x.length ≤ maxLen) (h0 : 0 ≤ n) (h1 : n ≤ 1048576) (k : Int → Option α) :
    Fz36.pf (cl Psz vsz) BIG l n k = k (if n < l.length then -1 else szL (n - l.length) l) := by
  have hl := h
  unfold maxLen at hl
  unfold Fz36.pf
  rw [w64 (by omega) (by omega)]
  by_cases c : n < l.length
  · rw [decT (by omega), if_pos c]; rfl
  · rw [decF (by omega), if_neg c, cond_false]
    refine iter_list l (fun i (c : Int) => (c, (i : Int))) (fun r c => k (szL c r)) (fun i c => 0 ≤ c ∧ c ≤ 1048576) (c := n - l.length) rfl (big_lt (by omega)) (by omega) ?_ ?_
    · rintro i hi c rec ⟨h2, h3⟩ hrec
      unfold Fz36.B1
      simp only [decT (show (i : Int) < (l.length : Int) by omega), inB_nat hi, cond_true, Int.toNat_natCast, getD_lt hi, cl_eq (show Psz (l[i], c) from ⟨hr _ (List.getElem_mem hi), h2, h3⟩), vsz, Option.bind_some, w64n (show i < 9223372036854775807 by omega), szL]
      by_cases q : c < (l[i].length : Int)
      · simp only [if_pos q]; rfl
      · simp only [if_neg q, decF (show ¬ (c - (l[i].length : Int) < 0) by omega), cond_false]
        exact hrec _ (by omega)
    · rintro c rec _
      unfold Fz36.B1
      rw [decF (by omega)]
      rfl
def PszR (x : List (List DS) × Int) : Prop := x.1.length ≤ maxLen ∧ (∀ r, r ∈ x.1 → r.length ≤ maxLen) ∧ 0 ≤ x.2 ∧ x.2 ≤ 1048576
def vszR (x : List (List DS) × Int) : Int := if x.2 < x.1.length then -1 else szL (x.2 - x.1.length) x.1
theorem s_szRack : Fz36.S (cl PszR vszR) := Fz36.of_cl s_szStoredS fun x ⟨h1, h2, h3, h4⟩ => szRack_pf x.1 x.2 h1 h2 h3 h4
theorem szL_nn : ∀ (l : List (List DS)) (n : Int), 0 ≤ n → 0 ≤ szL n l → szL n l = n - ((l.map List.length).sum : Nat)
  | [], n, _, _ => by simp [szL]
  | x :: l, n, h, h1 => by
    unfold szL at h1 ⊢
    by_cases c : n < x.length
    · rw [if_pos c] at h1; omega
    · rw [if_neg c] at h1 ⊢
      rw [szL_nn l _ (by omega) h1]
      simp
      omega
theorem sz_bd {l : List (List DS)} {n : Int} (h0 : 0 ≤ n) (h1 : n ≤ 1048576) (h : ¬ vszR (l, n) < 0) : Bd l ∧ 0 ≤ vszR (l, n) ∧ vszR (l, n) ≤ 1048576 := by
  unfold vszR at h ⊢
  simp only at h ⊢
  by_cases c : n < l.length
  · rw [if_pos c] at h; omega
  · rw [if_neg c] at h ⊢
    have := szL_nn l (n - l.length) (by omega) (by omega)
    unfold Bd
    omega
theorem eqB (a b : DB) : eqV (.st (.pair (.int .u8) (.int .i16))) a b = decide (a = b) := by
  obtain ⟨a1, a2⟩ := a
  obtain ⟨b1, b2⟩ := b
  simp only [eqV]
  rw [Bool.eq_iff_iff]
  simp
theorem s_eqBottle : Fz24.S (tot fun x => decide (x.1 = x.2)) := Fz24.of_tot fun x k => by
  obtain ⟨⟨a1, a2⟩, b1, b2⟩ := x
  unfold Fz24.pf
  by_cases h1 : a1 = b1
  · by_cases h2 : a2 = b2
    · simp [h1, h2]
    · simp [h1, h2, bneT h2]
  · simp [h1, bneT h1]
theorem s_eqStored : Fz28.S (tot fun x => decide (x.1 = x.2)) := Fz28.of_tot s_eqBottle fun x k => by
  obtain ⟨⟨a1, a2⟩, b1, b2⟩ := x
  unfold Fz28.pf
  by_cases h1 : a1 = b1
  · by_cases h2 : a2 = b2
    · simp [h1, h2, tot]
    · simp [h1, h2, tot, bneT h2]
  · simp [h1, tot]
theorem any_eq {β : Type} [DecidableEq β] : ∀ (a b : List β), a.length = b.length → (a.zip b).any (fun p => !decide (p.1 = p.2)) = !decide (a = b)
  | [], [], _ => by simp
  | [], _ :: _, h => by simp at h
  | _ :: _, [], h => by simp at h
  | x :: a, y :: b, h => by
    rw [List.zip_cons_cons, List.any_cons, any_eq a b (by simpa using h)]
    by_cases c : x = y <;> by_cases c2 : a = b <;> simp [c, c2]
theorem zip_at {β γ : Type} {a : List β} {b : List γ} {k : Nat} (h : k < (a.zip b).length) : (a.zip b)[k] = (a[k]'(by simp at h; omega), b[k]'(by simp at h; omega)) := by simp
theorem eqStoredS_pf {α : Type} (a b : List DS) (h : a.length ≤ 1073741824) (k : Bool → Option α) : Fz29.pf (tot fun x => decide (x.1 = x.2)) BIG a b k = k (decide (a = b)) := by
  unfold Fz29.pf
  by_cases c : a.length = b.length
  · rw [show (((a.length : Nat) : Int) != ((b.length : Nat) : Int)) = false by simp [c], cond_false]
    have hz : (a.zip b).length = a.length := by simp [c]
    rw [iter_first (a.zip b) (fun i => (i : Int)) (fun p => !decide (p.1 = p.2)) (fun _ _ => k false) (k true) (x := 0) rfl (big_lt (by omega)) ?_ ?_, firstOr_const, any_eq a b c]
    · by_cases e : a = b <;> simp [e]
    · intro i hi rec
      have h1 : i < a.length := by omega
      have h2 : i < b.length := by omega
      unfold Fz29.B1
      rw [zip_at hi]
      simp only [decT (show (i : Int) < (a.length : Int) by omega), inB_nat h1, inB_nat h2, cond_true, Int.toNat_natCast, getD_lt h1, getD_lt h2, tot_eq, Option.bind_some, w64n (show i < 9223372036854775807 by omega)]
    · intro rec
      unfold Fz29.B1
      rw [decF (by omega)]
      rfl
  · rw [show (((a.length : Nat) : Int) != ((b.length : Nat) : Int)) = true by simpa using fun q => c (by omega), cond_true]
    rw [decF (fun e => c (by rw [e]))]
theorem s_eqStoredS : Fz29.S (cl PL1 fun x => decide (x.1 = x.2)) := Fz29.of_cl s_eqStored fun x h => eqStoredS_pf x.1 x.2 h
theorem eqRack_pf {α : Type} (a b : List (List DS)) (h : Bd a) (k : Bool → Option α) : Fz27.pf (cl PL1 fun x => decide (x.1 = x.2)) BIG a b k = k (decide (a = b)) := by
  have hl := h.len
  unfold Fz27.pf
  by_cases c : a.length = b.length
  · rw [show (((a.length : Nat) : Int) != ((b.length : Nat) : Int)) = false by simp [c], cond_false]
    have hz : (a.zip b).length = a.length := by simp [c]
    rw [iter_first (a.zip b) (fun i => (i : Int)) (fun p => !decide (p.1 = p.2)) (fun _ _ => k false) (k true) (x := 0) rfl (big_lt (by omega)) ?_ ?_, firstOr_const, any_eq a b c]
    · by_cases e : a = b <;> simp [e]
    · intro i hi rec
      have h1 : i < a.length := by omega
      have h2 : i < b.length := by omega
      unfold Fz27.B1
      rw [zip_at hi]
      simp only [decT (show (i : Int) < (a.length : Int) by omega), inB_nat h1, inB_nat h2, cond_true, Int.toNat_natCast, getD_lt h1, getD_lt h2, cl_eq (show PL1 (a[i], b[i]) from h.at h1), Option.bind_some, w64n (show i < 9223372036854775807 by omega)]
    · intro rec
      unfold Fz27.B1
      rw [decF (by omega)]
      rfl
  · rw [show (((a.length : Nat) : Int) != ((b.length : Nat) : Int)) = true by simpa using fun q => c (by omega), cond_true]
    rw [decF (fun e => c (by rw [e]))]
theorem s_eqRack : Fz27.S (cl Bd1 fun x => decide (x.1 = x.2)) := Fz27.of_cl s_eqStoredS fun x h => eqRack_pf x.1 x.2 h
def markL : Int → List DS → Int × List DS
  | k, [] => (k, [])
  | k, _ :: l => ((markL (IntKind.i64.wrap (IntKind.i64.wrap (IntKind.i64.wrap (k + 1) + 1) + 1)) l).1, ((IntKind.u8.wrap k, IntKind.i16.wrap (IntKind.i64.wrap (k + 1))), IntKind.i16.wrap (IntKind.i64.wrap (IntKind.i64.wrap (k + 1) + 1))) :: (markL (IntKind.i64.wrap (IntKind.i64.wrap (IntKind.i64.wrap (k + 1) + 1) + 1)) l).2)
def heldL : Int → List DS → Int
  | k, [] => k
  | k, x :: l => if x = ((IntKind.u8.wrap k, IntKind.i16.wrap (IntKind.i64.wrap (k + 1))), IntKind.i16.wrap (IntKind.i64.wrap (IntKind.i64.wrap (k + 1) + 1))) then heldL (IntKind.i64.wrap (IntKind.i64.wrap (IntKind.i64.wrap (k + 1) + 1) + 1)) l else -1
theorem held_markL : ∀ (l : List DS) (k : Int), heldL k (markL k l).2 = (markL k l).1
  | [], _ => rfl
  | x :: l, k => by
    unfold markL heldL
    rw [if_pos rfl]
    exact held_markL l _
theorem markL_fst : ∀ (l : List DS) (k : Int), 0 ≤ k → k + 3 * l.length ≤ 9223372036854775807 → (markL k l).1 = k + 3 * l.length
  | [], k, _, _ => by simp [markL]
  | x :: l, k, h0, h => by
    simp only [List.length_cons] at h ⊢
    unfold markL
    rw [w64 (n := k + 1) (by omega) (by omega), w64 (n := k + 1 + 1) (by omega) (by omega), w64 (n := k + 1 + 1 + 1) (by omega) (by omega)]
    simp only
    rw [markL_fst l _ (by omega) (by omega)]
    omega
theorem setD_same {β : Type} {l : List β} {k : Nat} {x d : β} (h : k < l.length) : (l.set k x).getD k d = x := by
  rw [List.getD_eq_getElem?_getD, List.getElem?_set_self h]; rfl
theorem take_set {β : Type} {l : List β} {k : Nat} {x : β} (h : k < l.length) : (l.set k x).take (k + 1) = l.take k ++ [x] := by
  rw [List.take_succ_eq_append_getElem (by simpa using h), List.take_set_of_le (Nat.le_refl k)]
  simp
theorem markStoredS_pf {α : Type} (l : List DS) (n : Int) (h : l.length ≤ 1073741824) (k : Int × List DS → Option α) : Fz34.pf BIG l n k = k (markL n l) := by
  unfold Fz34.pf
  refine (iter_list l (fun i (c : Int × List DS) => (c.1, (i : Int), c.2)) (fun r c => k ((markL c.1 r).1, c.2.take (l.length - r.length) ++ (markL c.1 r).2)) (fun i c => c.2.length = l.length) (c := (n, l)) rfl (big_lt (by omega)) rfl ?_ ?_).trans (by simp)
  · rintro i hi ⟨m, c⟩ rec h1 hrec
    simp only at h1
    have hc : i < c.length := by omega
    unfold Fz34.B1
    have e1 : l.length - (l.drop (i + 1)).length = i + 1 := by rw [List.length_drop]; omega
    have e2 : l.length - (l[i] :: l.drop (i + 1)).length = i := by rw [List.length_cons, List.length_drop]; omega
    simp only [decT (show (i : Int) < (c.length : Int) by omega), inB_nat hc, cond_true, Int.toNat_natCast, List.length_set, List.set_set, setD_same hc, w64n (show i < 9223372036854775807 by omega)]
    refine (hrec (IntKind.i64.wrap (IntKind.i64.wrap (IntKind.i64.wrap (m + 1) + 1) + 1), c.set i ((IntKind.u8.wrap m, IntKind.i16.wrap (IntKind.i64.wrap (m + 1))), IntKind.i16.wrap (IntKind.i64.wrap (IntKind.i64.wrap (m + 1) + 1)))) (by simpa using h1)).trans ?_
    simp only [e1, e2, take_set hc, markL, List.append_assoc, List.cons_append, List.nil_append]
  · rintro ⟨m, c⟩ rec h1
    simp only at h1
    unfold Fz34.B1
    rw [decF (by simp only; omega)]
    simp only [cond_false, markL, List.length_nil, Nat.sub_zero, List.append_nil]
    rw [List.take_of_length_le (by omega)]
theorem s_markStoredS : Fz34.S (cl PL1 fun x => markL x.2 x.1) := Fz34.of_cl fun x h => markStoredS_pf x.1 x.2 h
def markR : Int → List (List DS) → Int × List (List DS)
  | k, [] => (k, [])
  | k, x :: l => ((markR (markL k x).1 l).1, (markL k x).2 :: (markR (markL k x).1 l).2)
def heldR : Int → List (List DS) → Int
  | k, [] => k
  | k, x :: l => if heldL k x < 0 then -1 else heldR (heldL k x) l
theorem markRack_pf {α : Type} (l : List (List DS)) (n : Int) (h : Bd l) (k : Int × List (List DS) → Option α) : Fz33.pf (cl PL1 fun x => markL x.2 x.1) BIG l n k = k (markR n l) := by
  have hl := h.len
  unfold Fz33.pf
  refine (iter_list l (fun i (c : Int × List (List DS)) => (c.1, (i : Int), c.2)) (fun r c => k ((markR c.1 r).1, c.2.take (l.length - r.length) ++ (markR c.1 r).2)) (fun i c => c.2.length = l.length ∧ c.2.drop i = l.drop i) (c := (n, l)) rfl (big_lt (by omega)) ⟨rfl, rfl⟩ ?_ ?_).trans (by simp)
  · rintro i hi ⟨m, c⟩ rec ⟨h1, h2⟩ hrec
    simp only at h1 h2
    have hc : i < c.length := by omega
    have hci : c[i] = l[i] := by
      have := congrArg (fun z => z[0]?) h2
      simpa [hc, hi] using this
    unfold Fz33.B1
    have e1 : l.length - (l.drop (i + 1)).length = i + 1 := by rw [List.length_drop]; omega
    have e2 : l.length - (l[i] :: l.drop (i + 1)).length = i := by rw [List.length_cons, List.length_drop]; omega
    simp only [decT (show (i : Int) < (c.length : Int) by omega), inB_nat hc, cond_true, Int.toNat_natCast, getD_lt hc, hci, cl_eq (show PL1 (l[i], m) from h.at hi), Option.bind_some, w64n (show i < 9223372036854775807 by omega)]
    refine (hrec (_, _) ⟨by simpa using h1, ?_⟩).trans ?_
    · rw [List.drop_set_of_lt (by omega)]
      have := congrArg (List.drop 1) h2
      simpa [List.drop_drop, Nat.add_comm] using this
    · simp only [e1, e2, take_set hc, markR, List.append_assoc, List.cons_append, List.nil_append]
  · rintro ⟨m, c⟩ rec ⟨h1, h2⟩
    simp only at h1
    unfold Fz33.B1
    rw [decF (by simp only; omega)]
    simp only [cond_false, markR, List.length_nil, Nat.sub_zero, List.append_nil]
    rw [List.take_of_length_le (by omega)]
theorem s_markRack : Fz33.S (cl Bd1 fun x => markR x.2 x.1) := Fz33.of_cl s_markStoredS fun x h => markRack_pf x.1 x.2 h
theorem held_markR : ∀ (l : List (List DS)) (k : Int), 0 ≤ k → k + 3 * (l.map List.length).sum ≤ 9223372036854775807 → heldR k (markR k l).2 = (markR k l).1 ∧ 0 ≤ (markR k l).1
  | [], k, h0, _ => ⟨rfl, h0⟩
  | x :: l, k, h0, h => by
    simp only [List.map_cons, List.sum_cons] at h
    have e := markL_fst x k h0 (by omega)
    unfold markR heldR
    simp only [held_markL]
    rw [if_neg (by omega)]
    exact held_markR l _ (by omega) (by omega)
def validB (b : DB) : Bool := decide (1 ≤ b.1) && decide (b.1 ≤ 20) && (decide (1900 ≤ b.2) && decide (b.2 ≤ 2099))
def validS (s : DS) : Bool := validB s.1 && (decide (0 ≤ s.2) && decide (s.2 ≤ 2000))
def validR (r : List (List DS)) : Bool := decide (r.length ≤ 8) && r.all fun l => decide (l.length ≤ 6) && l.all validS
def wB (b : DB) : Prop := 0 ≤ b.1 ∧ b.1 ≤ 255 ∧ -32768 ≤ b.2 ∧ b.2 ≤ 32767
def wS (s : DS) : Prop := wB s.1 ∧ -32768 ≤ s.2 ∧ s.2 ≤ 32767
def wL (l : List DS) : Prop := PL l ∧ ∀ s, s ∈ l → wS s
def wR (r : List (List DS)) : Prop := Bd r ∧ ∀ l, l ∈ r → ∀ s, s ∈ l → wS s
theorem wR.at {r : List (List DS)} (h : wR r) {k : Nat} (hk : k < r.length) : wL r[k] := ⟨h.1.pl hk, h.2 _ (List.getElem_mem hk)⟩
theorem wL.at {l : List DS} (h : wL l) {k : Nat} (hk : k < l.length) : wS l[k] := h.2 _ (List.getElem_mem hk)
theorem s_l00In : Fz57.S (tot fun x => decide (x.2.1 ≤ x.1) && decide (x.1 ≤ x.2.2)) := Fz57.of_tot fun x k => by
  unfold Fz57.pf
  by_cases c : x.2.1 ≤ x.1
  · rw [decT (show x.1 ≥ x.2.1 from c)]; rfl
  · rw [decF (show ¬ x.1 ≥ x.2.1 from c)]; rfl
theorem s_within : Fz22.S (tot fun x => decide (x.2.1 ≤ x.1) && decide (x.1 ≤ x.2.2)) := Fz22.of_tot fun x k => by
  unfold Fz22.pf
  by_cases c : x.2.1 ≤ x.1
  · rw [decT c]; rfl
  · rw [decF c]; rfl
theorem s_l01Bottle : Fz59.S (cl wB validB) := Fz59.of_cl s_l00In fun x ⟨h1, h2, h3, h4⟩ k => by
  unfold Fz59.pf validB
  simp only [tot_eq, Option.bind_some, w64 (n := x.1) (by omega) (by omega), w64 (n := x.2) (by omega) (by omega)]
  cases decide (1 ≤ x.1) && decide (x.1 ≤ 20) <;> rfl
theorem s_ValidBottle : Fz11.S (cl wB validB) := Fz11.of_cl s_within fun x ⟨h1, h2, h3, h4⟩ k => by
  unfold Fz11.pf validB
  simp only [tot_eq, Option.bind_some, w64 (n := x.1) (by omega) (by omega), w64 (n := x.2) (by omega) (by omega)]
  cases decide (1 ≤ x.1) && decide (x.1 ≤ 20) <;> rfl
theorem s_l04Stored : Fz70.S (cl wS validS) := Fz70.of_cl s_l01Bottle s_l00In fun x ⟨h1, h2, h3⟩ k => by
  unfold Fz70.pf validS
  rw [cl_eq h1, w64 (n := x.2) (by omega) (by omega)]
  simp only [tot_eq, Option.bind_some]
  cases validB x.1 <;> rfl
theorem s_validStored : Fz21.S (cl wS validS) := Fz21.of_cl s_ValidBottle s_within fun x ⟨h1, h2, h3⟩ k => by
  unfold Fz21.pf validS
  rw [cl_eq h1, w64 (n := x.2) (by omega) (by omega)]
  simp only [tot_eq, Option.bind_some]
  cases validB x.1 <;> rfl
theorem any_not {β : Type} (l : List β) (p : β → Bool) : (l.any fun x => !p x) = !l.all p := by
  induction l with
  | nil => rfl
  | cons x l ih => rw [List.any_cons, List.all_cons, ih, Bool.not_and]
theorem s_l04All : Fz60.S (cl wL fun l => l.all validS) := Fz60.of_cl s_l04Stored fun x h k => by
  have hl : x.length ≤ 1073741824 := h.1
  unfold Fz60.pf
  rw [iter_first x (fun i => (i : Int)) (fun s => !validS s) (fun _ _ => k false) (k true) (x := 0) rfl (big_lt (by omega)) ?_ ?_, firstOr_const, any_not]
  · cases x.all validS <;> rfl
  · intro i hi rec
    unfold Fz60.B1
    simp only [decT (show (i : Int) < (x.length : Int) by omega), inB_nat hi, cond_true, Int.toNat_natCast, getD_lt hi, cl_eq (h.at hi), Option.bind_some, w64n (show i < 9223372036854775807 by omega)]
  · intro rec
    unfold Fz60.B1
    rw [decF (by omega)]
    rfl
theorem s_l04Ok : Fz63.S (cl wR validR) := Fz63.of_cl s_l04All fun x h k => by
  have hl := h.1.len
  unfold Fz63.pf
  rw [iter_first x (fun i => (i : Int)) (fun l => !(decide (l.length ≤ 6) && l.all validS)) (fun _ _ => k false) (k (decide (x.length ≤ 8))) (x := 0) rfl (big_lt (by omega)) ?_ ?_, firstOr_const, any_not]
  · unfold validR
    cases x.all fun l => decide (l.length ≤ 6) && l.all validS
    · rw [Bool.and_false]; rfl
    · rw [Bool.and_true]; rfl
  · intro i hi rec
    have := h.1.at hi
    unfold Fz63.B1
    simp only [decT (show (i : Int) < (x.length : Int) by omega), inB_nat hi, cond_true, Int.toNat_natCast, getD_lt hi, cl_eq (h.at hi), Option.bind_some, w64n (show i < 9223372036854775807 by omega)]
    by_cases c : x[i].length ≤ 6
    · rw [decF (show ¬ ((x[i].length : Int) > 6) by omega), decT c]; rfl
    · rw [decT (show ((x[i].length : Int) > 6) by omega), decF c]; rfl
  · intro rec
    unfold Fz63.B1
    rw [decF (by omega)]
    simp only [cond_false]
    congr 1
    by_cases c : x.length ≤ 8
    · rw [decT c, decT (by omega)]
    · rw [decF c, decF (by omega)]
theorem s_ValidRack_1_1 : Fz14.S (cl wS fun s => !validS s) := Fz14.of_cl s_validStored fun x h k => by
  unfold Fz14.pf
  rw [cl_eq h]; rfl
def indexI {β : Type} (p : β → Bool) (l : List β) : Int := match l.findIdx? p with
  | some i => i
  | none => -1
theorem firstOr_index {α β : Type} (p : β → Bool) (k : Int → Option α) : ∀ (l : List β) (j : Nat), firstOr p (fun i _ => k (i : Int)) (k (-1)) j l = k (match l.findIdx? p with | some i => ((j + i : Nat) : Int) | none => -1)
  | [], _ => rfl
  | x :: l, j => by
    rw [firstOr, List.findIdx?_cons]
    cases p x with
    | true => simp
    | false =>
      rw [cond_false, firstOr_index p k l]
      cases l.findIdx? p with
      | none => rfl
      | some i => simp [Nat.add_assoc, Nat.add_comm 1 i]
theorem indexI_nn {β : Type} (p : β → Bool) (l : List β) : decide (indexI p l ≥ 0) = l.any p := by
  unfold indexI
  cases h : l.findIdx? p with
  | none =>
    have := List.findIdx?_eq_none_iff.1 h
    simp only
    rw [decF (by omega)]
    symm
    rw [List.any_eq_false]
    intro x hx
    simpa using this x hx
  | some i =>
    simp only
    rw [decT (by omega)]
    symm
    obtain ⟨hi, hp, _⟩ := List.findIdx?_eq_some_iff_getElem.1 h
    exact List.any_eq_true.2 ⟨_, List.getElem_mem hi, hp⟩
theorem s_index_1_1 : Fz50.S (cl wL fun l => indexI (fun s => !validS s) l) :=
  Fz50.of_cl s_ValidRack_1_1 fun x h k => by
  have hl : x.length ≤ 1073741824 := h.1
  unfold Fz50.pf
  rw [iter_first x (fun i => (i : Int)) (fun s => !validS s) (fun i _ => k (i : Int)) (k (-1)) (x := 0) rfl (big_lt (by omega)) ?_ ?_, firstOr_index]
  · unfold indexI
    congr 1
    cases x.findIdx? fun s => !validS s <;> simp
  · intro i hi rec
    unfold Fz50.B1
    simp only [decT (show (i : Int) < (x.length : Int) by omega), inB_nat hi, cond_true, Int.toNat_natCast, getD_lt hi, cl_eq (h.at hi), Option.bind_some, w64n (show i < 9223372036854775807 by omega)]
  · intro rec
    unfold Fz50.B1
    rw [decF (by omega)]
    rfl
theorem s_contains_1_1 : Fz45.S (cl wL fun l => !l.all validS) :=
  Fz45.of_cl s_index_1_1 fun x h k => by
  unfold Fz45.pf
  rw [cl_eq h, Option.bind_some, indexI_nn, any_not]
theorem s_ValidRack_1 : Fz13.S (cl wL fun l => !(decide (l.length ≤ 6) && l.all validS)) := Fz13.of_cl s_contains_1_1 fun x h k => by
  unfold Fz13.pf
  have hl : x.length ≤ 1073741824 := h.1
  by_cases c : x.length ≤ 6
  · rw [decF (show ¬ ((x.length : Int) > 6) by omega), decT c, cl_eq h]; rfl
  · rw [decT (show ((x.length : Int) > 6) by omega), decF c]; rfl
theorem s_index_1 : Fz49.S (cl wR fun r => indexI (fun l => !(decide (l.length ≤ 6) && l.all validS)) r) :=
  Fz49.of_cl s_ValidRack_1 fun x h k => by
  have hl := h.1.len
  unfold Fz49.pf
  rw [iter_first x (fun i => (i : Int)) (fun l => !(decide (l.length ≤ 6) && l.all validS)) (fun i _ => k (i : Int)) (k (-1)) (x := 0) rfl (big_lt (by omega)) ?_ ?_, firstOr_index]
  · unfold indexI
    congr 1
    cases x.findIdx? fun l => !(decide (l.length ≤ 6) && l.all validS) <;> simp
  · intro i hi rec
    unfold Fz49.B1
    simp only [decT (show (i : Int) < (x.length : Int) by omega), inB_nat hi, cond_true, Int.toNat_natCast, getD_lt hi, cl_eq (h.at hi), Option.bind_some, w64n (show i < 9223372036854775807 by omega)]
  · intro rec
    unfold Fz49.B1
    rw [decF (by omega)]
    rfl
theorem s_contains_1 : Fz44.S (cl wR fun r => !r.all fun l => decide (l.length ≤ 6) && l.all validS) :=
  Fz44.of_cl s_index_1 fun x h k => by
  unfold Fz44.pf
  rw [cl_eq h, Option.bind_some, indexI_nn, any_not]
theorem s_impl_ValidRack : Fz12.S (cl wR validR) := Fz12.of_cl s_contains_1 fun x h k => by
  unfold Fz12.pf validR
  have hl := h.1.len
  by_cases c : x.length ≤ 8
  · rw [decT (show ((x.length : Int) ≤ 8) by omega), decT c, cl_eq h]; simp
  · rw [decF (show ¬ ((x.length : Int) ≤ 8) by omega), decF c]; rfl
theorem good_I {n : Int} (h : (Lit.int .i64 n).wf = true) : -9223372036854775808 ≤ n ∧ n ≤ 9223372036854775807 := by
  simp only [Lit.wf, IntKind.min, IntKind.max, IntKind.bits, IntKind.signed] at h
  simp at h
  omega
theorem good_B {b : DB} (h : goodV (.st (.pair (.int .u8) (.int .i16))) b) : wB b := by
  obtain ⟨h1, h2⟩ := h
  simp only [goodV, Lit.wf, IntKind.min, IntKind.max, IntKind.bits, IntKind.signed] at h1 h2
  simp at h1 h2
  unfold wB
  omega
theorem good_S {s : DS} (h : goodV (.st (.pair (.st (.pair (.int .u8) (.int .i16))) (.int .i16))) s) : wS s := by
  obtain ⟨h1, h2⟩ := h
  refine ⟨good_B h1, ?_⟩
  simp only [goodV, Lit.wf, IntKind.min, IntKind.max, IntKind.bits, IntKind.signed] at h2
  simp at h2
  omega
def gR (r : List (List DS)) : Prop := r.length ≤ maxLen ∧ (∀ l, l ∈ r → l.length ≤ maxLen) ∧ ∀ l, l ∈ r → ∀ s, s ∈ l → wS s
theorem good_rack {e e' : TypeId} {r : List (List DS)} (h : goodV (.row e (.row e' (.st (.pair (.st (.pair (.int .u8) (.int .i16))) (.int .i16))))) r) : gR r := by
  obtain ⟨h1, h2⟩ := h
  have h3 : ∀ l, l ∈ r → goodV (.row e' (.st (.pair (.st (.pair (.int .u8) (.int .i16))) (.int .i16)))) l := fun l hl => by
    obtain ⟨i, hi, rfl⟩ := List.mem_iff_getElem.1 hl
    have := h2 i hi
    rwa [getD_lt hi] at this
  refine ⟨h1, fun l hl => (h3 l hl).1, fun l hl s hs => ?_⟩
  obtain ⟨i, hi, rfl⟩ := List.mem_iff_getElem.1 hs
  have := (h3 l hl).2 i hi
  rw [getD_lt hi] at this
  exact good_S this
theorem gR.sz {r : List (List DS)} (h : gR r) : PszR (r, 1048576) := ⟨h.1, h.2.1, by simp, by simp⟩
theorem gR.w {r : List (List DS)} (h : gR r) (c : ¬ vszR (r, 1048576) < 0) : wR r := ⟨(sz_bd (by omega) (by omega) c).1, h.2.2⟩
def isIn (n : Nat) (i : Int) : Bool := decide (0 ≤ i) && decide (i ≤ (n : Int) - 1)
theorem isIn_true {n : Nat} {i : Int} (h : isIn n i = true) : ∃ j : Nat, i = (j : Int) ∧ j < n := by
  simp only [isIn, Bool.and_eq_true, decide_eq_true_eq] at h
  exact ⟨i.toNat, by omega, by omega⟩
def wI (i : Int) : Prop := -9223372036854775808 ≤ i ∧ i ≤ 9223372036854775807
def isAt (r : List (List DS)) (i j : Int) : Bool := isIn r.length i && isIn (r.getD i.toNat []).length j
def codeOf (a b : Bool) : Int := cond a (cond b 0 2) 1
theorem s_codeOf : Fz17.S (tot fun x => codeOf x.1 x.2) := Fz17.of_tot fun x k => by
  obtain ⟨a, b⟩ := x
  unfold Fz17.pf codeOf
  cases a <;> cases b <;> rfl
theorem isAt_true {r : List (List DS)} {i j : Int} (h : isAt r i j = true) : ∃ (n m : Nat) (hn : n < r.length), i = (n : Int) ∧ j = (m : Int) ∧ m < r[n].length := by
  unfold isAt at h
  rw [Bool.and_eq_true] at h
  obtain ⟨n, rfl, hn⟩ := isIn_true h.1
  rw [Int.toNat_natCast, getD_lt hn] at h
  obtain ⟨m, rfl, hm⟩ := isIn_true h.2
  exact ⟨n, m, hn, rfl, rfl, hm⟩
abbrev Spot := Int × Int × DS
def PAt (x : List (List DS) × Spot) : Prop := Bd x.1 ∧ isAt x.1 x.2.1 x.2.2.1 = true
theorem s_ahead : Fz1.S (cl PAt fun x => (x.1.getD x.2.1.toNat []).length - 1 - x.2.2.1) := Fz1.of_cl fun x h k => by
  obtain ⟨r, i, j, s⟩ := x
  obtain ⟨hb, hat⟩ := h
  obtain ⟨n, m, hn, e1, e2, hm⟩ := isAt_true hat
  simp only at hb e1 e2 hn hm
  subst e1 e2
  have := hb.at hn
  show Fz1.pf BIG r ((n : Int), (m : Int), s) k = _
  unfold Fz1.pf
  simp only [inB_nat hn, Int.toNat_natCast, getD_lt hn]
  rw [w64 (n := (r[n].length : Int) - 1) (by omega) (by omega), w64 (by omega) (by omega)]
  rfl
theorem bneS (a : Int) : (a != a) = false := by simp
theorem okS {n : Nat} (h : n ≤ 4294967296) : okL n = true := okL_true h
theorem own_pf {α : Type} (r : List (List DS)) (h : Bd r) (k : List (List DS) → Option α) : Fz66.pf BIG r k = k r := by
  have hl := h.len
  unfold Fz66.pf
  refine (iter_list r (fun i (c : List (List DS)) => ((i : Int), c)) (fun q c => k (c ++ q)) (fun i c => c.length = i) (c := []) (by rfl) (big_lt (by omega)) rfl ?_ ?_)
  · rintro i hi c rec h1 hrec
    have := h.at hi
    unfold Fz66.B1
    simp only [decT (show (i : Int) < (r.length : Int) by omega), inB_nat hi, cond_true, Int.toNat_natCast, getD_lt hi, okS (show List.length ([] : List DS) + r[i].length ≤ 4294967296 by simp; omega), okS (show c.length + List.length [[] ++ r[i]] ≤ 4294967296 by simp; omega), w64n (show i < 9223372036854775807 by omega)]
    refine (hrec _ (by simp [h1])).trans ?_
    simp
  · rintro c rec h1
    unfold Fz66.B1
    rw [decF (by simp only; omega)]
    simp
theorem s_l04Own : Fz66.S (cl Bd fun r => r) := Fz66.of_cl fun r h => own_pf r h
theorem cloned_pf {α : Type} (r : List (List DS)) (h : Bd r) (k : List (List DS) → Option α) : Fz5.pf BIG r k = k r := by
  have hl := h.len
  unfold Fz5.pf
  refine (iter_list r (fun i (c : List (List DS)) => ((i : Int), c)) (fun q c => k (c ++ q)) (fun i c => c.length = i) (c := []) (by rfl) (big_lt (by omega)) rfl ?_ ?_)
  · rintro i hi c rec h1 hrec
    have := h.at hi
    unfold Fz5.B1
    simp only [decT (show (i : Int) < (r.length : Int) by omega), inB_nat hi, cond_true, Int.toNat_natCast, getD_lt hi, okS (show List.length ([] : List DS) + r[i].length ≤ 4294967296 by simp; omega), okS (show c.length + List.length [[] ++ r[i]] ≤ 4294967296 by simp; omega), w64n (show i < 9223372036854775807 by omega)]
    refine (hrec _ (by simp [h1])).trans ?_
    simp
  · rintro c rec h1
    unfold Fz5.B1
    rw [decF (by simp only; omega)]
    simp
theorem s_cloned : Fz5.S (cl Bd fun r => r) := Fz5.of_cl fun r h => cloned_pf r h
theorem pathI (n : Nat) : pathEq [.idx n] [.idx n] = true := by simp [pathEq]
theorem codeOf_cases (a b : Bool) : (codeOf a b = 0 ∧ a = true ∧ b = true) ∨ codeOf a b ≠ 0 := by cases a <;> cases b <;> simp [codeOf]
theorem valid_lane {r : List (List DS)} (hw : validR r = true) {n : Nat} (hn : n < r.length) : r[n].length ≤ 6 := by
  unfold validR at hw
  simp only [Bool.and_eq_true, List.all_eq_true, decide_eq_true_eq] at hw
  exact (hw.2 _ (List.getElem_mem hn)).1
theorem held_ok (q : List (List DS)) (h : Bd q) : heldR 1 (markR 1 q).2 = (markR 1 q).1 ∧ 0 ≤ (markR 1 q).1 := held_markR q 1 (by omega) (by unfold Bd at h; omega)
theorem nat_pred {n : Nat} (h : n ≠ 0) (h1 : n ≤ 1073741824) : IntKind.i64.wrap ((n : Int) - 1) = ((n - 1 : Nat) : Int) := by rw [w64 (by omega) (by omega)]; omega
theorem valid_len {r : List (List DS)} (hw : validR r = true) : r.length ≤ 8 := by
  unfold validR at hw
  simp only [Bool.and_eq_true, decide_eq_true_eq] at hw
  exact hw.1
def spotsL (b : DB) (i : Int) : Nat → List DS → List Spot
  | _, [] => []
  | j, s :: l => if s.1 = b then (i, (j : Int), s) :: spotsL b i (j + 1) l else spotsL b i (j + 1) l
def spotsR (b : DB) : Nat → List (List DS) → List Spot
  | _, [] => []
  | i, l :: r => spotsL b (i : Int) 0 l ++ spotsR b (i + 1) r
theorem spotsL_len (b : DB) (i : Int) : ∀ (l : List DS) (j : Nat), (spotsL b i j l).length ≤ l.length
  | [], j => by simp [spotsL]
  | s :: l, j => by
    have := spotsL_len b i l (j + 1)
    unfold spotsL
    split <;> simp <;> omega
theorem spotsR_len (b : DB) : ∀ (r : List (List DS)) (i : Nat), (spotsR b i r).length ≤ (r.map List.length).sum
  | [], i => by simp [spotsR]
  | l :: r, i => by
    have h1 := spotsL_len b (i : Int) l 0
    have h2 := spotsR_len b r (i + 1)
    unfold spotsR
    simp
    omega
def SpotIn (r : List (List DS)) (s : Spot) : Prop := ∃ (i j : Nat) (hi : i < r.length) (hj : j < r[i].length), s = ((i : Int), (j : Int), r[i][j])
theorem impl_spots2 {α : Type} (r : List (List DS)) (b : DB) (i : Nat) (hi : i < r.length) (hl : r[i].length ≤ 1073741824) (n : Int) (acc : List Spot) (ha : acc.length ≤ 1073741824) (K : Int × List Spot → Option α) :
    iter (Fz8.B2 (i : Int) n (i : Int) i ((r[i].length : Nat) : Int) r b K) BIG (0, acc) = K ((r[i].length : Int), acc ++ spotsL b (i : Int) 0 r[i]) := by
  refine (iter_list r[i] (fun p (c : List Spot) => ((p : Int), c)) (fun q c => K ((r[i].length : Int), c ++ spotsL b (i : Int) (r[i].length - q.length) q)) (fun p c => c.length ≤ acc.length + p) (c := acc) rfl (big_lt (by omega)) (by simp) ?_ ?_).trans (by simp)
  · rintro p hp c rec h2 hrec
    have e1 : r[i].length - (r[i].drop (p + 1)).length = p + 1 := by rw [List.length_drop]; omega
    have e2 : r[i].length - (r[i][p] :: r[i].drop (p + 1)).length = p := by rw [List.length_cons, List.length_drop]; omega
    unfold Fz8.B2
    simp only [decT (show (p : Int) < (r[i].length : Int) by omega), cond_true, Int.toNat_natCast, getD_lt hi, inB_nat hp, getD_lt hp, eqB, w64n (show p < 9223372036854775807 by omega), e2, spotsL]
    by_cases q : r[i][p].1 = b
    · rw [decT q, if_pos q, cond_true, okS (by simp; omega), cond_true]
      refine (hrec _ (by simp; omega)).trans ?_
      simp only [e1, List.append_assoc, List.cons_append, List.nil_append]
    · rw [decF q, if_neg q, cond_false]
      refine (hrec _ (by omega)).trans ?_
      simp only [e1]
  · rintro c rec _
    unfold Fz8.B2
    rw [decF (by simp only; omega)]
    simp [spotsL]
theorem s_spots : Fz8.S (cl Bd1 fun x => spotsR x.2 0 x.1) := Fz8.of_cl fun x h k => by
  obtain ⟨r, b⟩ := x
  have hb : Bd r := h
  have hl := hb.len
  have hbs : r.length + (r.map List.length).sum ≤ 1073741824 := hb
  show Fz8.pf BIG r b k = k (spotsR b 0 r)
  unfold Fz8.pf
  refine (iter_list r (fun p (c : List Spot) => ((p : Int), c)) (fun q c => k (c ++ spotsR b (r.length - q.length) q)) (fun p c => c.length + ((r.drop p).map List.length).sum ≤ 1073741824) (c := []) rfl (big_lt (by omega)) (by simp; omega) ?_ ?_).trans (by simp)
  · rintro p hp c rec h2 hrec
    have e1 : r.length - (r.drop (p + 1)).length = p + 1 := by rw [List.length_drop]; omega
    have e2 : r.length - (r[p] :: r.drop (p + 1)).length = p := by rw [List.length_cons, List.length_drop]; omega
    rw [drop_cons hp] at h2
    simp only [List.map_cons, List.sum_cons] at h2
    have hs := spotsL_len b (p : Int) r[p] 0
    unfold Fz8.B1
    simp only [decT (show (p : Int) < (r.length : Int) by omega), cond_true, Int.toNat_natCast, getD_lt hp, inB_nat hp, impl_spots2 r b p hp (hb.at hp) _ c (by omega), w64n (show p < 9223372036854775807 by omega), e2, spotsR]
    refine (hrec _ (by simp only [List.length_append]; omega)).trans ?_
    simp only [e1, List.append_assoc]
  · rintro c rec _
    unfold Fz8.B1
    rw [decF (by simp only; omega)]
    simp [spotsR]
def minBy {β : Type} (c : β → β → Bool) (m : β) : List β → β
  | [] => m
  | x :: l => minBy c (if c x m = true then x else m) l
theorem minBy_mem {β : Type} (c : β → β → Bool) : ∀ (l : List β) (m : β), minBy c m l = m ∨ minBy c m l ∈ l
  | [], m => .inl rfl
  | x :: l, m => by
    unfold minBy
    rcases minBy_mem c l (if c x m = true then x else m) with h | h
    · rw [h]
      split
      · exact .inr (List.mem_cons_self ..)
      · exact .inl rfl
    · exact .inr (List.mem_cons_of_mem _ h)
def wSp (s : Spot) : Prop := -32768 ≤ s.2.2.2 ∧ s.2.2.2 ≤ 32767
def wSp2 (x : Spot × Spot) : Prop := wSp x.1 ∧ wSp x.2
theorem s_oldest_1 : Fz20.S (cl wSp2 fun x => x.1.2.2.2 - x.2.2.2.2) := Fz20.of_cl fun x ⟨h1, h2⟩ k => by
  obtain ⟨x, y⟩ := x
  unfold wSp at h1 h2
  simp only at h1 h2
  show Fz20.pf BIG x y k = _
  unfold Fz20.pf
  rw [w64 (n := x.2.2.2) (by omega) (by omega), w64 (n := y.2.2.2) (by omega) (by omega), w64 (by omega) (by omega)]
def older (x y : Spot) : Bool := decide (x.2.2.2 < y.2.2.2)
def PSps (l : List Spot) : Prop := l ≠ [] ∧ l.length ≤ 1073741824 ∧ ∀ s, s ∈ l → wSp s
def minOf (c : Spot → Spot → Bool) (l : List Spot) : Spot := minBy c (l.getD 0 (0, 0, dS)) (l.drop 1)
theorem s_minOldest : Fz54.S (cl PSps (minOf older)) := Fz54.of_cl s_oldest_1 fun l h k => by
  obtain ⟨h0, h1, h2⟩ := h
  have hl : 0 < l.length := List.length_pos_iff.2 h0
  unfold Fz54.pf minOf
  rw [decF (by omega), cond_false, inB_true (by omega) (by omega), cond_true]
  refine (iter_list (l.drop 1) (fun p (c : Spot) => ((p : Int) + 1, c)) (fun q c => k (minBy older c q)) (fun p c => c ∈ l) (c := l.getD 0 (0, 0, dS)) (by simp) (big_lt (by simp; omega)) (by rw [getD_lt hl]; exact List.getElem_mem _) ?_ ?_)
  · rintro p hp c rec hc hrec
    have hp' : p + 1 < l.length := by simp at hp; omega
    unfold Fz54.B1
    have ei : ((p : Int) + 1) = ((p + 1 : Nat) : Int) := rfl
    have eg : (l.drop 1)[p] = l[p + 1] := by simp [Nat.add_comm]
    simp only [eg, ei, decT (show ((p + 1 : Nat) : Int) < (l.length : Int) by omega), inB_nat hp', cond_true, Int.toNat_natCast, getD_lt hp', w64n (show p + 1 < 9223372036854775807 by omega), minBy]
    rw [cl_eq (show wSp2 (l[p + 1], c) from ⟨h2 _ (List.getElem_mem _), h2 _ hc⟩), Option.bind_some]
    simp only [older, decide_eq_true_eq]
    by_cases q : l[p + 1].2.2.2 < c.2.2.2
    · rw [decT (show l[p + 1].2.2.2 - c.2.2.2 < 0 by omega), if_pos q, cond_true]
      exact hrec _ (List.getElem_mem _)
    · rw [decF (show ¬ l[p + 1].2.2.2 - c.2.2.2 < 0 by omega), if_neg q, cond_false]
      exact hrec _ hc
  · rintro c rec _
    unfold Fz54.B1
    rw [decF (by simp; omega)]
    simp [minBy]
theorem s_oldest : Fz19.S (cl PSps (minOf older)) := Fz19.of_cl s_minOldest fun l h k => by
  unfold Fz19.pf
  rw [cl_eq h]
  rfl
def updO (o : Option Spot) (s : Spot) : Option Spot := match o with
  | none => some s
  | some p => if s.2.2.2 < p.2.2.2 then some s else some p
def encO : Option Spot → Int × Int
  | none => (-1, 0)
  | some p => (p.1, p.2.1)
theorem encO_some (p : Spot) : encO (some p) = (p.1, p.2.1) := rfl
theorem updO_some : ∀ (l : List Spot) (m : Spot), l.foldl updO (some m) = some (minBy older m l)
  | [], m => rfl
  | s :: l, m => by
    rw [List.foldl_cons, minBy]
    show l.foldl updO (if s.2.2.2 < m.2.2.2 then some s else some m) = _
    unfold older
    by_cases c : s.2.2.2 < m.2.2.2
    · rw [if_pos c, if_pos (decide_eq_true c)]; exact updO_some l s
    · rw [if_neg c, if_neg (by simpa using c)]; exact updO_some l m
theorem updO_min (l : List Spot) (h : l ≠ []) : l.foldl updO none = some (minOf older l) := by
  match l, h with
  | s :: l, _ => rw [List.foldl_cons]; exact updO_some l s
theorem spotsL_in (b : DB) (i : Int) : ∀ (l : List DS) (j : Nat) (s : Spot), s ∈ spotsL b i j l → ∃ (n : Nat) (h : n < l.length), s = (i, ((j + n : Nat) : Int), l[n])
  | [], j, s, h => by simp [spotsL] at h
  | x :: l, j, s, h => by
    have rest : s ∈ spotsL b i (j + 1) l → ∃ (n : Nat) (h : n < (x :: l).length), s = (i, ((j + n : Nat) : Int), (x :: l)[n]) := fun h => by
      obtain ⟨n, hn, e⟩ := spotsL_in b i l (j + 1) s h
      exact ⟨n + 1, by simpa using hn, by rw [e]; simp [Nat.add_comm, Nat.add_left_comm]⟩
    unfold spotsL at h
    split at h
    · rcases List.mem_cons.1 h with rfl | h
      · exact ⟨0, by simp, by simp⟩
      · exact rest h
    · exact rest h
theorem spotsR_in (b : DB) : ∀ (r : List (List DS)) (i : Nat) (s : Spot), s ∈ spotsR b i r → ∃ (n m : Nat) (hn : n < r.length) (hm : m < r[n].length), s = (((i + n : Nat) : Int), (m : Int), r[n][m])
  | [], i, s, h => by simp [spotsR] at h
  | l :: r, i, s, h => by
    unfold spotsR at h
    rcases List.mem_append.1 h with h | h
    · obtain ⟨m, hm, e⟩ := spotsL_in b _ l 0 s h
      exact ⟨0, m, by simp, by simpa using hm, by rw [e]; simp⟩
    · obtain ⟨n, m, hn, hm, e⟩ := spotsR_in b r (i + 1) s h
      exact ⟨n + 1, m, by simpa using hn, by simpa using hm, by rw [e]; simp [Nat.add_comm, Nat.add_left_comm]⟩
theorem spots_in {b : DB} {r : List (List DS)} {s : Spot} (h : s ∈ spotsR b 0 r) : SpotIn r s := by
  obtain ⟨n, m, hn, hm, e⟩ := spotsR_in b r 0 s h
  exact ⟨n, m, hn, hm, by rw [e]; simp⟩
theorem spot_w {r : List (List DS)} (h : wR r) {s : Spot} (hs : SpotIn r s) : wSp s := by
  obtain ⟨i, j, hi, hj, rfl⟩ := hs
  exact ((h.at hi).at hj).2
def InO (r : List (List DS)) (o : Option Spot) : Prop := ∀ p, o = some p → SpotIn r p
theorem updO_in {r : List (List DS)} {o : Option Spot} {s : Spot} (ho : InO r o) (hs : SpotIn r s) : InO r (updO o s) := by
  intro p hp
  unfold updO at hp
  split at hp
  · obtain rfl := Option.some.inj hp; exact hs
  · split at hp
    · obtain rfl := Option.some.inj hp; exact hs
    · exact ho p hp
theorem fold_in {r : List (List DS)} : ∀ (l : List Spot) (o : Option Spot), InO r o → (∀ s, s ∈ l → SpotIn r s) → InO r (l.foldl updO o)
  | [], o, h, _ => h
  | s :: l, o, h, hs => fold_in l _ (updO_in h (hs s (by simp))) (fun x hx => hs x (List.mem_cons_of_mem _ hx))
theorem spec_old2 {α : Type} (r : List (List DS)) (b : DB) (i : Nat) (hi : i < r.length) (hl : r[i].length ≤ 1073741824) (o : Option Spot) (ho : InO r o) (K : Int × Int × Int → Option α) :
    iter (Fz64.B2 (i : Int) r b K) BIG ((encO o).1, (encO o).2, 0) = K ((encO ((spotsL b i 0 r[i]).foldl updO o)).1, (encO ((spotsL b i 0 r[i]).foldl updO o)).2, (r[i].length : Int)) := by
  refine (iter_list r[i] (fun p (c : Option Spot) => ((encO c).1, (encO c).2, (p : Int))) (fun q c => K ((encO ((spotsL b i (r[i].length - q.length) q).foldl updO c)).1, (encO ((spotsL b i (r[i].length - q.length) q).foldl updO c)).2, (r[i].length : Int))) (fun p c => InO r c) (c := o) rfl (big_lt (by omega)) ho ?_ ?_).trans (by simp)
  · rintro p hp c rec hc hrec
    have e1 : r[i].length - (r[i].drop (p + 1)).length = p + 1 := by rw [List.length_drop]; omega
    have e2 : r[i].length - (r[i][p] :: r[i].drop (p + 1)).length = p := by rw [List.length_cons, List.length_drop]; omega
    have hs : SpotIn r ((i : Int), (p : Int), r[i][p]) := ⟨i, p, hi, hp, rfl⟩
    unfold Fz64.B2
    simp only [inB_nat hi, decT (show (p : Int) < (r[i].length : Int) by omega), cond_true, Int.toNat_natCast, getD_lt hi, inB_nat hp, getD_lt hp, eqB, w64n (show p < 9223372036854775807 by omega), e2, spotsL]
    by_cases q : r[i][p].1 = b
    · rw [decT q, if_pos q, cond_true, List.foldl_cons]
      cases c with
      | none =>
        rw [decT (show (encO none).1 < 0 by simp [encO]), cond_true]
        refine (hrec (some _) (updO_in hc hs)).trans ?_
        simp only [e1]
        rfl
      | some m =>
        obtain ⟨i', j', hi', hj', rfl⟩ := hc m rfl
        simp only [encO_some, decF (show ¬ ((i' : Int) < 0) by omega), cond_false, inB_nat hi', Int.toNat_natCast, getD_lt hi', inB_nat hj', getD_lt hj', cond_true]
        by_cases d : r[i][p].2 < r[i'][j'].2
        · rw [decT d, cond_true]
          refine (hrec (some ((i : Int), (p : Int), r[i][p])) (fun z hz => by obtain rfl := Option.some.inj hz; exact hs)).trans ?_
          simp only [e1, updO, if_pos d]
        · rw [decF d, cond_false]
          refine (hrec (some ((i' : Int), (j' : Int), r[i'][j'])) hc).trans ?_
          simp only [e1, updO, if_neg d]
    · rw [decF q, if_neg q, cond_false]
      refine (hrec _ hc).trans ?_
      simp only [e1]
  · rintro c rec _
    unfold Fz64.B2
    simp only [inB_nat hi, cond_true, Int.toNat_natCast, getD_lt hi]
    rw [decF (by omega)]
    simp [spotsL]
theorem s_l04Oldest : Fz64.S (cl Bd1 fun x => encO ((spotsR x.2 0 x.1).foldl updO none)) := Fz64.of_cl fun x h k => by
  obtain ⟨r, b⟩ := x
  have hb : Bd r := h
  have hl := hb.len
  show Fz64.pf BIG r b k = k (encO ((spotsR b 0 r).foldl updO none))
  unfold Fz64.pf
  refine (iter_list r (fun p (c : Option Spot) => ((encO c).1, (encO c).2, (p : Int))) (fun q c => k (encO ((spotsR b (r.length - q.length) q).foldl updO c))) (fun p c => InO r c) (c := none) rfl (big_lt (by omega)) (fun p hp => by cases hp) ?_ ?_).trans (by simp)
  · rintro p hp c rec hc hrec
    have e1 : r.length - (r.drop (p + 1)).length = p + 1 := by rw [List.length_drop]; omega
    have e2 : r.length - (r[p] :: r.drop (p + 1)).length = p := by rw [List.length_cons, List.length_drop]; omega
    unfold Fz64.B1
    simp only [decT (show (p : Int) < (r.length : Int) by omega), cond_true, spec_old2 r b p hp (hb.at hp) c hc, w64n (show p < 9223372036854775807 by omega), e2, spotsR, List.foldl_append]
    refine (hrec _ (fold_in _ _ hc (fun s hs => ?_))).trans ?_
    · obtain ⟨n, hn, e⟩ := spotsL_in b _ _ _ s hs
      exact ⟨p, n, hp, hn, by rw [e]; simp⟩
    · simp only [e1]
  · rintro c rec _
    unfold Fz64.B1
    rw [decF (by simp only; omega)]
    simp [spotsR]
def encB : Option Nat → Int
  | none => -1
  | some n => (n : Int)
theorem encB_some (m : Nat) : encB (some m) = (m : Int) := rfl
theorem range_drop {n k : Nat} (h : k < n) : (List.range n)[k]'(by simpa using h) = k := by simp
def updM (o : List (List DS)) (but : Int) (b : Option Nat) (i : Nat) : Option Nat :=
  if (i : Int) ≠ but ∧ (o.getD i []).length < 6 then (match b with
    | none => some i
    | some m => if (o.getD i []).length < (o.getD m []).length then some i else some m) else b
def room (o : List (List DS)) (but : Int) : Option Nat := (List.range o.length).foldl (updM o but) none
def OkM (o : List (List DS)) (but : Int) (b : Option Nat) : Prop := ∀ m, b = some m → m < o.length ∧ (m : Int) ≠ but ∧ (o.getD m []).length < 6
theorem updM_ok {o : List (List DS)} {but : Int} {b : Option Nat} {i : Nat} (hb : OkM o but b) (hi : i < o.length) : OkM o but (updM o but b i) := by
  intro m hm
  unfold updM at hm
  split at hm
  · rename_i c
    split at hm
    · obtain rfl := Option.some.inj hm; exact ⟨hi, c⟩
    · split at hm
      · obtain rfl := Option.some.inj hm; exact ⟨hi, c⟩
      · exact hb m hm
  · exact hb m hm
theorem foldM_ok {o : List (List DS)} {but : Int} : ∀ (l : List Nat) (b : Option Nat), OkM o but b → (∀ i, i ∈ l → i < o.length) → OkM o but (l.foldl (updM o but) b)
  | [], b, h, _ => h
  | i :: l, b, h, hl => foldM_ok l _ (updM_ok h (hl i (by simp))) (fun x hx => hl x (List.mem_cons_of_mem _ hx))
theorem room_ok (o : List (List DS)) (but : Int) : OkM o but (room o but) := foldM_ok _ _ (fun m hm => by cases hm) (fun i hi => by simpa using hi)
theorem s_l04Room : Fz68.S (cl Bd1 fun x => encB (room x.1 x.2)) := Fz68.of_cl fun x h k => by
  obtain ⟨r, but⟩ := x
  have hb : Bd r := h
  have hl := hb.len
  show Fz68.pf BIG r but k = k (encB (room r but))
  unfold Fz68.pf room
  refine (iter_list (List.range r.length) (fun p (c : Option Nat) => (encB c, (p : Int))) (fun q c => k (encB (q.foldl (updM r but) c))) (fun p c => OkM r but c) (c := none) rfl (big_lt (by simp; omega)) (fun p hp => by cases hp) ?_ ?_)
  · rintro p hp c rec hc hrec
    have hpr : p < r.length := by simpa using hp
    have hlp := hb.at hpr
    unfold Fz68.B1
    simp only [decT (show (p : Int) < (r.length : Int) by omega), inB_nat hpr, cond_true, Int.toNat_natCast, getD_lt hpr, w64n (show p < 9223372036854775807 by omega), range_drop hpr, List.foldl_cons]
    refine Eq.trans ?_ (hrec (updM r but c p) (updM_ok hc hpr))
    unfold updM
    rw [getD_lt hpr]
    by_cases c1 : (p : Int) = but
    · rw [bneF c1, if_neg (fun q => q.1 c1)]; rfl
    · rw [bneT c1, cond_true]
      by_cases c6 : r[p].length < 6
      · rw [decT (show ((r[p].length : Nat) : Int) < 6 by omega), if_pos ⟨c1, c6⟩, cond_true]
        cases c with
        | none => rw [decT (show encB none < 0 by simp [encB])]; rfl
        | some m =>
          obtain ⟨hm, _, _⟩ := hc m rfl
          rw [decF (show ¬ encB (some m) < 0 by rw [encB_some]; omega)]
          simp only [encB_some, cond_false, inB_nat hm, cond_true, Int.toNat_natCast, getD_lt hm]
          by_cases d : r[p].length < r[m].length
          · rw [decT (by omega), if_pos d]; rfl
          · rw [decF (by omega), if_neg d]; rfl
      · rw [decF (show ¬ ((r[p].length : Nat) : Int) < 6 by omega), if_neg (fun q => c6 q.2)]; rfl
  · rintro c rec _
    unfold Fz68.B1
    rw [decF (by simp)]
    rfl
theorem s_roomiest : Fz7.S (cl Bd1 fun x => encB (room x.1 x.2)) := Fz7.of_cl fun x h k => by
  obtain ⟨r, but⟩ := x
  have hb : Bd r := h
  have hl := hb.len
  show Fz7.pf BIG r but k = k (encB (room r but))
  unfold Fz7.pf room
  refine (iter_list (List.range r.length) (fun p (c : Option Nat) => (encB c, (p : Int))) (fun q c => k (encB (q.foldl (updM r but) c))) (fun p c => OkM r but c) (c := none) rfl (big_lt (by simp; omega)) (fun p hp => by cases hp) ?_ ?_)
  · rintro p hp c rec hc hrec
    have hpr : p < r.length := by simpa using hp
    have hlp := hb.at hpr
    unfold Fz7.B1
    simp only [decT (show (p : Int) < (r.length : Int) by omega), inB_nat hpr, cond_true, Int.toNat_natCast, getD_lt hpr, w64n (show p < 9223372036854775807 by omega), range_drop hpr, List.foldl_cons]
    refine Eq.trans ?_ (hrec (updM r but c p) (updM_ok hc hpr))
    unfold updM
    rw [getD_lt hpr]
    by_cases c1 : (p : Int) = but
    · rw [bneF c1, if_neg (fun q => q.1 c1)]; rfl
    · rw [bneT c1, cond_true]
      by_cases c6 : r[p].length < 6
      · rw [decT (show ((r[p].length : Nat) : Int) < 6 by omega), if_pos ⟨c1, c6⟩, cond_true]
        cases c with
        | none => rw [decT (show encB none < 0 by simp [encB])]; rfl
        | some m =>
          obtain ⟨hm, _, _⟩ := hc m rfl
          rw [decF (show ¬ encB (some m) < 0 by rw [encB_some]; omega)]
          simp only [encB_some, cond_false, inB_nat hm, cond_true, Int.toNat_natCast, getD_lt hm]
          by_cases d : r[p].length < r[m].length
          · rw [decT (by omega), if_pos d]; rfl
          · rw [decF (by omega), if_neg d]; rfl
      · rw [decF (show ¬ ((r[p].length : Nat) : Int) < 6 by omega), if_neg (fun q => c6 q.2)]; rfl
  · rintro c rec _
    unfold Fz7.B1
    rw [decF (by simp)]
    rfl
def Few (o : List (List DS)) : Prop := o.length ≤ 8 ∧ ∀ x, x ∈ o → x.length ≤ 6
theorem Few.at {o : List (List DS)} (h : Few o) {n : Nat} (hn : n < o.length) : o[n].length ≤ 6 := h.2 _ (List.getElem_mem hn)
theorem sum_few : ∀ (q : List (List DS)) (b : Nat), (∀ x, x ∈ q → x.length ≤ b) → (q.map List.length).sum ≤ b * q.length
  | [], b, _ => by simp
  | x :: q, b, hq => by
    have h1 := sum_few q b (fun y hy => hq y (List.mem_cons_of_mem _ hy))
    have h2 := hq x (by simp)
    simp only [List.map_cons, List.sum_cons, List.length_cons, Nat.mul_add]
    omega
theorem Few.bd {o : List (List DS)} (h : Few o) : Bd o := by
  have := sum_few o 6 h.2
  have := h.1
  unfold Bd
  omega
theorem few_valid {r : List (List DS)} (hw : validR r = true) : Few r := ⟨valid_len hw, fun x hx => by
  obtain ⟨n, hn, rfl⟩ := List.mem_iff_getElem.1 hx
  exact valid_lane hw hn⟩
theorem Few.set {o : List (List DS)} (h : Few o) {n : Nat} {x : List DS} (hx : x.length ≤ 6) : Few (o.set n x) := ⟨by rw [List.length_set]; exact h.1, fun y hy => by
  rcases List.mem_or_eq_of_mem_set hy with q | rfl
  · exact h.2 y q
  · exact hx⟩
def moveTo (o : List (List DS)) (i t : Nat) : List (List DS) := (o.set t (o.getD t [] ++ [(o.getD i []).getD ((o.getD i []).length - 1) dS])).set i ((o.getD i []).take ((o.getD i []).length - 1))
def reach (i : Nat) : Nat → List (List DS) → Option (List (List DS))
  | 0, o => some o
  | n + 1, o => match room o i with
    | none => none
    | some t => reach i n (moveTo o i t)
theorem moveTo_few {o : List (List DS)} {i t : Nat} (h : Few o) (ht : t < o.length) (h6 : (o.getD t []).length < 6) (hi : i < o.length) : Few (moveTo o i t) := by
  unfold moveTo
  refine (h.set (by simp only [List.length_append, List.length_cons, List.length_nil]; omega)).set ?_
  rw [getD_lt hi, List.length_take]
  have := h.at hi
  omega
theorem getD_set_neq {β : Type} {l : List β} {k j : Nat} {x d : β} (h : k ≠ j) : (l.set k x).getD j d = l.getD j d := by
  simp [List.getD_eq_getElem?_getD, List.getElem?_set_ne h]
theorem moveTo_lane {o : List (List DS)} {i t : Nat} (hi : i < o.length) (hne : t ≠ i) : (moveTo o i t).getD i [] = (o.getD i []).take ((o.getD i []).length - 1) := by
  unfold moveTo
  rw [setD_same (by simpa using hi)]
theorem moveTo_len (o : List (List DS)) (i t : Nat) : (moveTo o i t).length = o.length := by unfold moveTo; simp
abbrev Ans := List (List DS) × DS × Int × Int
theorem spec_reach_loop {α : Type} (p2 : List (List DS)) (p3 : DS) (i j : Nat) (no : Option α) (K1 : Int × List (List DS) → Option α) : ∀ (n : Nat) (fuel : Nat) (o : List (List DS)) (m : Nat), n < fuel → Few o → i < o.length → (o.getD i []).length = j + 1 + n → m + n ≤ 1000 →
    iter (Fz67.B1 (cl Bd1 fun x => encB (room x.1 x.2)) (i : Int) (j : Int) p2 p3 (fun _ _ => no) K1) fuel ((m : Int), o) = (match reach i n o with | none => no | some o' => K1 (((m + n : Nat) : Int), o'))
  | _, 0, o, m, hf, _, _, _, _ => absurd hf (Nat.not_lt_zero _)
  | 0, f + 1, o, m, hf, h, hi, hl, hm => by
    have hg := h.at hi
    rw [getD_lt hi] at hl
    show Fz67.B1 _ _ _ _ _ _ _ (iter _ f) _ = _
    unfold Fz67.B1 reach
    simp only [inB_nat hi, cond_true, Int.toNat_natCast, getD_lt hi, w64 (show -9223372036854775808 ≤ (o[i].length : Int) - 1 by omega) (show (o[i].length : Int) - 1 ≤ 9223372036854775807 by omega)]
    rw [decF (by omega)]
    rfl
  | n + 1, f + 1, o, m, hf, h, hi, hl, hm => by
    have hg := h.at hi
    have hl' := hl
    rw [getD_lt hi] at hl
    have hr := room_ok o (i : Int)
    have step : iter (Fz67.B1 (cl Bd1 fun x => encB (room x.1 x.2)) (i : Int) (j : Int) p2 p3 (fun _ _ => no) K1) (f + 1) ((m : Int), o) = (match room o i with
        | none => no
        | some t => iter (Fz67.B1 (cl Bd1 fun x => encB (room x.1 x.2)) (i : Int) (j : Int) p2 p3 (fun _ _ => no) K1) f (((m + 1 : Nat) : Int), moveTo o i t)) := by
      show Fz67.B1 _ _ _ _ _ _ _ (iter _ f) _ = _
      generalize iter (Fz67.B1 (cl Bd1 fun x => encB (room x.1 x.2)) (i : Int) (j : Int) p2 p3 (fun _ _ => no) K1) f = rec
      unfold Fz67.B1
      simp only [inB_nat hi, cond_true, Int.toNat_natCast, getD_lt hi, nat_pred (show o[i].length ≠ 0 by omega) (by omega), cl_eq (show Bd1 (o, (i : Int)) from h.bd), Option.bind_some]
      rw [decT (show ((o[i].length - 1 : Nat) : Int) > (j : Int) by omega), cond_true]
      cases e : room o (i : Int) with
      | none => rw [decT (show encB none < 0 by simp [encB])]; rfl
      | some t =>
        obtain ⟨ht, hne, h6⟩ := hr t e
        have hne : t ≠ i := fun q => hne (by rw [q])
        rw [decF (show ¬ encB (some t) < 0 by rw [encB_some]; omega)]
        simp only [encB_some, cond_false, inB_nat ht, Int.toNat_natCast, inB_nat (show o[i].length - 1 < o[i].length by omega), cond_true, List.length_set, inB_nat hi, getD_set_neq hne, getD_lt hi, pathI, w64n (show m < 9223372036854775807 by omega)]
        rw [okS (by simp only [List.length_cons, List.length_nil]; omega), inW_true (by omega) (by omega) (by omega)]
        simp only [cond_true, decide_true, Bool.and_self, Int.sub_zero, Int.toNat_natCast, List.drop_zero]
        unfold moveTo
        rw [getD_lt hi]
    rw [step]
    unfold reach
    cases e : room o (i : Int) with
    | none => rfl
    | some t =>
      obtain ⟨ht, hne, h6⟩ := hr t e
      have hne : t ≠ i := fun q => hne (by rw [q])
      simp only
      rw [spec_reach_loop p2 p3 i j no K1 n f (moveTo o i t) (m + 1) (by omega) (moveTo_few h ht h6 hi) (by rw [moveTo_len]; exact hi) (by rw [moveTo_lane hi hne, List.length_take]; omega) (by omega), show m + 1 + n = m + (n + 1) by omega]
theorem impl_reach_loop {α : Type} (p0 : Int) (tot : Nat) (s : DS) (p2 : List (List DS)) (p3 : DS) (i j : Nat) (no : Option α) (K1 : Int × List (List DS) → Option α) : ∀ (n : Nat) (fuel : Nat) (o : List (List DS)) (m : Nat), n < fuel → Few o → i < o.length → (o.getD i []).length = j + 1 + n → m + n ≤ 1000 → m + n = tot →
    iter (Fz6.B1 (cl Bd1 fun x => encB (room x.1 x.2)) p0 ((tot : Nat) : Int) p2 ((i : Int), (j : Int), s) p3 (fun _ _ => no) K1) fuel ((m : Int), o) = (match reach i n o with | none => no | some o' => K1 (((m + n : Nat) : Int), o'))
  | _, 0, o, m, hf, _, _, _, _, _ => absurd hf (Nat.not_lt_zero _)
  | 0, f + 1, o, m, hf, h, hi, hl, hm, hmt => by
    have hg := h.at hi
    rw [getD_lt hi] at hl
    show Fz6.B1 _ _ _ _ _ _ _ _ (iter _ f) _ = _
    unfold Fz6.B1 reach
    rw [decF (by simp only; omega)]
    rfl
  | n + 1, f + 1, o, m, hf, h, hi, hl, hm, hmt => by
    have hg := h.at hi
    have hl' := hl
    rw [getD_lt hi] at hl
    have hr := room_ok o (i : Int)
    have step : iter (Fz6.B1 (cl Bd1 fun x => encB (room x.1 x.2)) p0 ((tot : Nat) : Int) p2 ((i : Int), (j : Int), s) p3 (fun _ _ => no) K1) (f + 1) ((m : Int), o) = (match room o i with
        | none => no
        | some t => iter (Fz6.B1 (cl Bd1 fun x => encB (room x.1 x.2)) p0 ((tot : Nat) : Int) p2 ((i : Int), (j : Int), s) p3 (fun _ _ => no) K1) f (((m + 1 : Nat) : Int), moveTo o i t)) := by
      show Fz6.B1 _ _ _ _ _ _ _ _ (iter _ f) _ = _
      generalize iter (Fz6.B1 (cl Bd1 fun x => encB (room x.1 x.2)) p0 ((tot : Nat) : Int) p2 ((i : Int), (j : Int), s) p3 (fun _ _ => no) K1) f = rec
      unfold Fz6.B1
      simp only [decT (show (m : Int) < (tot : Int) by omega), inB_nat hi, cond_true, Int.toNat_natCast, getD_lt hi, nat_pred (show o[i].length ≠ 0 by omega) (by omega), cl_eq (show Bd1 (o, (i : Int)) from h.bd), Option.bind_some]
      cases e : room o (i : Int) with
      | none => rw [decT (show encB none < 0 by simp [encB])]; rfl
      | some t =>
        obtain ⟨ht, hne, h6⟩ := hr t e
        have hne : t ≠ i := fun q => hne (by rw [q])
        rw [decF (show ¬ encB (some t) < 0 by rw [encB_some]; omega)]
        simp only [encB_some, cond_false, inB_nat ht, Int.toNat_natCast, inB_nat (show o[i].length - 1 < o[i].length by omega), cond_true, List.length_set, inB_nat hi, getD_set_neq hne, getD_lt hi, pathI, w64n (show m < 9223372036854775807 by omega)]
        rw [okS (by simp only [List.length_cons, List.length_nil]; omega), inW_true (by omega) (by omega) (by omega)]
        simp only [cond_true, decide_true, Bool.and_self, Int.sub_zero, Int.toNat_natCast, List.drop_zero]
        unfold moveTo
        rw [getD_lt hi]
    rw [step]
    unfold reach
    cases e : room o (i : Int) with
    | none => rfl
    | some t =>
      obtain ⟨ht, hne, h6⟩ := hr t e
      have hne : t ≠ i := fun q => hne (by rw [q])
      simp only
      rw [impl_reach_loop p0 tot s p2 p3 i j no K1 n f (moveTo o i t) (m + 1) (by omega) (moveTo_few h ht h6 hi) (by rw [moveTo_len]; exact hi) (by rw [moveTo_lane hi hne, List.length_take]; omega) (by omega) (by omega), show m + 1 + n = m + (n + 1) by omega]
theorem reach_ok (i : Nat) : ∀ (n : Nat) (o o' : List (List DS)) (j : Nat), Few o → i < o.length → (o.getD i []).length = j + 1 + n → reach i n o = some o' → Few o' ∧ o'.length = o.length ∧ (o'.getD i []).length = j + 1
  | 0, o, o', j, h, hi, hl, e => by
    unfold reach at e
    obtain rfl := Option.some.inj e
    exact ⟨h, rfl, hl⟩
  | n + 1, o, o', j, h, hi, hl, e => by
    unfold reach at e
    cases q : room o (i : Int) with
    | none => rw [q] at e; cases e
    | some t =>
      rw [q] at e
      obtain ⟨ht, hne, h6⟩ := room_ok o (i : Int) t q
      have hne : t ≠ i := fun q => hne (by rw [q])
      obtain ⟨h1, h2, h3⟩ := reach_ok i n (moveTo o i t) o' j (moveTo_few h ht h6 hi) (by rw [moveTo_len]; exact hi) (by rw [moveTo_lane hi hne, List.length_take]; omega) e
      exact ⟨h1, by rw [h2, moveTo_len], h3⟩
def reachOf (r : List (List DS)) (i j : Int) : Option (List (List DS) × DS × Int) :=
  (reach i.toNat ((r.getD i.toNat []).length - 1 - j.toNat) r).map fun o => (o.set i.toNat ((o.getD i.toNat []).take j.toNat), (o.getD i.toNat []).getD j.toNat dS, (((r.getD i.toNat []).length - 1 - j.toNat : Nat) : Int))
def PRe (x : List (List DS) × Int × Int) : Prop := Few x.1 ∧ isAt x.1 x.2.1 x.2.2 = true
def ansR (o : Option (List (List DS) × DS × Int)) : Ans := match o with
  | none => ([], dS, 0, 3)
  | some x => (x.1, x.2.1, x.2.2, 0)
theorem s_l04Reach : Fz67.S (cl PRe fun x => ansR (reachOf x.1 x.2.1 x.2.2)) := Fz67.of_cl s_l04Own s_l04Room fun x h k => by
  obtain ⟨r, i, j⟩ := x
  obtain ⟨hf, hat⟩ := h
  obtain ⟨n, m, hn, rfl, rfl, hm⟩ := isAt_true hat
  simp only at hf hn hm
  show Fz67.pf _ _ BIG r (n : Int) (m : Int) k = k (ansR (reachOf r n m))
  unfold Fz67.pf
  rw [cl_eq hf.bd, Option.bind_some]
  have h6 := hf.at hn
  have hlen : (r.getD n []).length = m + 1 + (r[n].length - 1 - m) := by rw [getD_lt hn]; omega
  rw [show ((0 : Int), r) = (((0 : Nat) : Int), r) from rfl, spec_reach_loop r dS n m _ _ (r[n].length - 1 - m) BIG r 0 (big_lt (by omega)) hf hn hlen (by omega)]
  unfold reachOf
  rw [Int.toNat_natCast, Int.toNat_natCast, getD_lt hn]
  cases e : reach n (r[n].length - 1 - m) r with
  | none => rfl
  | some o =>
    obtain ⟨h1, h2, h3⟩ := reach_ok n _ _ _ m hf hn hlen e
    have hno : n < o.length := by omega
    rw [getD_lt hno] at h3
    simp only [inB_nat hno, cond_true, Int.toNat_natCast, getD_lt hno, inB_nat (show m < o[n].length by omega), inW_true (show (0 : Int) ≤ 0 by omega) (show (0 : Int) ≤ (m : Int) by omega) (show (m : Int) ≤ (o[n].length : Int) by omega), pathI, decide_true, Bool.and_self, Int.sub_zero, List.drop_zero, Nat.zero_add, Option.map_some, ansR]
theorem s_reached : Fz6.S (cl (fun x => PRe (x.1, x.2.1, x.2.2.1)) fun x => match reachOf x.1 x.2.1 x.2.2.1 with | none => ([], dS, 0, false) | some y => (y.1, y.2.1, y.2.2, true)) := Fz6.of_cl s_cloned s_ahead s_roomiest fun x h k => by
  obtain ⟨r, i, j, s⟩ := x
  obtain ⟨hf, hat⟩ := h
  have hat0 := hat
  obtain ⟨n, m, hn, e1, e2, hm⟩ := isAt_true hat
  simp only at hf hn hm e1 e2 hat0
  subst e1 e2
  show Fz6.pf _ _ _ BIG r ((n : Int), (m : Int), s) k = k (match reachOf r (n : Int) (m : Int) with | none => ([], dS, 0, false) | some y => (y.1, y.2.1, y.2.2, true))
  unfold Fz6.pf
  rw [cl_eq hf.bd, Option.bind_some, cl_eq (show PAt (r, (n : Int), (m : Int), s) from ⟨hf.bd, hat0⟩), Option.bind_some]
  have h6 := hf.at hn
  have hlen : (r.getD n []).length = m + 1 + (r[n].length - 1 - m) := by rw [getD_lt hn]; omega
  simp only [Int.toNat_natCast]
  rw [show ((r.getD n []).length : Int) - 1 - (m : Int) = ((r[n].length - 1 - m : Nat) : Int) by rw [getD_lt hn]; omega, show ((0 : Int), r) = (((0 : Nat) : Int), r) from rfl, impl_reach_loop _ _ s r dS n m _ _ (r[n].length - 1 - m) BIG r 0 (big_lt (by omega)) hf hn hlen (by omega) (by omega)]
  unfold reachOf
  rw [Int.toNat_natCast, Int.toNat_natCast, getD_lt hn]
  cases e : reach n (r[n].length - 1 - m) r with
  | none => rfl
  | some o =>
    obtain ⟨h1, h2, h3⟩ := reach_ok n _ _ _ m hf hn hlen e
    have hno : n < o.length := by omega
    rw [getD_lt hno] at h3
    simp only [inB_nat hno, cond_true, Int.toNat_natCast, getD_lt hno, inB_nat (show m < o[n].length by omega), inW_true (show (0 : Int) ≤ 0 by omega) (show (0 : Int) ≤ (m : Int) by omega) (show (m : Int) ≤ (o[n].length : Int) by omega), pathI, decide_true, Bool.and_self, Int.sub_zero, List.drop_zero, Nat.zero_add, Option.map_some, ansR]
theorem s_eqInt64S : Fz26.S (cl PL1 fun x => decide (x.1 = x.2)) := Fz26.of_cl fun x h k => by
  obtain ⟨a, b⟩ := x
  have hl : a.length ≤ 1073741824 := h
  show Fz26.pf BIG a b k = k (decide (a = b))
  unfold Fz26.pf
  by_cases c : a.length = b.length
  · rw [show (((a.length : Nat) : Int) != ((b.length : Nat) : Int)) = false by simp [c], cond_false]
    have hz : (a.zip b).length = a.length := by simp [c]
    rw [iter_first (a.zip b) (fun i => (i : Int)) (fun p => !decide (p.1 = p.2)) (fun _ _ => k false) (k true) (x := 0) rfl (big_lt (by omega)) ?_ ?_, firstOr_const, any_eq a b c]
    · by_cases e : a = b <;> simp [e]
    · intro i hi rec
      have h1 : i < a.length := by omega
      have h2 : i < b.length := by omega
      unfold Fz26.B1
      rw [zip_at hi]
      simp only [decT (show (i : Int) < (a.length : Int) by omega), inB_nat h1, inB_nat h2, cond_true, Int.toNat_natCast, getD_lt h1, getD_lt h2, w64n (show i < 9223372036854775807 by omega)]
      by_cases e : a[i] = b[i]
      · rw [bneF e, decT e]; rfl
      · rw [bneT e, decF e]; rfl
    · intro rec
      unfold Fz26.B1
      rw [decF (by omega)]
      rfl
  · rw [show (((a.length : Nat) : Int) != ((b.length : Nat) : Int)) = true by simpa using fun q => c (by omega), cond_true]
    rw [decF (fun e => c (by rw [e]))]
def markI : Int → List Int → Int × List Int
  | k, [] => (k, [])
  | k, _ :: l => ((markI (IntKind.i64.wrap (k + 1)) l).1, k :: (markI (IntKind.i64.wrap (k + 1)) l).2)
def heldI : Int → List Int → Int
  | k, [] => k
  | k, x :: l => if x = k then heldI (IntKind.i64.wrap (k + 1)) l else -1
theorem held_markI : ∀ (l : List Int) (k : Int), heldI k (markI k l).2 = (markI k l).1
  | [], _ => rfl
  | x :: l, k => by
    unfold markI heldI
    rw [if_pos rfl]
    exact held_markI l _
theorem markI_len : ∀ (l : List Int) (k : Int), (markI k l).2.length = l.length
  | [], _ => rfl
  | x :: l, k => by unfold markI; simp [markI_len l]
theorem markI_fst : ∀ (l : List Int) (k : Int), 0 ≤ k → k + l.length ≤ 9223372036854775807 → (markI k l).1 = k + l.length
  | [], k, _, _ => by simp [markI]
  | x :: l, k, h0, h => by
    simp only [List.length_cons] at h ⊢
    unfold markI
    rw [w64 (n := k + 1) (by omega) (by omega)]
    simp only
    rw [markI_fst l _ (by omega) (by omega)]
    omega
theorem s_markInt64S : Fz32.S (cl PL1 fun x => markI x.2 x.1) := Fz32.of_cl fun x h k => by
  obtain ⟨l, n⟩ := x
  have hl : l.length ≤ 1073741824 := h
  show Fz32.pf BIG l n k = k (markI n l)
  unfold Fz32.pf
  refine (iter_list l (fun i (c : Int × List Int) => (c.1, (i : Int), c.2)) (fun r c => k ((markI c.1 r).1, c.2.take (l.length - r.length) ++ (markI c.1 r).2)) (fun i c => c.2.length = l.length) (c := (n, l)) rfl (big_lt (by omega)) rfl ?_ ?_).trans (by simp)
  · rintro i hi ⟨m, c⟩ rec h1 hrec
    simp only at h1
    have hc : i < c.length := by omega
    unfold Fz32.B1
    have e1 : l.length - (l.drop (i + 1)).length = i + 1 := by rw [List.length_drop]; omega
    have e2 : l.length - (l[i] :: l.drop (i + 1)).length = i := by rw [List.length_cons, List.length_drop]; omega
    simp only [decT (show (i : Int) < (c.length : Int) by omega), inB_nat hc, cond_true, Int.toNat_natCast, w64n (show i < 9223372036854775807 by omega)]
    refine (hrec (IntKind.i64.wrap (m + 1), c.set i m) (by simpa using h1)).trans ?_
    simp only [e1, e2, take_set hc, markI, List.append_assoc, List.cons_append, List.nil_append]
  · rintro ⟨m, c⟩ rec h1
    simp only at h1
    unfold Fz32.B1
    rw [decF (by simp only; omega)]
    simp only [cond_false, markI, List.length_nil, Nat.sub_zero, List.append_nil]
    rw [List.take_of_length_le (by omega)]
theorem s_heldInt64S : Fz30.S (cl PL1 fun x => heldI x.2 x.1) := Fz30.of_cl fun x h k => by
  obtain ⟨l, n⟩ := x
  have hl : l.length ≤ 1073741824 := h
  show Fz30.pf BIG l n k = k (heldI n l)
  unfold Fz30.pf
  refine iter_list l (fun i (c : Int) => (c, (i : Int))) (fun r c => k (heldI c r)) (fun i c => True) (c := n) rfl (big_lt (by omega)) trivial ?_ ?_
  · rintro i hi c rec _ hrec
    unfold Fz30.B1
    simp only [decT (show (i : Int) < (l.length : Int) by omega), inB_nat hi, cond_true, Int.toNat_natCast, getD_lt hi, w64n (show i < 9223372036854775807 by omega), heldI]
    by_cases q : l[i] = c
    · rw [bneF q, if_pos q]; exact hrec _ trivial
    · rw [bneT q, if_neg q]; rfl
  · rintro c rec _
    unfold Fz30.B1
    rw [decF (by simp only; omega)]
    rfl
theorem markR_fst : ∀ (l : List (List DS)) (k : Int), 0 ≤ k → k + 3 * (l.map List.length).sum ≤ 9223372036854775807 → (markR k l).1 = k + 3 * (l.map List.length).sum
  | [], k, _, _ => by simp [markR]
  | x :: l, k, h0, h => by
    simp only [List.map_cons, List.sum_cons] at h ⊢
    have e := markL_fst x k h0 (by omega)
    unfold markR
    simp only
    rw [e, markR_fst l _ (by omega) (by omega)]
    omega
def aheadIn (r : List (List DS)) (s : Spot) : Int := (r.getD s.1.toNat []).length - 1 - s.2.1
def nearer (r : List (List DS)) (x y : Spot) : Bool := decide (aheadIn r x < aheadIn r y ∨ aheadIn r x = aheadIn r y ∧ x.2.2.2 < y.2.2.2)
def inTime (last : Int) (s : Spot) : Bool := !decide (s.2.2.2 > last)
def updN (r : List (List DS)) (last : Int) (o : Option Spot) (s : Spot) : Option Spot := if s.2.2.2 > last then o else match o with
  | none => some s
  | some p => if nearer r s p = true then some s else some p
theorem updN_some (r : List (List DS)) (last : Int) : ∀ (l : List Spot) (m : Spot), l.foldl (updN r last) (some m) = some (minBy (nearer r) m (l.filter (inTime last)))
  | [], m => rfl
  | s :: l, m => by
    rw [List.foldl_cons, List.filter_cons]
    unfold updN
    by_cases c : s.2.2.2 > last
    · rw [if_pos c, if_neg (by simp [inTime, c])]
      exact updN_some r last l m
    · rw [if_neg c, if_pos (by simp [inTime]; omega), minBy]
      simp only
      by_cases d : nearer r s m = true
      · rw [if_pos d, if_pos d]; exact updN_some r last l s
      · rw [if_neg d, if_neg d]; exact updN_some r last l m
theorem updN_min (r : List (List DS)) (last : Int) : ∀ (l : List Spot), l.filter (inTime last) ≠ [] → l.foldl (updN r last) none = some (minOf (nearer r) (l.filter (inTime last)))
  | [], h => absurd rfl h
  | s :: l, h => by
    rw [List.foldl_cons]
    rw [List.filter_cons] at h ⊢
    unfold updN
    by_cases c : s.2.2.2 > last
    · rw [if_pos c]
      rw [if_neg (by simp [inTime, c])] at h ⊢
      exact updN_min r last l h
    · rw [if_neg c, if_pos (by simp [inTime]; omega)]
      exact updN_some r last l s
theorem minOf_mem (c : Spot → Spot → Bool) (l : List Spot) (h : l ≠ []) : minOf c l ∈ l := by
  match l, h with
  | s :: l, _ =>
    rcases minBy_mem c l s with e | e
    · show minBy c s l ∈ _; rw [e]; exact List.mem_cons_self ..
    · exact List.mem_cons_of_mem _ e
def chosen (r : List (List DS)) (slack : Int) (l : List Spot) : Spot := minOf (nearer r) (l.filter (inTime ((minOf older l).2.2.2 + slack)))
theorem some_inTime {l : List Spot} (h : l ≠ []) {slack : Int} (hs : 0 ≤ slack) : l.filter (inTime ((minOf older l).2.2.2 + slack)) ≠ [] := by
  intro e
  have := List.filter_eq_nil_iff.1 e _ (minOf_mem older l h)
  simp [inTime] at this
  omega
def wSpI (x : Spot × Int) : Prop := wSp x.1
theorem s_choice_1 : Fz3.S (cl wSpI fun x => decide (x.1.2.2.2 > x.2)) := Fz3.of_cl fun x h k => by
  obtain ⟨s, n⟩ := x
  obtain ⟨h1, h2⟩ := h
  simp only at h1 h2
  show Fz3.pf BIG s n k = _
  unfold Fz3.pf
  rw [w64 (by omega) (by omega)]
def wSps (x : List Spot × Int) : Prop := x.1.length ≤ 1073741824 ∧ ∀ s, s ∈ x.1 → wSp s
theorem s_index_ch : Fz51.S (cl wSps fun x => indexI (fun s => decide (s.2.2.2 > x.2)) x.1) := Fz51.of_cl s_choice_1 fun x h k => by
  obtain ⟨l, n⟩ := x
  obtain ⟨hl, hw⟩ := h
  simp only at hl hw
  show Fz51.pf _ BIG l n k = k (indexI (fun s => decide (s.2.2.2 > n)) l)
  unfold Fz51.pf
  rw [iter_first l (fun i => (i : Int)) (fun s => decide (s.2.2.2 > n)) (fun i _ => k (i : Int)) (k (-1)) (x := 0) rfl (big_lt (by omega)) ?_ ?_, firstOr_index]
  · unfold indexI
    congr 1
    cases l.findIdx? fun s => decide (s.2.2.2 > n) <;> simp
  · intro i hi rec
    unfold Fz51.B1
    simp only [decT (show (i : Int) < (l.length : Int) by omega), inB_nat hi, cond_true, Int.toNat_natCast, getD_lt hi, cl_eq (show wSpI (l[i], n) from hw _ (List.getElem_mem hi)), Option.bind_some, w64n (show i < 9223372036854775807 by omega)]
  · intro rec
    unfold Fz51.B1
    rw [decF (by omega)]
    rfl
def keptOf {β : Type} (d : β) (p : β → Bool) (l : List β) : Option (Nat × Nat) × List β :=
  if l.any p = true then (some (0, (l.filter fun x => !p x).length), (l.filter fun x => !p x) ++ List.replicate (l.length - (l.filter fun x => !p x).length) d) else (none, l)
theorem kept_cut {β : Type} (d : β) (p : β → Bool) (l : List β) : Win.cut (keptOf d p l).1 (keptOf d p l).2 = l.filter fun x => !p x := by
  unfold keptOf
  by_cases c : l.any p = true
  · rw [if_pos c]
    simp [Win.cut]
  · rw [if_neg c]
    symm
    show l.filter _ = l
    rw [List.filter_eq_self]
    intro x hx
    simp only [List.any_eq_true, not_exists, not_and, Bool.not_eq_true] at c
    simp [c x hx]
theorem s_delete_ch : Fz47.S (cl wSps fun x => keptOf (0, 0, dS) (fun s => decide (s.2.2.2 > x.2)) x.1) := Fz47.of_cl s_index_ch s_choice_1 fun x h k => by
  obtain ⟨l, n⟩ := x
  obtain ⟨hl, hw⟩ := h
  simp only at hl hw
  show Fz47.pf _ _ BIG l n k = k (keptOf (0, 0, dS) (fun s => decide (s.2.2.2 > n)) l)
  unfold Fz47.pf
  rw [cl_eq (show wSps (l, n) from ⟨hl, hw⟩), Option.bind_some]
  simp only
  generalize hp : (fun s : Spot => decide (s.2.2.2 > n)) = p
  unfold indexI keptOf
  cases hf : l.findIdx? p with
  | none =>
    have := List.findIdx?_eq_none_iff.1 hf
    rw [if_neg (by simpa using this)]
    rfl
  | some i =>
    obtain ⟨hi, hpi, hbef⟩ := List.findIdx?_eq_some_iff_getElem.1 hf
    rw [if_pos (List.any_eq_true.2 ⟨_, List.getElem_mem hi, hpi⟩)]
    simp only
    rw [beqF (by omega), cond_false, w64n (by omega)]
    have h0 : (l.take i).filter (fun x => !p x) = l.take i := by
      rw [List.filter_eq_self]
      intro x hx
      obtain ⟨j, hj, rfl⟩ := List.mem_iff_getElem.1 hx
      have hj' : j < i := by simp at hj; omega
      have := hbef j hj'
      simpa using this
    have h1 : (l.take (i + 1)).filter (fun x => !p x) = l.take i := by
      rw [List.take_succ_eq_append_getElem hi, List.filter_append, h0]
      simp [hpi]
    have := iter_fold (B := Fz47.B1 (cl wSpI fun x => decide (x.1.2.2.2 > x.2)) n fun (x1 : Int × Int × List Spot) => cond (inW x1.1 (((List.length x1.2.2) : Nat) : Int) (List.length x1.2.2)) (cond (inW 0 x1.1 (List.length (overL x1.2.2 x1.1.toNat (List.replicate ((((List.length x1.2.2) : Nat) : Int) - x1.1).toNat (0, (0, dS)))))) (k ((some (0, (x1.1 - 0).toNat)), (overL x1.2.2 x1.1.toNat (List.replicate ((((List.length x1.2.2) : Nat) : Int) - x1.1).toNat (0, (0, dS)))))) none) none)
      l (fun j (c : List Spot) => ((((l.take j).filter fun x => !p x).length : Int), (j : Int), c)) (fun _ _ => k (some (0, (l.filter fun x => !p x).length), (l.filter fun x => !p x) ++ List.replicate (l.length - (l.filter fun x => !p x).length) (0, 0, dS))) (fun j c => c.length = l.length ∧ c.drop j = l.drop j ∧ c.take ((l.take j).filter fun x => !p x).length = (l.take j).filter fun x => !p x) ?_ ?_ (l.length - (i + 1)) (i + 1) l BIG (by omega) (big_lt (by omega)) ⟨rfl, rfl, by rw [h1]; simp⟩
    · rw [h1, List.length_take, Nat.min_eq_left (by omega)] at this
      exact this
    · rintro j hj c rec ⟨e1, e2, e3⟩ hrec
      have hjc : j < c.length := by omega
      have hcj : c[j] = l[j] := by
        have := congrArg (fun z => z[0]?) e2
        simpa [hjc, hj] using this
      have hm : ((l.take j).filter fun x => !p x).length ≤ j := by
        have := List.length_filter_le (fun x => !p x) (l.take j)
        rw [List.length_take] at this
        omega
      have ht : (l.take (j + 1)).filter (fun x => !p x) = (l.take j).filter (fun x => !p x) ++ if p l[j] = true then [] else [l[j]] := by
        rw [List.take_succ_eq_append_getElem hj, List.filter_append]
        cases hq : p l[j] <;> simp [hq]
      unfold Fz47.B1
      simp only [e1, decT (show (j : Int) < (l.length : Int) by omega), inB_nat hj, cond_true, Int.toNat_natCast, getD_lt hjc, hcj, cl_eq (show wSpI (l[j], n) from hw _ (List.getElem_mem hj)), Option.bind_some, w64n (show j < 9223372036854775807 by omega)]
      have hpj : decide (l[j].2.2.2 > n) = p l[j] := by rw [← hp]
      rw [hpj]
      cases hq : p l[j] with
      | true =>
        rw [hq, if_pos rfl, List.append_nil] at ht
        have := hrec c ⟨e1, by
          have := congrArg (List.drop 1) e2
          simpa [List.drop_drop, Nat.add_comm] using this, by rw [ht]; exact e3⟩
        rw [ht] at this
        exact this
      | false =>
        rw [hq] at ht
        simp only [Bool.false_eq_true, if_false] at ht
        have hlen : ((l.take (j + 1)).filter fun x => !p x).length = ((l.take j).filter fun x => !p x).length + 1 := by rw [ht]; simp
        have hmc : ((l.take j).filter fun x => !p x).length < c.length := by omega
        have := hrec (c.set ((l.take j).filter fun x => !p x).length l[j]) ⟨by simpa using e1, by
          rw [List.drop_set_of_lt (by omega)]
          have := congrArg (List.drop 1) e2
          simpa [List.drop_drop, Nat.add_comm] using this, by
          rw [hlen, take_set hmc, e3, ht]⟩
        rw [hlen] at this
        simp only [Bool.not_false, cond_true, inB_nat (show ((l.take j).filter fun x => !p x).length < l.length by omega), w64n (show ((l.take j).filter fun x => !p x).length < 9223372036854775807 by omega)]
        exact this
    · rintro c rec ⟨e1, e2, e3⟩
      have eT : l.take l.length = l := List.take_of_length_le (Nat.le_refl _)
      rw [eT] at e3
      simp only [eT]
      have hm := List.length_filter_le (fun x => !p x) l
      unfold Fz47.B1
      rw [decF (by simp only; omega)]
      simp only [cond_false, e1]
      rw [inW_true (by omega) (by omega) (by omega), cond_true]
      have e4 : overL c (((l.filter fun x => !p x).length : Nat) : Int).toNat (List.replicate ((((l.length : Nat) : Int)) - (((l.filter fun x => !p x).length : Nat) : Int)).toNat (0, (0, dS))) = (l.filter fun x => !p x) ++ List.replicate (l.length - (l.filter fun x => !p x).length) (0, 0, dS) := by
        unfold overL
        rw [Int.toNat_natCast, e3, List.drop_eq_nil_of_le (by simp; omega), List.append_nil]
        congr 2
        omega
      rw [e4, inW_true (by omega) (by omega) (by simp; omega), cond_true]
      congr 3
def wSpR (x : Spot × Spot × List (List DS)) : Prop := Bd x.2.2 ∧ SpotIn x.2.2 x.1 ∧ SpotIn x.2.2 x.2.1 ∧ wSp x.1 ∧ wSp x.2.1
theorem spot_at {r : List (List DS)} {s : Spot} (h : SpotIn r s) : isAt r s.1 s.2.1 = true := by
  obtain ⟨i, j, hi, hj, rfl⟩ := h
  unfold isAt isIn
  simp only [Int.toNat_natCast, getD_lt hi]
  simp
  omega
theorem ahead_small {r : List (List DS)} (hb : Bd r) {s : Spot} (h : SpotIn r s) : 0 ≤ aheadIn r s ∧ aheadIn r s ≤ 1073741824 := by
  obtain ⟨i, j, hi, hj, rfl⟩ := h
  have := hb.at hi
  unfold aheadIn
  simp only [Int.toNat_natCast, getD_lt hi]
  omega
theorem s_choice_2 : Fz4.S (cl wSpR fun x => if aheadIn x.2.2 x.1 - aheadIn x.2.2 x.2.1 ≠ 0 then aheadIn x.2.2 x.1 - aheadIn x.2.2 x.2.1 else x.1.2.2.2 - x.2.1.2.2.2) := Fz4.of_cl s_ahead fun x h k => by
  obtain ⟨x, y, r⟩ := x
  obtain ⟨hb, h1, h2, ⟨h3, h4⟩, h5, h6⟩ := h
  simp only at hb h1 h2 h3 h4 h5 h6
  have a1 := ahead_small hb h1
  have a2 := ahead_small hb h2
  show Fz4.pf _ BIG x y r k = _
  unfold Fz4.pf
  rw [cl_eq (show PAt (r, x) from ⟨hb, spot_at h1⟩), cl_eq (show PAt (r, y) from ⟨hb, spot_at h2⟩)]
  simp only [Option.bind_some]
  show cond (IntKind.i64.wrap (aheadIn r x - aheadIn r y) != 0) (k (IntKind.i64.wrap (aheadIn r x - aheadIn r y))) _ = _
  rw [w64 (n := aheadIn r x - aheadIn r y) (by omega) (by omega), w64 (n := x.2.2.2) (by omega) (by omega), w64 (n := y.2.2.2) (by omega) (by omega), w64 (by omega) (by omega)]
  by_cases c : aheadIn r x - aheadIn r y = 0
  · rw [bneF c, if_neg (fun q => q c)]; rfl
  · rw [bneT c, if_pos c]; rfl
def PSpsR (x : List Spot × List (List DS)) : Prop := Bd x.2 ∧ x.1 ≠ [] ∧ x.1.length ≤ 1073741824 ∧ (∀ s, s ∈ x.1 → wSp s) ∧ ∀ s, s ∈ x.1 → SpotIn x.2 s
theorem s_minChoice : Fz53.S (cl PSpsR fun x => minOf (nearer x.2) x.1) := Fz53.of_cl s_choice_2 fun x h k => by
  obtain ⟨l, r⟩ := x
  obtain ⟨hb, h0, h1, h2, h3⟩ := h
  simp only at hb h0 h1 h2 h3
  have hl : 0 < l.length := List.length_pos_iff.2 h0
  show Fz53.pf _ BIG l r k = k (minOf (nearer r) l)
  unfold Fz53.pf minOf
  rw [decF (by omega), cond_false, inB_true (by omega) (by omega), cond_true]
  refine (iter_list (l.drop 1) (fun p (c : Spot) => ((p : Int) + 1, c)) (fun q c => k (minBy (nearer r) c q)) (fun p c => c ∈ l) (c := l.getD 0 (0, 0, dS)) (by simp) (big_lt (by simp; omega)) (by rw [getD_lt hl]; exact List.getElem_mem _) ?_ ?_)
  · rintro p hp c rec hc hrec
    have hp' : p + 1 < l.length := by simp at hp; omega
    unfold Fz53.B1
    have ei : ((p : Int) + 1) = ((p + 1 : Nat) : Int) := rfl
    have eg : (l.drop 1)[p] = l[p + 1] := by simp [Nat.add_comm]
    have hm : l[p + 1] ∈ l := List.getElem_mem _
    simp only [eg, ei, decT (show ((p + 1 : Nat) : Int) < (l.length : Int) by omega), inB_nat hp', cond_true, Int.toNat_natCast, getD_lt hp', w64n (show p + 1 < 9223372036854775807 by omega), minBy]
    rw [cl_eq (show wSpR (l[p + 1], c, r) from ⟨hb, h3 _ hm, h3 _ hc, h2 _ hm, h2 _ hc⟩), Option.bind_some]
    simp only
    have key : decide ((if aheadIn r l[p + 1] - aheadIn r c ≠ 0 then aheadIn r l[p + 1] - aheadIn r c else l[p + 1].2.2.2 - c.2.2.2) < 0) = nearer r l[p + 1] c := by
      unfold nearer
      apply decide_eq_decide.2
      split <;> omega
    rw [key]
    cases q : nearer r l[p + 1] c with
    | true => rw [cond_true, if_pos rfl]; exact hrec _ hm
    | false => rw [cond_false, if_neg (by simp)]; exact hrec _ hc
  · rintro c rec _
    unfold Fz53.B1
    rw [decF (by simp; omega)]
    simp [minBy]
def PCh (x : List (List DS) × DB × Int) : Prop := wR x.1 ∧ 0 ≤ x.2.2 ∧ x.2.2 ≤ 2000
def choiceV (r : List (List DS)) (b : DB) (slack : Int) : Spot × Bool := if (spotsR b 0 r).length = 0 then ((0, 0, dS), false) else (chosen r slack (spotsR b 0 r), true)
theorem s_impl_choice : Fz2.S (cl PCh fun x => choiceV x.1 x.2.1 x.2.2) := Fz2.of_cl s_spots s_oldest s_delete_ch s_minChoice fun x h k => by
  obtain ⟨r, b, n⟩ := x
  obtain ⟨hw, hn0, hn1⟩ := h
  simp only at hw hn0 hn1
  show Fz2.pf _ _ _ _ BIG r b n k = k (choiceV r b n)
  unfold Fz2.pf choiceV
  rw [cl_eq (show Bd1 (r, b) from hw.1)]
  simp only [Option.bind_some]
  by_cases c : (spotsR b 0 r).length = 0
  · rw [beqT (by omega), if_pos c]; rfl
  · have hne : spotsR b 0 r ≠ [] := fun e => c (by rw [e]; rfl)
    have h2 := spotsR_len b r 0
    have h3 := hw.1
    unfold Bd at h3
    have hws : ∀ s, s ∈ spotsR b 0 r → wSp s := fun s hs => spot_w hw (spots_in hs)
    rw [beqF (by omega), if_neg c, cond_false, cl_eq (show PSps (spotsR b 0 r) from ⟨hne, by omega, hws⟩)]
    simp only [Option.bind_some]
    have ho := hws _ (minOf_mem older _ hne)
    obtain ⟨ho1, ho2⟩ := ho
    rw [w64 (n := (minOf older (spotsR b 0 r)).2.2.2) (by omega) (by omega), w64 (by omega) (by omega), cl_eq (show wSps (spotsR b 0 r, (minOf older (spotsR b 0 r)).2.2.2 + n) from ⟨by simp only; omega, hws⟩)]
    simp only [Option.bind_some, kept_cut]
    have hfl := List.length_filter_le (fun s : Spot => !decide (s.2.2.2 > (minOf older (spotsR b 0 r)).2.2.2 + n)) (spotsR b 0 r)
    rw [cl_eq (show PSpsR ((spotsR b 0 r).filter (fun s => !decide (s.2.2.2 > (minOf older (spotsR b 0 r)).2.2.2 + n)), r) from ⟨hw.1, some_inTime hne hn0, by simp only; omega, fun s hs => hws s (List.mem_filter.1 hs).1, fun s hs => spots_in (List.mem_filter.1 hs).1⟩)]
    rfl
def encC (r : List (List DS)) (p0 : Spot) : Option Spot → Int × Int × Bool × Int
  | none => (p0.1, p0.2.1, false, 0)
  | some p => (p.1, p.2.1, true, aheadIn r p)
theorem encC_some (r : List (List DS)) (p0 p : Spot) : encC r p0 (some p) = (p.1, p.2.1, true, aheadIn r p) := rfl
theorem updN_in {r : List (List DS)} {last : Int} {o : Option Spot} {s : Spot} (ho : InO r o) (hs : SpotIn r s) : InO r (updN r last o s) := by
  intro p hp
  unfold updN at hp
  split at hp
  · exact ho p hp
  · split at hp
    · obtain rfl := Option.some.inj hp; exact hs
    · split at hp
      · obtain rfl := Option.some.inj hp; exact hs
      · exact ho p hp
theorem foldN_in {r : List (List DS)} {last : Int} : ∀ (l : List Spot) (o : Option Spot), InO r o → (∀ s, s ∈ l → SpotIn r s) → InO r (l.foldl (updN r last) o)
  | [], o, h, _ => h
  | s :: l, o, h, hs => foldN_in l _ (updN_in h (hs s (by simp))) (fun x hx => hs x (List.mem_cons_of_mem _ hx))
def tailC (c : Int × Int × Bool × Int) (n : Int) : Int × Int × Bool × Int × Int := (c.1, c.2.1, c.2.2.1, c.2.2.2, n)
theorem spec_choice2 {α : Type} (r : List (List DS)) (b : DB) (last : Int) (p0 : Spot) (hw : wR r) (i : Nat) (hi : i < r.length) (o : Option Spot) (ho : InO r o) (K : Int × Int × Bool × Int × Int → Option α) :
    iter (Fz61.B2 last (i : Int) r b K) BIG (tailC (encC r p0 o) 0) = K (tailC (encC r p0 ((spotsL b i 0 r[i]).foldl (updN r last) o)) (r[i].length : Int)) := by
  have hl := hw.1.at hi
  refine (iter_list r[i] (fun p (c : Option Spot) => tailC (encC r p0 c) (p : Int)) (fun q c => K (tailC (encC r p0 ((spotsL b i (r[i].length - q.length) q).foldl (updN r last) c)) (r[i].length : Int))) (fun p c => InO r c) (c := o) rfl (big_lt (by omega)) ho ?_ ?_).trans (by simp)
  · rintro p hp c rec hc hrec
    have e1 : r[i].length - (r[i].drop (p + 1)).length = p + 1 := by rw [List.length_drop]; omega
    have e2 : r[i].length - (r[i][p] :: r[i].drop (p + 1)).length = p := by rw [List.length_cons, List.length_drop]; omega
    have hs : SpotIn r ((i : Int), (p : Int), r[i][p]) := ⟨i, p, hi, hp, rfl⟩
    obtain ⟨hd1, hd2⟩ := spot_w hw hs
    simp only at hd1 hd2
    have ha : IntKind.i64.wrap (IntKind.i64.wrap ((r[i].length : Int) - 1) - (p : Int)) = aheadIn r ((i : Int), (p : Int), r[i][p]) := by
      rw [w64 (n := (r[i].length : Int) - 1) (by omega) (by omega), w64 (by omega) (by omega)]
      unfold aheadIn
      simp only [Int.toNat_natCast, getD_lt hi]
    unfold Fz61.B2 tailC
    simp only [inB_nat hi, decT (show (p : Int) < (r[i].length : Int) by omega), cond_true, Int.toNat_natCast, getD_lt hi, inB_nat hp, getD_lt hp, eqB, w64n (show p < 9223372036854775807 by omega), w64 (n := r[i][p].2) (by omega) (by omega), ha, e2, spotsL]
    have skip : rec (tailC (encC r p0 c) ((p + 1 : Nat) : Int)) = K (tailC (encC r p0 ((spotsL b i (p + 1) (r[i].drop (p + 1))).foldl (updN r last) c)) (r[i].length : Int)) := by
      refine (hrec _ hc).trans ?_
      rw [e1]
    have put : rec (tailC (encC r p0 (some ((i : Int), (p : Int), r[i][p]))) ((p + 1 : Nat) : Int)) = K (tailC (encC r p0 ((spotsL b i (p + 1) (r[i].drop (p + 1))).foldl (updN r last) (some ((i : Int), (p : Int), r[i][p])))) (r[i].length : Int)) := by
      refine (hrec _ (fun z hz => by obtain rfl := Option.some.inj hz; exact hs)).trans ?_
      rw [e1]
    by_cases q : r[i][p].1 = b
    · rw [decT q, if_pos q, Bool.not_true, cond_false, List.foldl_cons]
      by_cases d : r[i][p].2 > last
      · rw [decT d, cond_true]
        have : updN r last c ((i : Int), (p : Int), r[i][p]) = c := by unfold updN; rw [if_pos d]
        rw [this]
        exact skip
      · rw [decF d, cond_false]
        cases c with
        | none =>
          have : updN r last none ((i : Int), (p : Int), r[i][p]) = some ((i : Int), (p : Int), r[i][p]) := by unfold updN; rw [if_neg d]
          rw [this]
          exact put
        | some m =>
          obtain ⟨i', j', hi', hj', rfl⟩ := hc m rfl
          have hu : updN r last (some ((i' : Int), (j' : Int), r[i'][j'])) ((i : Int), (p : Int), r[i][p]) = if nearer r ((i : Int), (p : Int), r[i][p]) ((i' : Int), (j' : Int), r[i'][j']) = true then some ((i : Int), (p : Int), r[i][p]) else some ((i' : Int), (j' : Int), r[i'][j']) := by unfold updN; rw [if_neg d]
          rw [hu, encC_some]
          simp only [Bool.not_true, cond_false]
          by_cases f1 : aheadIn r ((i : Int), (p : Int), r[i][p]) < aheadIn r ((i' : Int), (j' : Int), r[i'][j'])
          · rw [decT f1, if_pos (by unfold nearer; exact decT (.inl f1)), cond_true]
            exact put
          · rw [decF f1, cond_false]
            by_cases f2 : aheadIn r ((i : Int), (p : Int), r[i][p]) = aheadIn r ((i' : Int), (j' : Int), r[i'][j'])
            · rw [beqT f2, cond_true]
              simp only [inB_nat hi', cond_true, Int.toNat_natCast, getD_lt hi', inB_nat hj', getD_lt hj']
              by_cases f3 : r[i][p].2 < r[i'][j'].2
              · rw [decT f3, if_pos (by unfold nearer; exact decT (.inr ⟨f2, f3⟩)), cond_true]
                exact put
              · rw [decF f3, if_neg (by unfold nearer; simp only [decide_eq_true_eq]; omega), cond_false]
                exact skip
            · rw [beqF f2, cond_false, if_neg (by unfold nearer; simp only [decide_eq_true_eq]; omega)]
              exact skip
    · rw [decF q, if_neg q, Bool.not_false, cond_true]
      exact skip
  · rintro c rec _
    unfold Fz61.B2 tailC
    simp only [inB_nat hi, cond_true, Int.toNat_natCast, getD_lt hi]
    rw [decF (by omega)]
    simp [spotsL]
def choiceS (r : List (List DS)) (b : DB) (slack : Int) : Int × Int := if (spotsR b 0 r).length = 0 then (-1, 0) else ((chosen r slack (spotsR b 0 r)).1, (chosen r slack (spotsR b 0 r)).2.1)
theorem s_l04Choice : Fz61.S (cl PCh fun x => choiceS x.1 x.2.1 x.2.2) := Fz61.of_cl s_l04Oldest fun x h k => by
  obtain ⟨r, b, n⟩ := x
  obtain ⟨hw, hn0, hn1⟩ := h
  simp only at hw hn0 hn1
  have hl := hw.1.len
  show Fz61.pf _ BIG r b n k = k (choiceS r b n)
  unfold Fz61.pf choiceS
  rw [cl_eq (show Bd1 (r, b) from hw.1)]
  simp only [Option.bind_some]
  by_cases c : spotsR b 0 r = []
  · rw [c]
    simp only [List.foldl_nil, List.length_nil, if_true]
    rfl
  · rw [updO_min _ c, if_neg (fun e => c (List.eq_nil_of_length_eq_zero e))]
    have hmem := minOf_mem older _ c
    obtain ⟨i0, j0, hi0, hj0, he⟩ := spots_in hmem
    have hd := spot_w hw (spots_in hmem)
    obtain ⟨hd1, hd2⟩ := hd
    generalize hp0 : minOf older (spotsR b 0 r) = p0 at *
    subst he
    simp only at hd1 hd2
    simp only [encO_some, decF (show ¬ ((i0 : Int) < 0) by omega), cond_false, inB_nat hi0, Int.toNat_natCast, getD_lt hi0, inB_nat hj0, getD_lt hj0, cond_true, w64 (n := r[i0][j0].2) (by omega) (by omega), w64 (n := r[i0][j0].2 + n) (by omega) (by omega)]
    have key := (iter_list r (fun p (c : Option Spot) => tailC (encC r ((i0 : Int), (j0 : Int), r[i0][j0]) c) (p : Int)) (fun q c => k ((encC r ((i0 : Int), (j0 : Int), r[i0][j0]) ((spotsR b (r.length - q.length) q).foldl (updN r (r[i0][j0].2 + n)) c)).1, (encC r ((i0 : Int), (j0 : Int), r[i0][j0]) ((spotsR b (r.length - q.length) q).foldl (updN r (r[i0][j0].2 + n)) c)).2.1)) (fun p c => InO r c) (B := Fz61.B1 BIG (r[i0][j0].2 + n) r b fun (x1 : Int × Int × Bool × Int × Int) => k (x1.1, x1.2.1)) (x := ((i0 : Int), (j0 : Int), false, 0, 0)) (c := none) rfl (fuel := BIG) (big_lt (by omega)) (fun p hp => by cases hp) ?_ ?_)
    · refine key.trans ?_
      rw [Nat.sub_self, updN_min r _ _ (by have := some_inTime c hn0 (slack := n); rw [hp0] at this; exact this)]
      unfold chosen
      rw [hp0]
      rfl
    · rintro p hp c rec hc hrec
      have e1 : r.length - (r.drop (p + 1)).length = p + 1 := by rw [List.length_drop]; omega
      have e2 : r.length - (r[p] :: r.drop (p + 1)).length = p := by rw [List.length_cons, List.length_drop]; omega
      unfold Fz61.B1
      have e3 : ((tailC (encC r ((i0 : Int), (j0 : Int), r[i0][j0]) c) (p : Int)).1, (tailC (encC r ((i0 : Int), (j0 : Int), r[i0][j0]) c) (p : Int)).2.1, (tailC (encC r ((i0 : Int), (j0 : Int), r[i0][j0]) c) (p : Int)).2.2.1, (tailC (encC r ((i0 : Int), (j0 : Int), r[i0][j0]) c) (p : Int)).2.2.2.1, (0 : Int)) = tailC (encC r ((i0 : Int), (j0 : Int), r[i0][j0]) c) 0 := rfl
      rw [e3]
      have e4 : (tailC (encC r ((i0 : Int), (j0 : Int), r[i0][j0]) c) (p : Int)).2.2.2.2 = (p : Int) := rfl
      rw [e4, decT (show (p : Int) < (r.length : Int) by omega), cond_true, spec_choice2 r b _ _ hw p hp c hc, w64n (show p < 9223372036854775807 by omega)]
      simp only [e2, spotsR, List.foldl_append]
      refine (hrec _ (foldN_in _ _ hc (fun s hs => ?_))).trans ?_
      · obtain ⟨n, hn, e⟩ := spotsL_in b _ _ _ s hs
        exact ⟨p, n, hp, hn, by rw [e]; simp⟩
      · simp only [e1]
    · rintro c rec _
      unfold Fz61.B1
      rw [decF (by simp [tailC])]
      simp [spotsR, tailC]
theorem s_l04Slack : Fz69.S (tot fun n => decide (0 ≤ n) && decide (n ≤ 2000)) := Fz69.of_tot s_l00In fun n k => by
  unfold Fz69.pf
  rfl
theorem s_isSlack : Fz18.S (tot fun n => decide (0 ≤ n) && decide (n ≤ 2000)) := Fz18.of_tot s_within fun n k => by
  unfold Fz18.pf
  rfl
def isSlackB (n : Int) : Bool := decide (0 ≤ n) && decide (n ≤ 2000)
def PTk (x : List (List DS) × List DB × Int) : Prop := wR x.1 ∧ x.2.1.length ≤ 1073741824 ∧ ∀ b, b ∈ x.2.1 → wB b
def takenOf (r : List (List DS)) (l : List DB) (n : Int) : Int := codeOf (validR r && l.all validB) (isSlackB n)
theorem s_l04Taken : Fz72.S (cl PTk fun x => takenOf x.1 x.2.1 x.2.2) := Fz72.of_cl s_l04Ok s_l01Bottle s_l04Slack fun x h k => by
  obtain ⟨r, l, n⟩ := x
  obtain ⟨hw, hl, hb⟩ := h
  simp only at hw hl hb
  show Fz72.pf _ _ _ BIG r l n k = k (takenOf r l n)
  unfold Fz72.pf takenOf
  rw [cl_eq hw, Option.bind_some]
  cases validR r with
  | false => rfl
  | true =>
    simp only [Bool.not_true, cond_false, Bool.true_and]
    rw [iter_first l (fun i => (i : Int)) (fun s => !validB s) (fun _ _ => k 1) (k (cond (isSlackB n) 0 2)) (x := 0) rfl (big_lt (by omega)) ?_ ?_, firstOr_const, any_not]
    · cases l.all validB <;> rfl
    · intro i hi rec
      unfold Fz72.B1
      simp only [decT (show (i : Int) < (l.length : Int) by omega), inB_nat hi, cond_true, Int.toNat_natCast, getD_lt hi, cl_eq (hb _ (List.getElem_mem hi)), Option.bind_some, w64n (show i < 9223372036854775807 by omega)]
    · intro rec
      unfold Fz72.B1
      rw [decF (by omega)]
      simp only [cond_false, tot_eq, Option.bind_some]
      show cond (!isSlackB n) _ _ = _
      cases isSlackB n <;> rfl
theorem isSlack_true {n : Int} (h : isSlackB n = true) : 0 ≤ n ∧ n ≤ 2000 := by
  unfold isSlackB at h
  simpa using h
theorem chosen_in {r : List (List DS)} {b : DB} {n : Int} (h : spotsR b 0 r ≠ []) (hn : 0 ≤ n) : SpotIn r (chosen r n (spotsR b 0 r)) := spots_in (List.mem_filter.1 (minOf_mem _ _ (some_inTime h hn))).1

def taken (r : List (List DS)) (b : DB) (n : Int) : Ans := if (spotsR b 0 r).length = 0 then ([], dS, 0, 6) else ansR (reachOf r (chosen r n (spotsR b 0 r)).1 (chosen r n (spotsR b 0 r)).2.1)
def PTa (x : List (List DS) × DB × Int) : Prop := (wR x.1 ∧ 0 ≤ x.2.2 ∧ x.2.2 ≤ 2000) ∧ Few x.1
theorem s_l04Take : Fz71.S (cl PTa fun x => taken x.1 x.2.1 x.2.2) := Fz71.of_cl s_l04Choice s_l04Reach fun x h k => by
  obtain ⟨r, b, n⟩ := x
  obtain ⟨hc, hf⟩ := h
  have hn0 : 0 ≤ n := hc.2.1
  show Fz71.pf _ _ BIG r b n k = k (taken r b n)
  unfold Fz71.pf taken
  rw [cl_eq (show PCh (r, b, n) from hc), Option.bind_some]
  unfold choiceS
  by_cases d : (spotsR b 0 r).length = 0
  · simp only [if_pos d]; rfl
  · simp only [if_neg d]
    have hin := chosen_in (r := r) (b := b) (n := n) (fun q => d (by rw [q]; rfl)) hn0
    have hat := spot_at hin
    obtain ⟨i, j, hi, hj, e⟩ := hin
    rw [decF (by rw [e]; simp only; omega), cond_false, cl_eq (show PRe (r, (chosen r n (spotsR b 0 r)).1, (chosen r n (spotsR b 0 r)).2.1) from ⟨hf, hat⟩)]
    rfl
theorem s_impl_taken : Fz9.S (cl PTa fun x => taken x.1 x.2.1 x.2.2) := Fz9.of_cl s_impl_choice s_reached fun x h k => by
  obtain ⟨r, b, n⟩ := x
  obtain ⟨hc, hf⟩ := h
  have hn0 : 0 ≤ n := hc.2.1
  show Fz9.pf _ _ BIG r b n k = k (taken r b n)
  unfold Fz9.pf taken
  rw [cl_eq (show PCh (r, b, n) from hc), Option.bind_some]
  unfold choiceV
  by_cases d : (spotsR b 0 r).length = 0
  · simp only [if_pos d]; rfl
  · simp only [if_neg d]
    have hin := chosen_in (r := r) (b := b) (n := n) (fun q => d (by rw [q]; rfl)) hn0
    have hat := spot_at hin
    rw [Bool.not_true, cond_false, cl_eq (P := fun x : List (List DS) × Spot => PRe (x.1, x.2.1, x.2.2.1)) (x := (r, chosen r n (spotsR b 0 r))) ⟨hf, hat⟩, Option.bind_some]
    simp only
    cases reachOf r (chosen r n (spotsR b 0 r)).1 (chosen r n (spotsR b 0 r)).2.1 <;> rfl
theorem s_szBottleS : Fz35.S (cl (fun x => x.1.length ≤ maxLen ∧ 0 ≤ x.2 ∧ x.2 ≤ 1048576) fun x => if x.2 < x.1.length then -1 else x.2 - x.1.length) :=
  Fz35.of_cl fun x ⟨h1, h2, h3⟩ k => by
    unfold maxLen at h1
    unfold Fz35.pf
    rw [w64 (by omega) (by omega)]
    by_cases c : x.2 < x.1.length
    · rw [decT (by omega), if_pos c]; rfl
    · rw [decF (by omega), if_neg c]; rfl
def PszB (x : List DB × Int) : Prop := x.1.length ≤ maxLen ∧ 0 ≤ x.2 ∧ x.2 ≤ 1048576
def vszB (x : List DB × Int) : Int := if x.2 < x.1.length then -1 else x.2 - x.1.length
theorem s_szBottleS' : Fz35.S (cl PszB vszB) := s_szBottleS
theorem s_toBottleS : Fz39.S (cl PL fun l => l) := Fz39.of_cl s_toBottle fun l h k => by
  have h : l.length ≤ 1073741824 := h
  unfold Fz39.pf
  rw [inW_true (by omega) (by omega) (by unfold LIM; omega)]
  simp only [cond_true]
  refine (iter_list (B := Fz39.B1 (tot fun x => x) l fun x1 => k x1.2) l (fun i (c : List DB) => ((i : Int), c)) (fun _ _ => k l) (fun i c => c.length = l.length ∧ c.take i = l.take i) (c := List.replicate l.length (0, 0)) (by simp) (big_lt (by omega)) (by simp) ?_ ?_)
  · rintro i hi c rec ⟨h1, h2⟩ hrec
    unfold Fz39.B1
    simp only [decT (show (i : Int) < (l.length : Int) by omega), inB_nat hi, inB_nat (h1 ▸ hi : i < c.length), cond_true, Int.toNat_natCast, getD_lt hi, tot_eq, Option.bind_some, w64n (show i < 9223372036854775807 by omega)]
    have := copied (d := ((0, 0) : DB)) hi h1 h2
    exact hrec _ ⟨this.2, this.1⟩
  · rintro c rec ⟨h1, h2⟩
    unfold Fz39.B1
    rw [decF (by omega)]
    rw [List.take_of_length_le (by omega), List.take_of_length_le (Nat.le_refl _)] at h2
    simp only [cond_false, h2]
theorem s_eqBottleS : Fz25.S (cl PL1 fun x => decide (x.1 = x.2)) := Fz25.of_cl s_eqBottle fun x h k => by
  obtain ⟨a, b⟩ := x
  have h : a.length ≤ 1073741824 := h
  show Fz25.pf _ BIG a b k = k (decide (a = b))
  unfold Fz25.pf
  by_cases c : a.length = b.length
  · rw [show (((a.length : Nat) : Int) != ((b.length : Nat) : Int)) = false by simp [c], cond_false]
    have hz : (a.zip b).length = a.length := by simp [c]
    rw [iter_first (a.zip b) (fun i => (i : Int)) (fun p => !decide (p.1 = p.2)) (fun _ _ => k false) (k true) (x := 0) rfl (big_lt (by omega)) ?_ ?_, firstOr_const, any_eq a b c]
    · by_cases e : a = b <;> simp [e]
    · intro i hi rec
      have h1 : i < a.length := by omega
      have h2 : i < b.length := by omega
      unfold Fz25.B1
      rw [zip_at hi]
      simp only [decT (show (i : Int) < (a.length : Int) by omega), inB_nat h1, inB_nat h2, cond_true, Int.toNat_natCast, getD_lt h1, getD_lt h2, tot_eq, Option.bind_some, w64n (show i < 9223372036854775807 by omega)]
    · intro rec
      unfold Fz25.B1
      rw [decF (by omega)]
      rfl
  · rw [show (((a.length : Nat) : Int) != ((b.length : Nat) : Int)) = true by simpa using fun q => c (by omega), cond_true]
    rw [decF (fun e => c (by rw [e]))]
def markB : Int → List DB → Int × List DB
  | k, [] => (k, [])
  | k, _ :: l => ((markB (IntKind.i64.wrap (IntKind.i64.wrap (k + 1) + 1)) l).1, (IntKind.u8.wrap k, IntKind.i16.wrap (IntKind.i64.wrap (k + 1))) :: (markB (IntKind.i64.wrap (IntKind.i64.wrap (k + 1) + 1)) l).2)
theorem markB_fst : ∀ (l : List DB) (k : Int), 0 ≤ k → k + 2 * l.length ≤ 9223372036854775807 → (markB k l).1 = k + 2 * l.length
  | [], k, _, _ => by simp [markB]
  | x :: l, k, h0, h => by
    simp only [List.length_cons] at h ⊢
    unfold markB
    rw [w64 (n := k + 1) (by omega) (by omega), w64 (n := k + 1 + 1) (by omega) (by omega)]
    simp only
    rw [markB_fst l _ (by omega) (by omega)]
    omega
theorem s_markBottleS : Fz31.S (cl PL1 fun x => markB x.2 x.1) := Fz31.of_cl fun x h k => by
  obtain ⟨l, n⟩ := x
  have h : l.length ≤ 1073741824 := h
  show Fz31.pf BIG l n k = k (markB n l)
  unfold Fz31.pf
  refine (iter_list l (fun i (c : Int × List DB) => (c.1, (i : Int), c.2)) (fun r c => k ((markB c.1 r).1, c.2.take (l.length - r.length) ++ (markB c.1 r).2)) (fun i c => c.2.length = l.length) (c := (n, l)) rfl (big_lt (by omega)) rfl ?_ ?_).trans (by simp)
  · rintro i hi ⟨m, c⟩ rec h1 hrec
    simp only at h1
    have hc : i < c.length := by omega
    unfold Fz31.B1
    have e1 : l.length - (l.drop (i + 1)).length = i + 1 := by rw [List.length_drop]; omega
    have e2 : l.length - (l[i] :: l.drop (i + 1)).length = i := by rw [List.length_cons, List.length_drop]; omega
    simp only [decT (show (i : Int) < (c.length : Int) by omega), inB_nat hc, cond_true, Int.toNat_natCast, List.length_set, List.set_set, setD_same hc, w64n (show i < 9223372036854775807 by omega)]
    refine (hrec (IntKind.i64.wrap (IntKind.i64.wrap (m + 1) + 1), c.set i (IntKind.u8.wrap m, IntKind.i16.wrap (IntKind.i64.wrap (m + 1)))) (by simpa using h1)).trans ?_
    simp only [e1, e2, take_set hc, markB, List.append_assoc, List.cons_append, List.nil_append]
  · rintro ⟨m, c⟩ rec h1
    simp only at h1
    unfold Fz31.B1
    rw [decF (by simp only; omega)]
    simp only [cond_false, markB, List.length_nil, Nat.sub_zero, List.append_nil]
    rw [List.take_of_length_le (by omega)]
def wBs (l : List DB) : Prop := l.length ≤ 1073741824 ∧ ∀ b, b ∈ l → wB b
theorem s_areBottles_1 : Fz16.S (cl wB fun s => !validB s) := Fz16.of_cl s_ValidBottle fun x h k => by
  unfold Fz16.pf
  rw [cl_eq h]; rfl
theorem s_index_ab : Fz48.S (cl wBs fun l => indexI (fun s => !validB s) l) :=
  Fz48.of_cl s_areBottles_1 fun x h k => by
  have hl : x.length ≤ 1073741824 := h.1
  unfold Fz48.pf
  rw [iter_first x (fun i => (i : Int)) (fun s => !validB s) (fun i _ => k (i : Int)) (k (-1)) (x := 0) rfl (big_lt (by omega)) ?_ ?_, firstOr_index]
  · unfold indexI
    congr 1
    cases x.findIdx? fun s => !validB s <;> simp
  · intro i hi rec
    unfold Fz48.B1
    simp only [decT (show (i : Int) < (x.length : Int) by omega), inB_nat hi, cond_true, Int.toNat_natCast, getD_lt hi, cl_eq (h.2 _ (List.getElem_mem hi)), Option.bind_some, w64n (show i < 9223372036854775807 by omega)]
  · intro rec
    unfold Fz48.B1
    rw [decF (by omega)]
    rfl
theorem s_contains_ab : Fz43.S (cl wBs fun l => !l.all validB) :=
  Fz43.of_cl s_index_ab fun x h k => by
  unfold Fz43.pf
  rw [cl_eq h, Option.bind_some, indexI_nn, any_not]
theorem s_areBottles : Fz15.S (cl wBs fun l => l.all validB) := Fz15.of_cl s_contains_ab fun x h k => by
  unfold Fz15.pf
  rw [cl_eq h, Option.bind_some, Bool.not_not]
def AllIn (Q : DS → Prop) (o : List (List DS)) : Prop := ∀ l, l ∈ o → ∀ s, s ∈ l → Q s
theorem AllIn.set {Q : DS → Prop} {o : List (List DS)} (h : AllIn Q o) {n : Nat} {x : List DS} (hx : ∀ s, s ∈ x → Q s) : AllIn Q (o.set n x) := fun l hl s hs => by
  rcases List.mem_or_eq_of_mem_set hl with q | rfl
  · exact h l q s hs
  · exact hx s hs
theorem AllIn.at {Q : DS → Prop} {o : List (List DS)} (h : AllIn Q o) {n : Nat} (hn : n < o.length) : ∀ s, s ∈ o.getD n [] → Q s := fun s hs => by
  rw [getD_lt hn] at hs
  exact h _ (List.getElem_mem hn) s hs
theorem moveTo_all {Q : DS → Prop} {o : List (List DS)} {i t : Nat} (h : AllIn Q o) (hi : i < o.length) (ht : t < o.length) (hl : 0 < (o.getD i []).length) : AllIn Q (moveTo o i t) := by
  unfold moveTo
  refine (h.set fun s hs => ?_).set fun s hs => h.at hi s (List.mem_of_mem_take hs)
  rcases List.mem_append.1 hs with q | q
  · exact h.at ht s q
  · obtain rfl := List.mem_singleton.1 q
    have hlt : (o.getD i []).length - 1 < (o.getD i []).length := by omega
    rw [getD_lt hlt]
    exact h.at hi _ (List.getElem_mem hlt)
theorem reach_all {Q : DS → Prop} (i : Nat) : ∀ (n : Nat) (o o' : List (List DS)) (j : Nat), AllIn Q o → i < o.length → (o.getD i []).length = j + 1 + n → reach i n o = some o' → AllIn Q o'
  | 0, o, o', j, h, hi, hl, e => by
    unfold reach at e
    obtain rfl := Option.some.inj e
    exact h
  | n + 1, o, o', j, h, hi, hl, e => by
    unfold reach at e
    cases q : room o (i : Int) with
    | none => rw [q] at e; cases e
    | some t =>
      rw [q] at e
      obtain ⟨ht, hne, h6⟩ := room_ok o (i : Int) t q
      have hne : t ≠ i := fun q => hne (by rw [q])
      exact reach_all i n (moveTo o i t) o' j (moveTo_all h hi ht (by omega)) (by rw [moveTo_len]; exact hi) (by rw [moveTo_lane hi hne, List.length_take]; omega) e
theorem taken_ok {r : List (List DS)} {b : DB} {n : Int} (hw : wR r) (hf : Few r) (hn : 0 ≤ n) (hc : (taken r b n).2.2.2 = 0) : Few (taken r b n).1 ∧ wR (taken r b n).1 ∧ 0 ≤ (taken r b n).2.2.1 ∧ (taken r b n).2.2.1 ≤ 6 := by
  unfold taken at hc ⊢
  by_cases d : (spotsR b 0 r).length = 0
  · rw [if_pos d] at hc; simp at hc
  · rw [if_neg d] at hc ⊢
    have hat := spot_at (chosen_in (r := r) (b := b) (n := n) (fun q => d (by rw [q]; rfl)) hn)
    generalize (chosen r n (spotsR b 0 r)).1 = i at hc hat ⊢
    generalize (chosen r n (spotsR b 0 r)).2.1 = j at hc hat ⊢
    obtain ⟨a, m, ha, rfl, rfl, hm⟩ := isAt_true hat
    unfold reachOf at hc ⊢
    rw [Int.toNat_natCast, Int.toNat_natCast, getD_lt ha] at hc ⊢
    have h6 := hf.at ha
    have hlen : (r.getD a []).length = m + 1 + (r[a].length - 1 - m) := by rw [getD_lt ha]; omega
    cases e : reach a (r[a].length - 1 - m) r with
    | none => rw [e] at hc; simp [ansR] at hc
    | some o =>
      obtain ⟨h1, h2, h3⟩ := reach_ok a _ _ _ m hf ha hlen e
      have h4 := reach_all (Q := wS) a _ _ _ m hw.2 ha hlen e
      have hao : a < o.length := by omega
      have hF : Few (o.set a ((o.getD a []).take m)) := h1.set (by rw [List.length_take]; have := h1.at hao; rw [getD_lt hao]; omega)
      refine ⟨hF, ⟨hF.bd, h4.set fun s hs => h4.at hao s (List.mem_of_mem_take hs)⟩, ?_⟩
      simp only [Option.map_some, ansR]
      omega
def eachL (n : Int) : List DB → List (List DS) → List DS → Int → List (List DS) × List DS × Int × Int
  | [], o, out, mv => (o, out, mv, 0)
  | b :: q, o, out, mv => if (taken o b n).2.2.2 ≠ 0 then ([], [], 0, (taken o b n).2.2.2) else eachL n q (taken o b n).1 (out ++ [(taken o b n).2.1]) (mv + (taken o b n).2.2.1)
def PEa (x : List (List DS) × List DB × List Int × Int) : Prop := wR x.1 ∧ Few x.1 ∧ (0 ≤ x.2.2.2 ∧ x.2.2.2 ≤ 2000) ∧ x.2.2.1.length ≤ 1000 ∧ ∀ i, i ∈ x.2.2.1 → 0 ≤ i ∧ i < x.2.1.length
def OkE (p : Nat) (c : Int × List (List DS) × List DS) : Prop := wR c.2.1 ∧ Few c.2.1 ∧ 0 ≤ c.1 ∧ c.1 ≤ 6 * p ∧ c.2.2.length = p
theorem s_l04Each : Fz62.S (cl PEa fun x => eachL x.2.2.2 (x.2.2.1.map fun i => x.2.1.getD i.toNat (0, 0)) x.1 [] 0) := Fz62.of_cl s_l04Own s_l04Take fun x h k => by
  obtain ⟨r, l, ord, n⟩ := x
  obtain ⟨hw, hf, hn, ho, hi⟩ := h
  simp only at hw hf hn ho hi
  show Fz62.pf _ _ BIG r l ord n k = k (eachL n (ord.map fun i => l.getD i.toNat (0, 0)) r [] 0)
  unfold Fz62.pf
  rw [cl_eq hw.1, Option.bind_some]
  refine iter_list ord (fun p (c : Int × List (List DS) × List DS) => (c.1, (p : Int), c.2.1, c.2.2)) (fun q c => k (eachL n (q.map fun i => l.getD i.toNat (0, 0)) c.2.1 c.2.2 c.1)) OkE (c := (0, r, [])) rfl (big_lt (by omega)) ⟨hw, hf, by simp, by simp, rfl⟩ ?_ ?_
  · rintro p hp ⟨mv, o, out⟩ rec ⟨h1, h2, h3, h4, h5⟩ hrec
    simp only at h1 h2 h3 h4 h5
    obtain ⟨hi0, hi1⟩ := hi _ (List.getElem_mem hp)
    unfold Fz62.B1
    simp only [decT (show (p : Int) < (ord.length : Int) by omega), inB_nat hp, cond_true, Int.toNat_natCast, getD_lt hp, inB_true hi0 hi1, cl_eq (show PTa (o, l.getD (ord[p]).toNat (0, 0), n) from ⟨⟨h1, hn.1, hn.2⟩, h2⟩), Option.bind_some, w64n (show p < 9223372036854775807 by omega), List.map_cons, eachL]
    by_cases c : (taken o (l.getD (ord[p]).toNat (0, 0)) n).2.2.2 = 0
    · obtain ⟨g1, g2, g3, g4⟩ := taken_ok h1 h2 hn.1 c
      rw [bneF c, if_neg (fun e => e c), cond_false, okS (by simp; omega), w64 (by omega) (by omega), cond_true]
      exact hrec (_, _, _) ⟨g2, g1, by simp only; omega, by simp only; omega, by simp [h5]⟩
    · rw [bneT c, if_pos c]; rfl
  · rintro ⟨mv, o, out⟩ rec _
    unfold Fz62.B1
    rw [decF (by simp)]
    rfl
def PTE (x : List (List DS) × List DB × Int) : Prop := wR x.1 ∧ Few x.1 ∧ (0 ≤ x.2.2 ∧ x.2.2 ≤ 2000) ∧ x.2.1.length ≤ 1000
theorem s_takenEach : Fz10.S (cl PTE fun x => eachL x.2.2 x.2.1 x.1 [] 0) := Fz10.of_cl s_cloned s_impl_taken fun x h k => by
  obtain ⟨r, l, n⟩ := x
  obtain ⟨hw, hf, hn, ho⟩ := h
  simp only at hw hf hn ho
  show Fz10.pf _ _ BIG r l n k = k (eachL n l r [] 0)
  unfold Fz10.pf
  rw [cl_eq hw.1, Option.bind_some]
  refine iter_list l (fun p (c : Int × List (List DS) × List DS) => (c.1, (p : Int), c.2.1, c.2.2)) (fun q c => k (eachL n q c.2.1 c.2.2 c.1)) OkE (c := (0, r, [])) rfl (big_lt (by omega)) ⟨hw, hf, by simp, by simp, rfl⟩ ?_ ?_
  · rintro p hp ⟨mv, o, out⟩ rec ⟨h1, h2, h3, h4, h5⟩ hrec
    simp only at h1 h2 h3 h4 h5
    unfold Fz10.B1
    simp only [decT (show (p : Int) < (l.length : Int) by omega), inB_nat hp, cond_true, Int.toNat_natCast, getD_lt hp, cl_eq (show PTa (o, l[p], n) from ⟨⟨h1, hn.1, hn.2⟩, h2⟩), Option.bind_some, w64n (show p < 9223372036854775807 by omega), eachL]
    by_cases c : (taken o l[p] n).2.2.2 = 0
    · obtain ⟨g1, g2, g3, g4⟩ := taken_ok h1 h2 hn.1 c
      rw [bneF c, if_neg (fun e => e c), cond_false, okS (by simp; omega), w64 (by omega) (by omega), cond_true]
      exact hrec (_, _, _) ⟨g2, g1, by simp only; omega, by simp only; omega, by simp [h5]⟩
    · rw [bneT c, if_pos c]; rfl
  · rintro ⟨mv, o, out⟩ rec _
    unfold Fz10.B1
    rw [decF (by simp)]
    rfl
def PTEa (x : List (List DS) × List DB × Int) : Prop := wR x.1 ∧ wBs x.2.1
def gB (l : List DB) : Prop := l.length ≤ maxLen ∧ ∀ b, b ∈ l → wB b
theorem good_Bs {e : TypeId} {l : List DB} (h : goodV (.row e (.st (.pair (.int .u8) (.int .i16)))) l) : gB l := by
  obtain ⟨h1, h2⟩ := h
  refine ⟨h1, fun s hs => ?_⟩
  obtain ⟨i, hi, rfl⟩ := List.mem_iff_getElem.1 hs
  have := h2 i hi
  rw [getD_lt hi] at this
  exact good_B this
theorem szB_ok {l : List DB} {n : Int} (h : ¬ vszB (l, n) < 0) (h1 : n ≤ 1048576) : l.length ≤ 1048576 := by
  unfold vszB at h
  simp only at h
  by_cases c : n < l.length
  · rw [if_pos c] at h; omega
  · omega

theorem s_l00OwnI : Fz58.S (cl PL fun l => l) := Fz58.of_cl fun l h k => by
  have h : l.length ≤ 1073741824 := h
  unfold Fz58.pf
  rw [okS (by simp; omega)]
  rfl
theorem contains_any (l : List Int) (v : Int) : (l.any fun y => y == v) = l.contains v := by
  rw [List.contains_eq_any_beq]
  congr 1
  funext y
  rw [Bool.eq_iff_iff, beq_iff_eq, beq_iff_eq]
  exact eq_comm
theorem s_l00HasI : Fz56.S (cl PL1 fun x => x.1.contains x.2) := Fz56.of_cl fun x h k => by
  obtain ⟨l, v⟩ := x
  have h : l.length ≤ 1073741824 := h
  show Fz56.pf BIG l v k = k (l.contains v)
  unfold Fz56.pf
  rw [iter_first l (fun i => (i : Int)) (fun y => y == v) (fun _ _ => k true) (k false) (x := 0) rfl (big_lt (by omega)) ?_ ?_, firstOr_const, contains_any]
  · cases l.contains v <;> rfl
  · intro i hi rec
    unfold Fz56.B1
    simp only [decT (show (i : Int) < (l.length : Int) by omega), inB_nat hi, cond_true, Int.toNat_natCast, getD_lt hi, w64n (show i < 9223372036854775807 by omega)]
  · intro rec
    unfold Fz56.B1
    rw [decF (by omega)]
    rfl
theorem s_IndexI : Fz52.S (cl PL1 fun x => indexI (fun y => x.2 == y) x.1) := Fz52.of_cl fun x h k => by
  obtain ⟨l, v⟩ := x
  have hl : l.length ≤ 1073741824 := h
  show Fz52.pf BIG l v k = k (indexI (fun y => v == y) l)
  unfold Fz52.pf
  rw [iter_first l (fun i => (i : Int)) (fun y => v == y) (fun i _ => k (i : Int)) (k (-1)) (x := 0) rfl (big_lt (by omega)) ?_ ?_, firstOr_index]
  · unfold indexI
    congr 1
    cases l.findIdx? fun y => v == y <;> simp
  · intro i hi rec
    unfold Fz52.B1
    simp only [decT (show (i : Int) < (l.length : Int) by omega), inB_nat hi, cond_true, Int.toNat_natCast, getD_lt hi, w64n (show i < 9223372036854775807 by omega)]
  · intro rec
    unfold Fz52.B1
    rw [decF (by omega)]
    rfl
theorem s_ContainsI : Fz46.S (cl PL1 fun x => x.1.contains x.2) := Fz46.of_cl s_IndexI fun x h k => by
  obtain ⟨l, v⟩ := x
  show Fz46.pf _ BIG l v k = k (l.contains v)
  unfold Fz46.pf
  rw [cl_eq (show PL1 (l, v) from h), Option.bind_some, indexI_nn, List.contains_eq_any_beq]
abbrev ordL := Go.Proofs.ordF
theorem ordL_len (n : Nat) : ∀ (d : Nat) (L : List Int), (ordL n d L).length ≤ n ^ d
  | 0, L => by simp [ordL, Go.Proofs.ordF]
  | d + 1, L => by
    show ((List.range n).flatMap _).length ≤ _
    rw [List.length_flatMap]
    have key : ∀ q : List Nat, (q.map fun i : Nat => (if L.contains (i : Int) then [] else Go.Proofs.ordF n d (L ++ [(i : Int)])).length).sum ≤ q.length * n ^ d := by
      intro q
      induction q with
      | nil => simp
      | cons i q ih =>
        have h1 : (if L.contains (i : Int) then [] else Go.Proofs.ordF n d (L ++ [(i : Int)])).length ≤ n ^ d := by
          split
          · simp
          · exact ordL_len n d _
        simp only [List.map_cons, List.sum_cons, List.length_cons, Nat.add_mul, Nat.one_mul]
        omega
    have := key (List.range n)
    rw [List.length_range] at this
    rw [Nat.pow_succ, Nat.mul_comm]
    exact this
theorem ordL_mem (n : Nat) : ∀ (d : Nat) (L : List Int), (∀ x, x ∈ L → 0 ≤ x ∧ x < (n : Int)) → ∀ o, o ∈ ordL n d L → o.length = L.length + d ∧ ∀ x, x ∈ o → 0 ≤ x ∧ x < (n : Int)
  | 0, L, h, o, ho => by
    obtain rfl := List.mem_singleton.1 ho
    exact ⟨rfl, h⟩
  | d + 1, L, h, o, ho => by
    have ho : o ∈ (List.range n).flatMap fun (i : Nat) => if L.contains (i : Int) then [] else Go.Proofs.ordF n d (L ++ [(i : Int)]) := ho
    obtain ⟨i, hi, ho⟩ := List.mem_flatMap.1 ho
    have hi := List.mem_range.1 hi
    split at ho
    · cases ho
    · obtain ⟨h1, h2⟩ := ordL_mem n d (L ++ [(i : Int)]) (fun x hx => by
        rcases List.mem_append.1 hx with q | q
        · exact h x q
        · obtain rfl := List.mem_singleton.1 q
          omega) o ho
      rw [List.length_append, List.length_singleton] at h1
      exact ⟨by omega, h2⟩
def vOrd (x : Int × List Int) : List (List Int) := ordL x.1.toNat (x.1.toNat - x.2.length) x.2
def PO (d : Nat) (x : Int × List Int) : Prop := 0 ≤ x.1 ∧ x.1 ≤ 5 ∧ (x.2.length : Int) ≤ x.1 ∧ x.1 ≤ (x.2.length : Int) + d
theorem pow5 {n d : Nat} (hn : n ≤ 5) (hd : d ≤ 5) : n ^ d ≤ 3125 :=
  Nat.le_trans (Nat.pow_le_pow_left hn d) (Nat.le_trans (Nat.pow_le_pow_right (by omega) hd) (by decide))
theorem orders_pf {α : Type} (f : Int × List Int → Option (List (List Int))) (d : Nat) (x : Int × List Int) (h : PO d x) (hf : ∀ y, y.1 = x.1 → y.2.length = x.2.length + 1 → (x.2.length : Int) < x.1 → f y = some (vOrd y)) (k : List (List Int) → Option α) :
    Fz65.pf (cl PL fun l => l) (cl PL1 fun x => x.1.contains x.2) f BIG x.1 x.2 k = k (vOrd x) := by
  obtain ⟨n, L⟩ := x
  obtain ⟨h0, h5, h1, h2⟩ := h
  simp only at h0 h5 h1 h2 hf
  obtain ⟨n, rfl⟩ := Int.eq_ofNat_of_zero_le h0
  have hpl : PL L := by show L.length ≤ 1073741824; omega
  unfold Fz65.pf vOrd
  simp only [Int.toNat_natCast]
  by_cases c : L.length = n
  · rw [beqT (show (L.length : Int) = (n : Int) by omega), cond_true, cl_eq hpl, Option.bind_some, show n - L.length = 0 by omega]
    rfl
  · obtain ⟨e, he⟩ : ∃ e, n - L.length = e + 1 := ⟨n - L.length - 1, by omega⟩
    rw [beqF (show (L.length : Int) ≠ (n : Int) by omega), cond_false, he]
    refine (iter_list (List.range n) (fun i (c : List (List Int)) => ((i : Int), c)) (fun q c => k (c ++ q.flatMap fun (i : Nat) => if L.contains (i : Int) then [] else ordL n e (L ++ [(i : Int)]))) (fun i c => c.length ≤ 3125 * i) (c := []) rfl (big_lt (by simp; omega)) (by simp) ?_ ?_).trans (by rw [List.nil_append]; rfl)
    · rintro i hi c' rec hc hrec
      have hi : i < n := by simpa using hi
      have hL := ordL_len n e (L ++ [(i : Int)])
      have h35 := pow5 (n := n) (d := e) (by omega) (by omega)
      unfold Fz65.B1
      simp only [List.getElem_range]
      rw [decT (show (i : Int) < (n : Int) by omega), cond_true, cl_eq (show PL1 (L, (i : Int)) from hpl), Option.bind_some, w64n (show i < 9223372036854775807 by omega)]
      simp only
      rw [List.flatMap_cons]
      by_cases q : L.contains (i : Int) = true
      · rw [q, Bool.not_true, cond_false, if_pos rfl, List.nil_append]
        exact hrec _ (by omega)
      · rw [if_neg q, Bool.eq_false_iff.2 q, Bool.not_false, cond_true, cl_eq hpl, Option.bind_some, okS (by simp; omega), cond_true, hf ((n : Int), L ++ [(i : Int)]) rfl (by simp) (by omega), Option.bind_some]
        have ev : vOrd ((n : Int), L ++ [(i : Int)]) = ordL n e (L ++ [(i : Int)]) := by
          unfold vOrd
          simp only [Int.toNat_natCast, List.length_append, List.length_singleton]
          rw [show n - (L.length + 1) = e by omega]
        rw [ev, okS (by omega), cond_true, ← List.append_assoc]
        exact hrec _ (by rw [List.length_append]; omega)
    · rintro c' rec _
      unfold Fz65.B1
      rw [decF (by simp)]
      simp
theorem s_Orders0 : Fz65.S (fun _ => none) := Sound.never ⟨Try.f81, by kernel_rfl, by decide, by decide⟩ fun _ => rfl
theorem s_Orders1 : Fz65.S (cl (PO 0) vOrd) := Fz65.of_cl s_l00OwnI s_l00HasI s_Orders0 fun x h k => orders_pf _ 0 x h (fun y h1 h2 h3 => by have := h.2.2.2; simp at this; omega) k
theorem s_Orders2 : Fz65.S (cl (PO 1) vOrd) := Fz65.of_cl s_l00OwnI s_l00HasI s_Orders1 fun x h k => orders_pf _ 1 x h (fun y h1 h2 h3 => cl_eq (show PO 0 y from ⟨by rw [h1]; exact h.1, by rw [h1]; exact h.2.1, by omega, by have := h.2.2.2; omega⟩)) k
theorem s_Orders3 : Fz65.S (cl (PO 2) vOrd) := Fz65.of_cl s_l00OwnI s_l00HasI s_Orders2 fun x h k => orders_pf _ 2 x h (fun y h1 h2 h3 => cl_eq (show PO 1 y from ⟨by rw [h1]; exact h.1, by rw [h1]; exact h.2.1, by omega, by have := h.2.2.2; omega⟩)) k
theorem s_Orders4 : Fz65.S (cl (PO 3) vOrd) := Fz65.of_cl s_l00OwnI s_l00HasI s_Orders3 fun x h k => orders_pf _ 3 x h (fun y h1 h2 h3 => cl_eq (show PO 2 y from ⟨by rw [h1]; exact h.1, by rw [h1]; exact h.2.1, by omega, by have := h.2.2.2; omega⟩)) k
theorem s_Orders5 : Fz65.S (cl (PO 4) vOrd) := Fz65.of_cl s_l00OwnI s_l00HasI s_Orders4 fun x h k => orders_pf _ 4 x h (fun y h1 h2 h3 => cl_eq (show PO 3 y from ⟨by rw [h1]; exact h.1, by rw [h1]; exact h.2.1, by omega, by have := h.2.2.2; omega⟩)) k
theorem s_Orders : Fz65.S (cl (PO 5) vOrd) := Fz65.of_cl s_l00OwnI s_l00HasI s_Orders5 fun x h k => orders_pf _ 5 x h (fun y h1 h2 h3 => cl_eq (show PO 4 y from ⟨by rw [h1]; exact h.1, by rw [h1]; exact h.2.1, by omega, by have := h.2.2.2; omega⟩)) k
theorem Sound.post {P : Program} {W : World} {f : FuncId} {A B : Type} {dec : List AV → Option A} {fn : A → Option B} {enc : List AV → B → Res} (S : Sound P f (mkSig [] dec fn enc)) {avs : List AV} {vs : List Value} (h : All2 (EntryOk W) avs vs) {x : A} (hd : dec avs = some x) {b : B} (hx : fn x = some b) (hgo : GO W []) :
    Calls P f vs.toArray W fun e W' => ∃ gh v, e = .returned v ∧ Post (mkSig [] dec fn enc) avs W gh [] (enc avs b) v W' := by
  obtain ⟨gh, hR⟩ := entry_R h hgo
  have := S.does avs (enc avs b) (by simp only [mkSig, hd, hx]; rfl) vs W gh [] hR
  refine this.mono (fun e w' he => ?_)
  cases e with
  | returned v => exact ⟨gh, v, rfl, he⟩
  | panicked _ => exact he.elim
  | outgrown => exact he.elim
theorem slots_all2 {w0 w' : World} {MB : Out} {xs : List SV} {objs : List (Option Ob)} {g : Gh} {vs : List Value} (Rc : R xs.length w0 MB ⟨xs, objs⟩ g ⟨vs.toArray, []⟩ w') : All2 (SRel objs g) xs vs := by
  have t1 := Rc.tm
  simp only [List.size_toArray] at t1
  refine ⟨t1.symm, fun i x y hx hy => ?_⟩
  have hi := (List.getElem?_eq_some_iff.1 hx).1
  have := Rc.slots i hi
  rw [List.getD_eq_getElem?_getD, hx] at this
  rw [show vs.toArray.getD i undef = y by
    have hi2 := (List.getElem?_eq_some_iff.1 hy).1
    have e := (List.getElem?_eq_some_iff.1 hy).2
    simp [hi2, e]] at this
  exact this
theorem below_of {w0 w' : World} (fr : Fr [] w0 w') : Go.RowKit.Below w0.heap.size w0 w' := ⟨fr.os, fr.tape.1, fr.output, fr.size, fun k hk => fr.block k hk List.not_mem_nil⟩
theorem outs_cons {base : Nat} {objs : List (Option Ob)} {names : List (Option Nat)} {xs : List SV} {ks : List Nat} {v : RV} {l : List RV} (h : outsOf base objs names xs ks = some (v :: l)) :
    ∃ x r k, xs = x :: r ∧ outOf base objs names x = some (v, k) ∧ outsOf base objs names r (k ++ ks) = some l := by
  cases xs with
  | nil => simp [outsOf] at h
  | cons x r =>
    unfold outsOf at h
    split at h
    · rename_i v' k hv
      split at h
      · split at h
        · rename_i l' hl
          simp only [Option.some.injEq, List.cons.injEq] at h
          obtain ⟨rfl, rfl⟩ := h
          exact ⟨x, r, k, rfl, hv, hl⟩
        · cases h
      · cases h
    · cases h
theorem outs_nil {base : Nat} {objs : List (Option Ob)} {names : List (Option Nat)} {xs : List SV} {ks : List Nat} (h : outsOf base objs names xs ks = some []) : xs = [] := by
  cases xs with
  | nil => rfl
  | cons x r =>
    unfold outsOf at h
    split at h
    · split at h
      · split at h <;> simp at h
      · cases h
    · cases h
theorem out_val {base : Nat} {objs : List (Option Ob)} {names : List (Option Nat)} {x : SV} {t : Ty} {y : t.den} {k : List Nat} (h : outOf base objs names x = some (.val t y, k)) : x = .val t y := by
  unfold outOf at h
  split at h
  · rename_i t' y'
    split at h
    · simp only [Option.some.injEq, Prod.mk.injEq, RV.val.injEq] at h
      obtain ⟨⟨rfl, h2⟩, _⟩ := h
      rw [eq_of_heq h2]
    · cases h
  · simp at h
  · split at h
    · split at h
      · split at h
        · simp only [] at h
          split at h <;> simp at h
        · split at h <;> simp at h
      · cases h
    · cases h
  · cases h
theorem Sound.tup4 {P : Program} {W : World} {f : FuncId} {A B : Type} {dec : List AV → Option A} {fn : A → Option B} {enc : List AV → B → Res} (S : Sound P f (mkSig [] dec fn enc)) {c1 c2 : B → Cont} {a1 a2 : B → Int}
    (henc : ∀ avs r, enc avs r = ⟨[.own (c1 r), .own (c2 r), .val (.int .i64) (a1 r), .val (.int .i64) (a2 r)], []⟩) {avs : List AV} {vs : List Value} (h : All2 (EntryOk W) avs vs) {x : A} (hd : dec avs = some x) {b : B} (hx : fn x = some b) (hgo : GO W []) :
    Calls P f vs.toArray W fun e W' => ∃ p q, e = .returned (.tuple #[p, q, .int .i64 (a1 b), .int .i64 (a2 b)]) ∧ Go.RowKit.Below W.heap.size W W' := by
  refine (Sound.post S h hd hx hgo).mono fun e W' ⟨gh, v, he, objs', g', xs', vs', Rc, hou, _, hv⟩ => ?_
  rw [henc] at hou
  obtain ⟨x0, r0, k0, rfl, _, hou⟩ := outs_cons hou
  obtain ⟨x1, r1, k1, rfl, _, hou⟩ := outs_cons hou
  obtain ⟨x2, r2, k2, rfl, o2, hou⟩ := outs_cons hou
  obtain ⟨x3, r3, k3, rfl, o3, hou⟩ := outs_cons hou
  obtain rfl := outs_nil hou
  obtain rfl := out_val o2
  obtain rfl := out_val o3
  have hall := slots_all2 Rc
  match vs', hall with
  | [v0, v1, v2, v3], hall =>
    have e2 := (hall.2 2 _ _ rfl rfl).2.2
    have e3 := (hall.2 3 _ _ rfl rfl).2.2
    refine ⟨v0, v1, ?_, below_of Rc.frame⟩
    rw [he, hv, e2, e3]
    rfl
  | [], hall => have := hall.1; simp at this
  | [_], hall => have := hall.1; simp at this
  | [_, _], hall => have := hall.1; simp at this
  | [_, _, _], hall => have := hall.1; simp at this
  | _ :: _ :: _ :: _ :: _ :: _, hall => have := hall.1; simp at this
theorem Sound.int2 {P : Program} {W : World} {f : FuncId} {A : Type} {dec : List AV → Option A} {fn : A → Option Int} {enc : List AV → Int → Res} (S : Sound P f (mkSig [] dec fn enc)) (henc : ∀ avs r, enc avs r = ⟨[.val (.int .i64) r], []⟩) {avs : List AV} {vs : List Value} (h : All2 (EntryOk W) avs vs) {x : A} (hd : dec avs = some x) {b : Int} (hx : fn x = some b) (hgo : GO W []) :
    Calls P f vs.toArray W fun e W' => e = .returned (.int .i64 b) ∧ Go.RowKit.Below W.heap.size W W' := by
  refine (Sound.post S h hd hx hgo).mono fun e W' ⟨gh, v, he, objs', g', xs', vs', Rc, hou, _, hv⟩ => ?_
  rw [henc] at hou
  obtain ⟨x0, r0, k0, rfl, o2, hou⟩ := outs_cons hou
  obtain rfl := outs_nil hou
  obtain rfl := out_val o2
  have hall := slots_all2 Rc
  match vs', hall with
  | [v0], hall =>
    have e2 := (hall.2 0 _ _ rfl rfl).2.2
    refine ⟨?_, below_of Rc.frame⟩
    rw [he, hv, e2]
    rfl
  | [], hall => have := hall.1; simp at this
  | _ :: _ :: _, hall => have := hall.1; simp at this
def OwnV (w : World) (B : Nat) (e : TypeId) (t : Ty) (l : List t.den) (v : Value) : Prop :=
  ∃ (L : Hdr × (Nat → t.loc)) (A : Option Addr) (c : Nat), v = .slice A l.length c ∧ memH w true (.row e t) none l L ∧ (∀ b, b ∈ blks true (.row e t) none l L → B ≤ b) ∧ l.length ≤ c ∧ c ≤ L.1.cap ∧ (0 < c → A = L.1.A)
theorem Sound.own1 {P : Program} {W : World} {f : FuncId} {A B : Type} {dec : List AV → Option A} {fn : A → Option B} {enc : List AV → B → Res} (S : Sound P f (mkSig [] dec fn enc)) {e1 : TypeId} {t : Ty} {l : B → List t.den}
    (henc : ∀ avs r, enc avs r = ⟨[.own ⟨e1, t, l r⟩], []⟩) {avs : List AV} {vs : List Value} (h : All2 (EntryOk W) avs vs) {x : A} (hd : dec avs = some x) {b : B} (hx : fn x = some b) (hgo : GO W []) :
    Calls P f vs.toArray W fun e W' => ∃ v, e = .returned v ∧ OwnV W' W.heap.size e1 t (l b) v ∧ Go.RowKit.Below W.heap.size W W' := by
  refine (Sound.post S h hd hx hgo).mono fun e W' ⟨gh, v, he, objs', g', xs', vs', Rc, hou, _, hv⟩ => ?_
  rw [henc] at hou
  have hall := slots_all2 Rc
  obtain ⟨OW, q1, q2, q3, q4, q5⟩ := rets_ok (muts := []) (xsC := []) (sobjs := []) Rc xs' vs' [] [0] [.own ⟨e1, t, l b⟩] [.sl 0 [] none] [(0, some (.dat ⟨e1, t, l b, true, true, none⟩))] hall hou rfl (by simp)
  match OW, q1 with
  | [⟨nm, ⟨e', t', l'⟩, L⟩], q1 =>
    simp only [ownUpd, OwnR.d, List.map_cons, List.map_nil, List.cons.injEq, Prod.mk.injEq, Option.some.injEq, Ob.dat.injEq, Dat.mk.injEq, and_true, true_and] at q1
    obtain ⟨rfl, rfl, rfl, q1⟩ := q1
    have q1 := eq_of_heq q1
    subst q1
    obtain ⟨kk, dk, _, _, j3, j4, j5, j6, j7, j8⟩ := q3 _ (List.mem_singleton.2 rfl)
    have q6 := q5 [some (.dat ⟨e1, t, l b, true, true, none⟩)] (g'.put 0 t L) (fun o ho => by
      obtain rfl := List.mem_singleton.1 ho
      exact ⟨rfl, Gh.put_same _ _ _ _⟩) (fun i nm wv v' h1 _ n p d h2 => by simp at h2)
    match vs', q6 with
    | [v0], q6 =>
      have hsl : SlRel [some (.dat ⟨e1, t, l b, true, true, none⟩)] (g'.put 0 t L) 0 [] none v0 := q6.2 0 _ _ rfl rfl
      obtain ⟨d, Q, sz, hdr, tot, g1, g2, g3, g4, Aa, c, e1', e2', e3', e4', e5'⟩ := hsl
      obtain rfl : _ = d := Option.some.inj g1
      unfold rootPL at g3
      rw [getPL_nil] at g3
      obtain rfl := Option.some.inj g3
      simp only [hdrP, Option.some.injEq, Prod.mk.injEq] at g4
      obtain ⟨rfl, rfl, rfl⟩ := g4
      rw [Gh.put_same] at e4' e5'
      obtain ⟨e6, e7⟩ := e5' rfl
      simp only [Win.off, Nat.zero_add] at e6 e7
      refine ⟨v0, by rw [he, hv]; rfl, ⟨L, Aa, c, e1', j6, fun bb hb => (Rc.fresh kk dk j3 j4 bb (j8 bb hb)).1 j5, e3', e6, fun hc => ?_⟩, below_of Rc.frame⟩
      obtain ⟨bb, o, a1, a2⟩ := e7 hc
      rw [a1, a2]
      simp
    | [], q6 => have := q6.1; simp at this
    | _ :: _ :: _, q6 => have := q6.1; simp at this
  | [], q1 => simp [ownUpd] at q1
  | _ :: _ :: _, q1 => simp [ownUpd] at q1
theorem int_cells (l : List Int) (locs : Nat → Unit) (i : Nat) (h : i < l.length) : (rowCells (.int .i64) l locs)[i]? = some (.int .i64 l[i]) := by
  have e : rowCells (.int .i64) l locs = (List.range l.length).map fun i => Value.int .i64 (List.getD l i 0) := by
    rw [List.map_eq_flatMap]
    rfl
  rw [e, List.getElem?_map, List.getElem?_range h]
  simp only [Option.map_some]
  rw [getD_lt h]
theorem ownR_row {w : World} {B : Nat} {l : List Int} {h : Hdr} {locs : Nat → Unit} (r : RowAt w true 1 h l.length (rowCells (.int .i64) l locs)) (hb : ∀ b, b ∈ hdrBlk true h l.length → B ≤ b) {A : Option Addr} {c : Nat} (h1 : l.length ≤ c) (h2 : c ≤ h.cap) (h3 : 0 < c → A = h.A) :
    Go.Proofs.OwnR w B (.slice A l.length c) l := by
  refine ⟨A, c, rfl, h1, fun hn => ?_, fun hc => ?_⟩
  · obtain ⟨b, o, e1, e2, e3⟩ := r.at_ hn
    refine ⟨b, o, by rw [h3 (by omega), e1], e2, fun i hi => e3 i _ (int_cells l locs i hi)⟩
  · obtain ⟨b, o, arr, e, e1, e2, e3⟩ := r.own rfl (by omega)
    refine ⟨b, o, arr, e, by rw [h3 hc, e1], hb b ?_, e2, by omega⟩
    unfold hdrBlk
    rw [e1]
    simp only
    rw [if_pos (.inl ⟨trivial, by omega⟩)]
    exact List.mem_singleton.2 rfl
theorem orders_own {w : World} {B : Nat} {e1 e2 : TypeId} {rows : List (List Int)} {V : Value} (h : OwnV w B e1 (.row e2 (.int .i64)) rows V) : Go.Proofs.OrdersR w B V rows := by
  obtain ⟨L, A, c, rfl, hm, hb, h1, h2, h3⟩ := h
  have hm := hm.resolve_left (by simp [lent])
  refine ⟨A, c, rfl, fun i hi => ?_⟩
  obtain ⟨b, o, q1, q2, q3⟩ := hm.1.at_ (by omega)
  have hc := (rangeAt_flatMap _ _ (fun i => cells_length (Ty.row e2 (.int .i64)) _ _) _).1 q3 i hi
  have e0 : List.getD rows i (Ty.row e2 (.int .i64)).dflt = rows[i] := getD_lt hi
  have hin := hm.2 i hi
  have hbi : ∀ k, k ∈ blks true (Ty.row e2 (.int .i64)) (sub none (.idx i)) (List.getD rows i (Ty.row e2 (.int .i64)).dflt) (L.2 i) → B ≤ k := fun k hk => hb k (by
    simp only [blks, lent, Bool.false_eq_true, if_false]
    exact List.mem_append_right _ (List.mem_flatMap.2 ⟨i, List.mem_range.2 hi, hk⟩))
  rw [e0] at hc hin hbi
  have hin := hin.resolve_left (by simp [sub, lent])
  refine ⟨b, o, .slice (L.2 i).1.A rows[i].length (L.2 i).1.cap, by rw [h3 (by omega)]; exact q1, q2, ?_, ownR_row hin.1 (fun k hk => hbi k ?_) hin.1.le (Nat.le_refl _) (fun _ => rfl)⟩
  · have := hc 0 _ rfl
    rw [show (Ty.row e2 (.int .i64)).size = 1 from rfl, Nat.mul_one, Nat.add_zero] at this
    exact this
  · simp only [blks, sub, lent, Bool.false_eq_true, if_false]
    exact List.mem_append_left _ hk

theorem obAt_pad (objs : List (Option Ob)) (n : Nat) : obAt (objs ++ [none]) n = obAt objs n := by
  unfold obAt
  rw [List.getD_eq_getElem?_getD, List.getD_eq_getElem?_getD]
  rcases Nat.lt_or_ge n objs.length with h | h
  · rw [List.getElem?_append_left h]
  · rw [List.getElem?_append_right h, List.getElem?_eq_none h]
    rcases Nat.eq_zero_or_pos (n - objs.length) with q | q
    · rw [q]; rfl
    · rw [List.getElem?_eq_none (by simp; omega)]
theorem datAt_pad (objs : List (Option Ob)) (n : Nat) : datAt (objs ++ [none]) n = datAt objs n := by
  unfold datAt
  rw [obAt_pad]
theorem R.pad {m : Nat} {w0 w : World} {MB : Out} {slots : List SV} {objs : List (Option Ob)} {g : Gh} {a : Act} (h : R m w0 MB ⟨slots, objs⟩ g a w) : R m w0 MB ⟨slots, objs ++ [none]⟩ g a w where
  defers := h.defers
  sl := h.sl
  tm := h.tm
  slots := fun t ht => SRel.keep (k := []) (l := []) (fun n x hx _ _ => ⟨by rw [obAt_pad]; exact hx, rfl, rfl⟩) (fun n d _ _ hl => by cases hl) (fun _ _ _ _ _ hl => by cases hl) (h.slots t ht) (hits_nil _)
  dat := fun n d hd => h.dat n d (by rw [← datAt_pad]; exact hd)
  bx := fun n e k wn hx => by
    obtain ⟨d, v, q1, q2, q3, q4⟩ := h.bx n e k wn (by rw [← obAt_pad]; exact hx)
    exact ⟨d, v, by rw [datAt_pad]; exact q1, q2, q3, q4.keep (fun d hd => ⟨by rw [datAt_pad]; exact hd, rfl⟩)⟩
  sep := fun n d hd hw => by
    obtain ⟨q1, q2⟩ := h.sep n d (by rw [← datAt_pad]; exact hd) hw
    exact ⟨q1, fun n' ob hne hob => q2 n' ob hne (by rw [← obAt_pad]; exact hob)⟩
  fresh := fun n d hd => h.fresh n d (by rw [← datAt_pad]; exact hd)
  frame := h.frame
  pins := fun q hq => (h.pins q hq).keep (fun n d hd hf => ⟨d, by rw [datAt_pad]; exact hd, rfl, rfl, rfl, hf, rfl, rfl⟩)
  go := h.go
theorem ownR_mem {w : World} {B : Nat} {v : Value} {l : List Int} (h : Go.Proofs.OwnR w B v l) : ∃ A cap, v = .slice A l.length cap ∧ memH w true (.row 2 (.int .i64)) none l ((⟨A, cap⟩, fun _ => ()) : (Ty.row 2 (.int .i64)).loc) ∧
    (blks true (.row 2 (.int .i64)) none l ((⟨A, cap⟩, fun _ => ()) : (Ty.row 2 (.int .i64)).loc)).Nodup ∧ ∀ b, b ∈ blks true (.row 2 (.int .i64)) none l ((⟨A, cap⟩, fun _ => ()) : (Ty.row 2 (.int .i64)).loc) → B ≤ b := by
  obtain ⟨A, cap, rfl, h1, h2, h3⟩ := h
  have e : blks true (.row 2 (.int .i64)) none l ((⟨A, cap⟩, fun _ => ()) : (Ty.row 2 (.int .i64)).loc) = hdrBlk true ⟨A, cap⟩ l.length := by
    simp only [blks, lent, Bool.false_eq_true, if_false]
    rw [show ((List.range l.length).flatMap fun _ => ([] : List Nat)) = [] from by simp, List.append_nil]
  refine ⟨A, cap, rfl, .inr ⟨⟨h1, fun hn => ?_, fun _ hc => ?_⟩, fun i hi => trivial⟩, ?_, ?_⟩
  · obtain ⟨b, o, e1, e2, e3⟩ := h2 hn
    refine ⟨b, o, e1, e2, fun j v hv => ?_⟩
    have hj : j < l.length := by
      have := (List.getElem?_eq_some_iff.1 hv).1
      have e4 : (rowCells (.int .i64) l (fun _ => ())).length = l.length := by
        have := flatMap_range_length (fun i => cells (.int .i64) (List.getD l i (Ty.int .i64).dflt) ()) 1 (fun _ => rfl) l.length
        simpa [rowCells] using this
      have t2 : j < (rowCells (.int .i64) l (fun _ => ())).length := this
      omega
    rw [int_cells l _ j hj] at hv
    rw [← Option.some.inj hv]
    exact e3 j hj
  · obtain ⟨b, o, arr, e', e1, e2, e3, e4⟩ := h3 hc
    exact ⟨b, o, arr, e', e1, e3, by rw [show (Ty.int .i64).size = 1 from rfl, Nat.mul_one]; exact e4⟩
  · rw [e]
    unfold hdrBlk
    split
    · split <;> simp
    · simp
  · intro b hb
    rw [e] at hb
    unfold hdrBlk at hb
    split at hb
    · rename_i ad hA
      split at hb
      · rename_i hc
        obtain rfl := List.mem_singleton.1 hb
        have hA : A = some ad := hA
        obtain ⟨b, o, arr, e', e1, e2, e3, e4⟩ := h3 (by
          rcases hc with q | q
          · exact q.2
          · have q : 0 < l.length := q
            omega)
        rw [hA] at e1
        obtain rfl := Option.some.inj e1
        exact e2
      · cases hb
    · cases hb
theorem R.retOwn {m : Nat} {w w' : World} {MB : Out} {slots : List SV} {D0 D1 : Dat} {g : Gh} {a : Act} (h : R m w MB ⟨slots, [some (.dat D0), some (.dat D1)]⟩ g a w) (hb : Go.RowKit.Below w.heap.size w w') {bv : Value} {l : List Int} (ho : Go.Proofs.OwnR w' w.heap.size bv l) (x y : Int) :
    ∃ g', R 3 w MB ⟨[.sl 2 [] none, .val (.int .i64) x, .val (.int .i64) y], [some (.dat D0), some (.dat D1), some (.dat ⟨2, .int .i64, l, true, true, none⟩)]⟩ g' ⟨[bv, .int .i64 x, .int .i64 y].toArray, []⟩ w' := by
  obtain ⟨A, cap, rfl, h1, h2, h3⟩ := ownR_mem ho
  have r1 := (R.pad h).ret (Go.RowKit.Below.refl _ w) (fun _ => Nat.le_refl _) [.dead, .val (.int .i64) x, .val (.int .i64) y] [undef, .int .i64 x, .int .i64 y] (All2.cons_iff.2 ⟨trivial, All2.cons_iff.2 ⟨⟨rfl, trivial, rfl⟩, All2.cons_iff.2 ⟨⟨rfl, trivial, rfl⟩, All2.nil _⟩⟩⟩)
  have r2 := r1.renew [] 2 ⟨2, .int .i64, l, true, true, none⟩ (⟨A, cap⟩, fun _ => ()) w' (.sl 2 [] none) (some 0) (.slice A l.length cap) (fun k hk => by cases hk) (by show 2 < 3; omega) (.inl rfl) ⟨rfl, rfl, rfl⟩
    (.inl ⟨hb.os, ⟨hb.tape, fun h => h.elim⟩, hb.output, hb.size, fun k hk _ => hb.block k hk⟩) (fun b hb1 _ => hb.block b hb1) h1 h2 (fun b hb => .inl (h3 b hb))
    (own_sl (o := ⟨2, ⟨2, .int .i64, l⟩, (⟨A, cap⟩, fun _ => ())⟩) (by rfl) (Gh.put_same _ _ _ _) rfl h1)
  exact ⟨_, r2⟩
theorem entry_below {w w' : World} (hb : Go.RowKit.Below w.heap.size w w') : ∀ {av : AV} {v : Value}, EntryOk w av v → EntryOk w' av v
  | .val t x, v, h => h
  | .obj false c, v, ⟨A, cap, locs, e, hm⟩ => ⟨A, cap, locs, e, memH_frame hb.size _ _ _ _ hm (fun k hk => hb.block k (blks_lt _ _ _ _ hm k hk))⟩
  | .obj true c, v, h => h.elim
  | .nil, v, h => h.elim
  | .bx _ _, v, h => h.elim
  | .fn _ _, v, h => h.elim
theorem entry_elems {w : World} {u : Ty} {l : List u.den} {locs : Nat → u.loc} {A : Option Addr} {c : Nat} {e : TypeId} (hc : l.length ≤ c) (h : Elems w false u l locs A) : EntryOk w (.obj false ⟨e, u, l⟩) (.slice A l.length c) :=
  ⟨A, c, locs, rfl, .inr ⟨⟨hc, fun h0 => h.at_ h0, fun q => by cases q⟩, fun i hi => h.mem i hi⟩⟩
theorem entry_ownR {w : World} {B : Nat} {v : Value} {l : List Int} {e : TypeId} (h : Go.Proofs.OwnR w B v l) : EntryOk w (.obj false ⟨e, .int .i64, l⟩) v := by
  obtain ⟨A, cap, rfl, hm, _, _⟩ := ownR_mem h
  exact ⟨A, cap, fun _ => (), rfl, (memH_weak (.row e (.int .i64)) l ((⟨A, cap⟩, fun _ => ()) : (Ty.row e (.int .i64)).loc) hm).1⟩
abbrev TyS3 : Ty := .st (.pair (.st (.pair (.int .u8) (.int .i16))) (.int .i16))
abbrev TyB2 : Ty := .st (.pair (.int .u8) (.int .i16))
theorem entry_rowB {w : World} {A : Option Addr} {c : Nat} {l : List DB} {e : TypeId} (hc : l.length ≤ c) (h : Go.Proofs.RowB w A l) : EntryOk w (.obj false ⟨e, TyB2, l⟩) (.slice A l.length c) := by
  refine ⟨A, c, fun _ => ((), ()), rfl, .inr ⟨⟨hc, fun h0 => ?_, fun q => by cases q⟩, fun i hi => ⟨trivial, trivial⟩⟩⟩
  obtain ⟨b, o, e1, e2, e3⟩ := h h0
  refine ⟨b, o, e1, e2, (rangeAt_flatMap _ 2 (fun i => cells_length TyB2 _ _) _).2 (fun i hi => ?_)⟩
  have e4 : List.getD l i TyB2.dflt = l[i]'hi := getD_lt hi
  rw [e4]
  obtain ⟨q1, q2⟩ := e3 i hi
  intro j v hv
  match j, hv with
  | 0, hv => rw [← Option.some.inj hv]; exact q1
  | 1, hv => rw [← Option.some.inj hv]; exact q2
theorem elems_rowB {w : World} {l : List DB} {locs : Nat → TyB2.loc} {A : Option Addr} (h : Elems w false TyB2 l locs A) : Go.Proofs.RowB w A l := fun h0 => by
  obtain ⟨b, o, e, hb, hr⟩ := h.at_ h0
  refine ⟨b, o, e, hb, fun i hi => ?_⟩
  have hc := (rangeAt_flatMap _ _ (fun i => cells_length TyB2 _ _) _).1 hr i hi
  have e1 : ∀ (j : Nat) (v : Value), (cells TyB2 (List.getD l i TyB2.dflt) (locs i))[j]? = some v → w.cell? ⟨b, o + i * 2 + j, none⟩ = some v := fun j v hv => hc j v hv
  have e2 : List.getD l i TyB2.dflt = l[i] := getD_lt hi
  rw [e2] at e1
  exact ⟨e1 0 _ rfl, e1 1 _ rfl⟩
def perms (n : Nat) : List (List Int) := vOrd ((n : Int), [])
theorem perms_eq (n : Nat) : perms n = ordL n n [] := by
  unfold perms vOrd
  simp
theorem perms_ok {n : Nat} (h : n ≤ 5) : (perms n).length ≤ 3125 ∧ ∀ o, o ∈ perms n → o.length = n ∧ ∀ x, x ∈ o → 0 ≤ x ∧ x < (n : Int) := by
  rw [perms_eq]
  refine ⟨Nat.le_trans (ordL_len n n []) (pow5 h h), fun o ho => ?_⟩
  have := ordL_mem n n [] (fun x hx => by cases hx) o ho
  simpa using this
def sumOf (r : List (List DS)) (n : Int) (l : List DB) : Int × Int := ((eachL n l r [] 0).2.2.1, (eachL n l r [] 0).2.2.2)
def codeBT (x : List (List DS) × List DB × Int) : Int := codeOf (validR x.1 && x.2.1.all validB) (isSlackB x.2.2)
def vBT (x : List (List DS) × List DB × Int) : List Int × Int × Int := Go.Proofs.btRes (if codeBT x = 0 ∧ x.2.1.length > 5 then 3 else codeBT x) (Go.Proofs.btAll (fun o => sumOf x.1 x.2.2 (Go.Proofs.turnL x.2.1 o)) (perms x.2.1.length))
theorem s_spec_BestTurn : Fz55.S (cl PTEa vBT) where
  fn := ⟨Try.f39, by kernel_rfl, by decide, by decide⟩
  does := fun avs rr hr vs w gh MBb hR => by
    obtain ⟨x, y, h1, h2, rfl⟩ := mkSig_run hr
    obtain ⟨e0, e1, rfl⟩ := Fz55.dec_eq h1
    obtain ⟨hp, rfl⟩ := cl_some h2
    obtain ⟨r, l, n⟩ := x
    have hwr : wR r := hp.1
    have hwl : wBs l := hp.2
    have hR : R 3 w ⟨MBb, _⟩ ⟨[.sl 0 [] none, .sl 1 [] none, .val (.int .i64) n], [some (.dat ⟨e0, .row 52 TyS3, r, false, false, none⟩), some (.dat ⟨e1, TyB2, l, false, false, none⟩)]⟩ gh ⟨vs.toArray, []⟩ w := hR
    have hsz : vs.length = 3 := by simpa using hR.tm
    match vs, hsz with
    | [v0, v1, v2], _ =>
      have a0 : SlRel [some (.dat ⟨e0, .row 52 TyS3, r, false, false, none⟩), some (.dat ⟨e1, TyB2, l, false, false, none⟩)] gh 0 [] none v0 := hR.slots 0 (by omega)
      have a1 : SlRel [some (.dat ⟨e0, .row 52 TyS3, r, false, false, none⟩), some (.dat ⟨e1, TyB2, l, false, false, none⟩)] gh 1 [] none v1 := hR.slots 1 (by omega)
      have a2 : v2 = .int .i64 n := (hR.slots 2 (by omega)).2.2
      subst a2
      obtain ⟨d1, A1, c1, loc1, q1, rfl, u1, E1⟩ := sl_elems hR a0 (u := .row 52 TyS3) (l := r) rfl
      obtain ⟨d2, A2, c2, loc2, q2, rfl, u2, E2⟩ := sl_elems hR a1 (u := TyB2) (l := l) rfl
      obtain rfl : _ = d1 := Option.some.inj q1
      obtain rfl : _ = d2 := Option.some.inj q2
      have n1 := entry_elems (e := e0) u1 E1
      have n2 := entry_elems (e := e1) u2 E2
      have hcall := Go.Proofs.Try.bt_spec (.slice A1 r.length c1) A2 c2 l n w (perms l.length) (fun o => sumOf r n (Go.Proofs.turnL l o)) (codeBT (r, l, n))
        (Sound.int2 s_l04Taken (fun _ _ => rfl) (avs := [.obj false ⟨e0, .row 52 TyS3, r⟩, .obj false ⟨e1, TyB2, l⟩, .val (.int .i64) n]) (vs := [.slice A1 r.length c1, .slice A2 l.length c2, .int .i64 n]) (All2.cons_iff.2 ⟨n1, All2.cons_iff.2 ⟨n2, All2.cons_iff.2 ⟨⟨rfl, trivial, rfl⟩, All2.nil _⟩⟩⟩) (x := (r, l, n)) rfl (cl_eq (show PTk (r, l, n) from ⟨hwr, hwl.1, hwl.2⟩)) (go0 rfl _ _))
        hwl.1
        (fun hc h5 w' a hb => (Sound.own1 s_Orders (fun _ _ => rfl) (avs := [.val (.int .i64) (l.length : Int), .obj false ⟨0, .int .i64, []⟩]) (vs := [.int .i64 (l.length : Int), .slice (some a) 0 0]) (All2.cons_iff.2 ⟨⟨rfl, trivial, rfl⟩, All2.cons_iff.2 ⟨entry_ownR (Go.Proofs.ownR_made w' w'.heap.size a), All2.nil _⟩⟩) (x := ((l.length : Int), [])) rfl (cl_eq (show PO 5 ((l.length : Int), []) from ⟨by simp only; omega, by simp only; omega, by simp, by simp; omega⟩)) (go0 rfl _ _)).mono fun e w'' ⟨v, he, ho, hb2⟩ => ⟨v, he, orders_own ho, hb2⟩)
        (fun hc h5 o ho w' v hb hv => by
          have hcc := codeOf_cases (validR r && l.all validB) (isSlackB n)
          have hcc := hcc.resolve_right (fun q => q hc)
          obtain ⟨_, hv1, hv2⟩ := hcc
          simp only [Bool.and_eq_true] at hv1
          obtain ⟨po1, po2⟩ := (perms_ok h5).2 o ho
          exact Sound.tup4 s_l04Each (c1 := fun r => ⟨26, .row 52 TyS3, r.1⟩) (c2 := fun r => ⟨52, TyS3, r.2.1⟩) (a1 := fun r => r.2.2.1) (a2 := fun r => r.2.2.2) (fun _ _ => rfl) (avs := [.obj false ⟨e0, .row 52 TyS3, r⟩, .obj false ⟨e1, TyB2, l⟩, .obj false ⟨0, .int .i64, o⟩, .val (.int .i64) n])
            (vs := [.slice A1 r.length c1, .slice A2 l.length c2, v, .int .i64 n]) (All2.cons_iff.2 ⟨entry_below hb n1, All2.cons_iff.2 ⟨entry_below hb n2, All2.cons_iff.2 ⟨entry_ownR hv, All2.cons_iff.2 ⟨⟨rfl, trivial, rfl⟩, All2.nil _⟩⟩⟩⟩) (x := (r, l, o, n)) rfl
            (cl_eq (show PEa (r, l, o, n) from ⟨hwr, few_valid hv1.1, isSlack_true hv2, by simp only; omega, po2⟩)) (go0 rfl _ _))
        (fun h5 => Nat.le_trans (perms_ok h5).1 (by omega))
      refine hcall.mono fun e w' ⟨bv, he, ho, hb⟩ => ?_
      subst he
      obtain ⟨g', r2⟩ := R.retOwn hR hb ho (vBT (r, l, n)).2.1 (vBT (r, l, n)).2.2
      exact ⟨_, g', [.sl 2 [] none, .val (.int .i64) _, .val (.int .i64) _], [bv, .int .i64 _, .int .i64 _], r2, rfl, rfl, rfl⟩
theorem s_impl_BestTurn : Fz0.S (cl PTEa vBT) where
  fn := ⟨Try.f40, by kernel_rfl, by decide, by decide⟩
  does := fun avs rr hr vs w gh MBb hR => by
    obtain ⟨x, y, h1, h2, rfl⟩ := mkSig_run hr
    obtain ⟨e0, e1, rfl⟩ := Fz0.dec_eq h1
    obtain ⟨hp, rfl⟩ := cl_some h2
    obtain ⟨r, l, n⟩ := x
    have hwr : wR r := hp.1
    have hwl : wBs l := hp.2
    have hR : R 3 w ⟨MBb, _⟩ ⟨[.sl 0 [] none, .sl 1 [] none, .val (.int .i64) n], [some (.dat ⟨e0, .row 52 TyS3, r, false, false, none⟩), some (.dat ⟨e1, TyB2, l, false, false, none⟩)]⟩ gh ⟨vs.toArray, []⟩ w := hR
    have hsz : vs.length = 3 := by simpa using hR.tm
    match vs, hsz with
    | [v0, v1, v2], _ =>
      have a0 : SlRel [some (.dat ⟨e0, .row 52 TyS3, r, false, false, none⟩), some (.dat ⟨e1, TyB2, l, false, false, none⟩)] gh 0 [] none v0 := hR.slots 0 (by omega)
      have a1 : SlRel [some (.dat ⟨e0, .row 52 TyS3, r, false, false, none⟩), some (.dat ⟨e1, TyB2, l, false, false, none⟩)] gh 1 [] none v1 := hR.slots 1 (by omega)
      have a2 : v2 = .int .i64 n := (hR.slots 2 (by omega)).2.2
      subst a2
      obtain ⟨d1, A1, c1, loc1, q1, rfl, u1, E1⟩ := sl_elems hR a0 (u := .row 52 TyS3) (l := r) rfl
      obtain ⟨d2, A2, c2, loc2, q2, rfl, u2, E2⟩ := sl_elems hR a1 (u := TyB2) (l := l) rfl
      obtain rfl : _ = d1 := Option.some.inj q1
      obtain rfl : _ = d2 := Option.some.inj q2
      have n1 := entry_elems (e := e0) u1 E1
      have n2 := entry_elems (e := e1) u2 E2
      have hcall := Go.Proofs.Try.bt_impl (.slice A1 r.length c1) A2 c2 l n w (perms l.length) (sumOf r n) (validR r) (l.all validB) (isSlackB n) (codeBT (r, l, n))
        (fun hc => by
          have hcc := (codeOf_cases (validR r && l.all validB) (isSlackB n)).resolve_right (fun q => q hc)
          obtain ⟨_, hv1, hv2⟩ := hcc
          simp only [Bool.and_eq_true] at hv1
          exact hv1.1)
        (elems_rowB E2) hwl.1
        (Sound.law s_impl_ValidRack (fun _ _ => rfl) (avs := [.obj false ⟨e0, .row 52 TyS3, r⟩]) (vs := [.slice A1 r.length c1]) (All2.cons_iff.2 ⟨n1, All2.nil _⟩) (x := r) rfl (cl_eq hwr) (go0 rfl _ _))
        (fun w' hb => Sound.law s_areBottles (fun _ _ => rfl) (avs := [.obj false ⟨e1, TyB2, l⟩]) (vs := [.slice A2 l.length c2]) (All2.cons_iff.2 ⟨entry_below hb n2, All2.nil _⟩) (x := l) rfl (cl_eq hwl) (go0 rfl _ _))
        (fun w' hb => Sound.law s_isSlack (fun _ _ => rfl) (avs := [.val (.int .i64) n]) (vs := [.int .i64 n]) (All2.cons_iff.2 ⟨⟨rfl, trivial, rfl⟩, All2.nil _⟩) (x := n) rfl rfl (go0 rfl _ _))
        (fun w' hb => Sound.int2 s_codeOf (fun _ _ => rfl) (avs := [.val .bool (validR r && l.all validB), .val .bool (isSlackB n)]) (vs := [.bool (validR r && l.all validB), .bool (isSlackB n)]) (All2.cons_iff.2 ⟨⟨rfl, trivial, rfl⟩, All2.cons_iff.2 ⟨⟨rfl, trivial, rfl⟩, All2.nil _⟩⟩) (x := (validR r && l.all validB, isSlackB n)) rfl rfl (go0 rfl _ _))
        (fun hc h5 w' hb => (Go.Proofs.Try.orders_calls l.length h5 (by have h3 := (perms_ok h5).1; rw [perms_eq] at h3; exact Nat.le_trans h3 (by omega)) (w'.heap.size + 1)
          (fun W g cap L i hown hL => Sound.law s_ContainsI (fun _ _ => rfl) (avs := [.obj false ⟨0, .int .i64, L⟩, .val (.int .i64) i]) (vs := [.slice (some ⟨g, 0, none⟩) L.length cap, .int .i64 i]) (All2.cons_iff.2 ⟨entry_ownR (Go.Proofs.ownR_of hown), All2.cons_iff.2 ⟨⟨rfl, trivial, rfl⟩, All2.nil _⟩⟩) (x := (L, i)) rfl (cl_eq (show PL1 (L, i) from by show L.length ≤ 1073741824; omega)) (go0 rfl _ _)) w' rfl).mono fun e w'' ⟨V, he, ho, hb2⟩ => ⟨V, he, by rw [perms_eq]; exact Go.Proofs.ordersR_of ho, hb2⟩)
        (fun hc h5 o ho w' A' c' hb hlen hrow => by
          have hcc := (codeOf_cases (validR r && l.all validB) (isSlackB n)).resolve_right (fun q => q hc)
          obtain ⟨_, hv1, hv2⟩ := hcc
          simp only [Bool.and_eq_true] at hv1
          obtain ⟨po1, po2⟩ := (perms_ok h5).2 o ho
          have htl : (Go.Proofs.turnL l o).length = o.length := by unfold Go.Proofs.turnL; simp
          exact Sound.tup4 s_takenEach (c1 := fun r => ⟨26, .row 52 TyS3, r.1⟩) (c2 := fun r => ⟨52, TyS3, r.2.1⟩) (a1 := fun r => r.2.2.1) (a2 := fun r => r.2.2.2) (fun _ _ => rfl) (avs := [.obj false ⟨e0, .row 52 TyS3, r⟩, .obj false ⟨0, TyB2, Go.Proofs.turnL l o⟩, .val (.int .i64) n])
            (vs := [.slice A1 r.length c1, .slice A' (Go.Proofs.turnL l o).length c', .int .i64 n]) (All2.cons_iff.2 ⟨entry_below hb n1, All2.cons_iff.2 ⟨entry_rowB hlen hrow, All2.cons_iff.2 ⟨⟨rfl, trivial, rfl⟩, All2.nil _⟩⟩⟩) (x := (r, Go.Proofs.turnL l o, n)) rfl
            (cl_eq (show PTE (r, Go.Proofs.turnL l o, n) from ⟨hwr, few_valid hv1.1, isSlack_true hv2, by simp only; omega⟩)) (go0 rfl _ _))
        (fun h5 => Nat.le_trans (perms_ok h5).1 (by omega)) (fun h5 o ho => ⟨by have := ((perms_ok h5).2 o ho).1; omega, ((perms_ok h5).2 o ho).2⟩)
      refine hcall.mono fun e w' ⟨bv, he, ho, hb⟩ => ?_
      subst he
      obtain ⟨g', r2⟩ := R.retOwn hR hb ho (vBT (r, l, n)).2.1 (vBT (r, l, n)).2.2
      exact ⟨_, g', [.sl 2 [] none, .val (.int .i64) _, .val (.int .i64) _], [bv, .int .i64 _, .int .i64 _], r2, rfl, rfl, rfl⟩
theorem btAll_mem (f : List Int → Int × Int) : ∀ (q : List (List Int)) (st : List Int × Int), (q.foldl (Go.Proofs.btStep f) st).1 = st.1 ∨ (q.foldl (Go.Proofs.btStep f) st).1 ∈ q
  | [], st => .inl rfl
  | o :: q, st => by
    rw [List.foldl_cons]
    rcases btAll_mem f q (Go.Proofs.btStep f st o) with h | h
    · rw [h]
      unfold Go.Proofs.btStep
      split
      · exact .inr (List.mem_cons_self ..)
      · exact .inl rfl
    · exact .inr (List.mem_cons_of_mem _ h)
theorem btRes_len (c : Int) (st : List Int × Int) (h : c = 0 → st.1.length ≤ 5) : (Go.Proofs.btRes c st).1.length ≤ 5 := by
  unfold Go.Proofs.btRes
  by_cases c0 : c = 0
  · rw [if_pos c0]
    by_cases s : st.2 < 0
    · rw [if_pos s]; exact Nat.zero_le _
    · rw [if_neg s]; exact h c0
  · rw [if_neg c0]; exact Nat.zero_le _
theorem vBT_len (x : List (List DS) × List DB × Int) : (vBT x).1.length ≤ 5 := by
  unfold vBT
  refine btRes_len _ _ (fun hc => ?_)
  have h5 : x.2.1.length ≤ 5 := by
    by_cases q : x.2.1.length ≤ 5
    · exact q
    · by_cases q2 : codeBT x = 0
      · rw [if_pos ⟨q2, by omega⟩] at hc; omega
      · rw [if_neg (fun a => q2 a.1)] at hc; exact absurd hc q2
  unfold Go.Proofs.btAll
  rcases btAll_mem (fun o => sumOf x.1 x.2.2 (Go.Proofs.turnL x.2.1 o)) (perms x.2.1.length) ([], -1) with h | h
  · rw [h]; exact Nat.zero_le _
  · have := ((perms_ok h5).2 _ h).1
    omega
theorem s_law_BestTurn : laws_FnExactBestTurn.S (cl (fun x => gR x.1 ∧ gB x.2.1 ∧ wI x.2.2) fun _ => true) :=
  laws_FnExactBestTurn.of_cl s_szRack s_szBottleS' s_toRack s_toBottleS s_spec_BestTurn s_impl_BestTurn s_eqInt64S s_eqRack s_eqBottleS s_markRack s_markBottleS s_markInt64S s_heldInt64S fun x ⟨h, hb, _⟩ k => by
  obtain ⟨r, l, n⟩ := x
  have hg : gR r := h
  have hb : gB l := hb
  show laws_FnExactBestTurn.pf _ _ _ _ _ _ _ _ _ _ _ _ _ BIG r l n k = k true
  unfold laws_FnExactBestTurn.pf
  rw [cl_eq hg.sz, Option.bind_some]
  by_cases c : vszR (r, 1048576) < 0
  · rw [decT c]; rfl
  · obtain ⟨_, n0, n1⟩ := sz_bd (by omega) (by omega) c
    have w := hg.w c
    rw [decF c, cond_false, cl_eq (show PszB (l, vszR (r, 1048576)) from ⟨hb.1, n0, n1⟩), Option.bind_some]
    by_cases c2 : vszB (l, vszR (r, 1048576)) < 0
    · rw [decT c2]; rfl
    · have hl := szB_ok c2 n1
      have hl : l.length ≤ 1073741824 := by omega
      have b3 := vBT_len (r, l, n)
      have h1 := held_ok _ w.1
      have hbd := w.1
      unfold Bd at hbd
      have f1 := markR_fst r 1 (by omega) (by omega)
      have f3 := markB_fst l (markR 1 r).1 h1.2 (by omega)
      have f4 := markI_fst (vBT (r, l, n)).1 1 (by omega) (by omega)
      rw [decF c2, cond_false]
      simp only [cl_eq w.1, cl_eq (show PL l from hl), Option.bind_some, tot_eq, cl_eq (show PTEa (r, l, n) from ⟨w, hl, hb.2⟩), cl_eq (show Bd1 (r, r) from w.1), cl_eq (show PL1 (l, l) from hl),
        cl_eq (show PL1 ((vBT (r, l, n)).1, (vBT (r, l, n)).1) from (by unfold PL1; simp only; omega)), decide_true, Bool.not_true, cond_false, bneS, cl_eq (show Bd1 (r, (1 : Int)) from w.1), cl_eq (show PL1 (l, (markR 1 r).1) from hl),
        cl_eq (show PL1 ((vBT (r, l, n)).1, (1 : Int)) from (by unfold PL1; simp only; omega)), cl_eq (show PL1 ((markI 1 (vBT (r, l, n)).1).2, (1 : Int)) from (by unfold PL1; simp only; rw [markI_len]; omega)), held_markI,
        decF (show ¬ (markB (markR 1 r).1 l).1 < 0 by omega), decF (show ¬ (markI 1 (vBT (r, l, n)).1).1 < 0 by omega)]
end Go.Proofs.Yteaodjahafgbcaa.G
