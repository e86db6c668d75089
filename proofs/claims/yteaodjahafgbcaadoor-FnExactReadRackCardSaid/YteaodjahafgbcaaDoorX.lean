/- Plain proofs: what the functions answer, in plain lists and numbers. -/
import Derived.Test.YteaodjahafgbcaaDoorRd0
import Derived.Test.YteaodjahafgbcaaDoorRd1
import Derived.Test.YteaodjahafgbcaaDoorRd2
import Derived.Test.YteaodjahafgbcaaDoorRd3
import Derived.Test.YteaodjahafgbcaaDoorShelf
namespace Go.Proofs.YteaodjahafgbcaaDoor.G
open Go
set_option linter.unusedVariables false
set_option linter.unusedSimpArgs false
set_option maxRecDepth 10000
abbrev DB := Int × Int
abbrev DS := DB × Int
theorem s_eqBottle : Fz14.S (tot fun x => decide (x.1 = x.2)) := Fz14.of_tot fun x k => by
  obtain ⟨⟨a1, a2⟩, b1, b2⟩ := x
  unfold Fz14.pf
  by_cases h1 : a1 = b1
  · by_cases h2 : a2 = b2
    · simp [h1, h2]
    · simp [h1, h2, bneT h2]
  · simp [h1, bneT h1]
theorem s_eqStored : Fz16.S (tot fun x => decide (x.1 = x.2)) := Fz16.of_tot s_eqBottle fun x k => by
  obtain ⟨⟨a1, a2⟩, b1, b2⟩ := x
  unfold Fz16.pf
  by_cases h1 : a1 = b1
  · by_cases h2 : a2 = b2
    · simp [h1, h2, tot]
    · simp [h1, h2, tot, bneT h2]
  · simp [h1, tot]
/-- Lists of one length are alike where no pair of elements differs. -/
theorem any_eq {β : Type} [DecidableEq β] : ∀ (a b : List β), a.length = b.length → (a.zip b).any (fun p => !decide (p.1 = p.2)) = !decide (a = b)
  | [], [], _ => by simp
  | [], _ :: _, h => by simp at h
  | _ :: _, [], h => by simp at h
  | x :: a, y :: b, h => by
    rw [List.zip_cons_cons, List.any_cons, any_eq a b (by simpa using h)]
    by_cases c : x = y <;> by_cases c2 : a = b <;> simp [c, c2]
theorem zip_at {β γ : Type} {a : List β} {b : List γ} {k : Nat} (h : k < (a.zip b).length) : (a.zip b)[k] = (a[k]'(by simp at h; omega), b[k]'(by simp at h; omega)) := by simp
theorem eqStoredS_pf {α : Type} (a b : List DS) (h : a.length ≤ 1073741824) (k : Bool → Option α) : Fz17.pf (tot fun x => decide (x.1 = x.2)) BIG a b k = k (decide (a = b)) := by
  unfold Fz17.pf
  by_cases c : a.length = b.length
  · rw [show (((a.length : Nat) : Int) != ((b.length : Nat) : Int)) = false by simp [c], cond_false]
    have hz : (a.zip b).length = a.length := by simp [c]
    rw [iter_first (a.zip b) (fun i => (i : Int)) (fun p => !decide (p.1 = p.2)) (fun _ _ => k false) (k true) (x := 0) rfl (big_lt (by omega)) ?_ ?_, firstOr_const, any_eq a b c]
    · by_cases e : a = b <;> simp [e]
    · intro i hi rec
      have h1 : i < a.length := by omega
      have h2 : i < b.length := by omega
      unfold Fz17.B1
      rw [zip_at hi]
      simp only [decT (show (i : Int) < (a.length : Int) by omega), inB_nat h1, inB_nat h2, cond_true, Int.toNat_natCast, getD_lt h1, getD_lt h2, tot_eq, Option.bind_some, w64n (show i < 9223372036854775807 by omega)]
    · intro rec
      unfold Fz17.B1
      rw [decF (by omega)]
      rfl
  · rw [show (((a.length : Nat) : Int) != ((b.length : Nat) : Int)) = true by simpa using fun q => c (by omega), cond_true]
    rw [decF (fun e => c (by rw [e]))]
theorem s_eqStoredS : Fz17.S (cl PL1 fun x => decide (x.1 = x.2)) := Fz17.of_cl s_eqStored fun x h => eqStoredS_pf x.1 x.2 h
theorem eqRack_pf {α : Type} (a b : List (List DS)) (h : Bd a) (k : Bool → Option α) : Fz15.pf (cl PL1 fun x => decide (x.1 = x.2)) BIG a b k = k (decide (a = b)) := by
  have hl := h.len
  unfold Fz15.pf
  by_cases c : a.length = b.length
  · rw [show (((a.length : Nat) : Int) != ((b.length : Nat) : Int)) = false by simp [c], cond_false]
    have hz : (a.zip b).length = a.length := by simp [c]
    rw [iter_first (a.zip b) (fun i => (i : Int)) (fun p => !decide (p.1 = p.2)) (fun _ _ => k false) (k true) (x := 0) rfl (big_lt (by omega)) ?_ ?_, firstOr_const, any_eq a b c]
    · by_cases e : a = b <;> simp [e]
    · intro i hi rec
      have h1 : i < a.length := by omega
      have h2 : i < b.length := by omega
      unfold Fz15.B1
      rw [zip_at hi]
      simp only [decT (show (i : Int) < (a.length : Int) by omega), inB_nat h1, inB_nat h2, cond_true, Int.toNat_natCast, getD_lt h1, getD_lt h2, cl_eq (show PL1 (a[i], b[i]) from h.at h1), Option.bind_some, w64n (show i < 9223372036854775807 by omega)]
    · intro rec
      unfold Fz15.B1
      rw [decF (by omega)]
      rfl
  · rw [show (((a.length : Nat) : Int) != ((b.length : Nat) : Int)) = true by simpa using fun q => c (by omega), cond_true]
    rw [decF (fun e => c (by rw [e]))]
theorem s_eqRack : Fz15.S (cl Bd1 fun x => decide (x.1 = x.2)) := Fz15.of_cl s_eqStoredS fun x h => eqRack_pf x.1 x.2 h
/-- What is written, and the number behind it. -/
def markL : Int → List DS → Int × List DS
  | k, [] => (k, [])
  | k, _ :: l => ((markL (IntKind.i64.wrap (IntKind.i64.wrap (IntKind.i64.wrap (k + 1) + 1) + 1)) l).1, ((IntKind.u8.wrap k, IntKind.i16.wrap (IntKind.i64.wrap (k + 1))), IntKind.i16.wrap (IntKind.i64.wrap (IntKind.i64.wrap (k + 1) + 1))) :: (markL (IntKind.i64.wrap (IntKind.i64.wrap (IntKind.i64.wrap (k + 1) + 1) + 1)) l).2)
def heldL : Int → List DS → Int
  | k, [] => k
  | k, x :: l => if x = ((IntKind.u8.wrap k, IntKind.i16.wrap (IntKind.i64.wrap (k + 1))), IntKind.i16.wrap (IntKind.i64.wrap (IntKind.i64.wrap (k + 1) + 1))) then heldL (IntKind.i64.wrap (IntKind.i64.wrap (IntKind.i64.wrap (k + 1) + 1) + 1)) l else -1
theorem held_markL : ∀ (l : List DS) (k : Int), heldL k (markL k l).2 = (markL k l).1
  | [], _ => rfl
  | x :: l, k => by
    unfold markL heldL
    rw [if_pos rfl]
    exact held_markL l _
theorem markL_len : ∀ (l : List DS) (k : Int), (markL k l).2.length = l.length
  | [], _ => rfl
  | x :: l, k => by unfold markL; simp [markL_len l]
theorem markL_fst : ∀ (l : List DS) (k : Int), 0 ≤ k → k + 3 * l.length ≤ 9223372036854775807 → (markL k l).1 = k + 3 * l.length
  | [], k, _, _ => by simp [markL]
  | x :: l, k, h0, h => by
    simp only [List.length_cons] at h ⊢
    unfold markL
    rw [w64 (n := k + 1) (by omega) (by omega), w64 (n := k + 1 + 1) (by omega) (by omega), w64 (n := k + 1 + 1 + 1) (by omega) (by omega)]
    simp only
    rw [markL_fst l _ (by omega) (by omega)]
    omega
theorem setD_same {β : Type} {l : List β} {k : Nat} {x d : β} (h : k < l.length) : (l.set k x).getD k d = x := by
  rw [List.getD_eq_getElem?_getD, List.getElem?_set_self h]; rfl
theorem take_set {β : Type} {l : List β} {k : Nat} {x : β} (h : k < l.length) : (l.set k x).take (k + 1) = l.take k ++ [x] := by
  rw [List.take_succ_eq_append_getElem (by simpa using h), List.take_set_of_le (Nat.le_refl k)]
  simp
theorem markStoredS_pf {α : Type} (l : List DS) (n : Int) (h : l.length ≤ 1073741824) (k : Int × List DS → Option α) : Fz21.pf BIG l n k = k (markL n l) := by
  unfold Fz21.pf
  refine (iter_list l (fun i (c : Int × List DS) => (c.1, (i : Int), c.2)) (fun r c => k ((markL c.1 r).1, c.2.take (l.length - r.length) ++ (markL c.1 r).2)) (fun i c => c.2.length = l.length) (c := (n, l)) rfl (big_lt (by omega)) rfl ?_ ?_).trans (by simp)
  · rintro i hi ⟨m, c⟩ rec h1 hrec
    simp only at h1
    have hc : i < c.length := by omega
    unfold Fz21.B1
    have e1 : l.length - (l.drop (i + 1)).length = i + 1 := by rw [List.length_drop]; omega
    have e2 : l.length - (l[i] :: l.drop (i + 1)).length = i := by rw [List.length_cons, List.length_drop]; omega
    simp only [decT (show (i : Int) < (c.length : Int) by omega), inB_nat hc, cond_true, Int.toNat_natCast, List.length_set, List.set_set, setD_same hc, w64n (show i < 9223372036854775807 by omega)]
    refine (hrec (IntKind.i64.wrap (IntKind.i64.wrap (IntKind.i64.wrap (m + 1) + 1) + 1), c.set i ((IntKind.u8.wrap m, IntKind.i16.wrap (IntKind.i64.wrap (m + 1))), IntKind.i16.wrap (IntKind.i64.wrap (IntKind.i64.wrap (m + 1) + 1)))) (by simpa using h1)).trans ?_
    simp only [e1, e2, take_set hc, markL, List.append_assoc, List.cons_append, List.nil_append]
  · rintro ⟨m, c⟩ rec h1
    simp only at h1
    unfold Fz21.B1
    rw [decF (by simp only; omega)]
    simp only [cond_false, markL, List.length_nil, Nat.sub_zero, List.append_nil]
    rw [List.take_of_length_le (by omega)]
theorem s_markStoredS : Fz21.S (cl PL1 fun x => markL x.2 x.1) := Fz21.of_cl fun x h => markStoredS_pf x.1 x.2 h
theorem heldStoredS_pf {α : Type} (l : List DS) (n : Int) (h : l.length ≤ 1073741824) (k : Int → Option α) : Fz19.pf BIG l n k = k (heldL n l) := by
  unfold Fz19.pf
  refine iter_list l (fun i (c : Int) => (c, (i : Int))) (fun r c => k (heldL c r)) (fun i c => True) (c := n) rfl (big_lt (by omega)) trivial ?_ ?_
  · rintro i hi c rec _ hrec
    unfold Fz19.B1
    simp only [decT (show (i : Int) < (l.length : Int) by omega), inB_nat hi, cond_true, Int.toNat_natCast, getD_lt hi, w64n (show i < 9223372036854775807 by omega), heldL]
    generalize l[i] = x
    obtain ⟨⟨x1, x2⟩, x3⟩ := x
    simp only [Prod.mk.injEq]
    by_cases c1 : x1 = IntKind.u8.wrap c
    · rw [bneF c1, cond_false]
      by_cases c2 : x2 = IntKind.i16.wrap (IntKind.i64.wrap (c + 1))
      · rw [bneF c2, cond_false]
        by_cases c3 : x3 = IntKind.i16.wrap (IntKind.i64.wrap (IntKind.i64.wrap (c + 1) + 1))
        · rw [bneF c3, cond_false, if_pos ⟨⟨c1, c2⟩, c3⟩]
          exact hrec _ trivial
        · rw [bneT c3, if_neg (fun q => c3 q.2)]; rfl
      · rw [bneT c2, if_neg (fun q => c2 q.1.2)]; rfl
    · rw [bneT c1, if_neg (fun q => c1 q.1.1)]; rfl
  · rintro c rec _
    unfold Fz19.B1
    rw [decF (by simp only; omega)]
    rfl
theorem s_heldStoredS : Fz19.S (cl PL1 fun x => heldL x.2 x.1) := Fz19.of_cl fun x h => heldStoredS_pf x.1 x.2 h
def markR : Int → List (List DS) → Int × List (List DS)
  | k, [] => (k, [])
  | k, x :: l => ((markR (markL k x).1 l).1, (markL k x).2 :: (markR (markL k x).1 l).2)
def heldR : Int → List (List DS) → Int
  | k, [] => k
  | k, x :: l => if heldL k x < 0 then -1 else heldR (heldL k x) l
theorem markRack_pf {α : Type} (l : List (List DS)) (n : Int) (h : Bd l) (k : Int × List (List DS) → Option α) : Fz20.pf (cl PL1 fun x => markL x.2 x.1) BIG l n k = k (markR n l) := by
  have hl := h.len
  unfold Fz20.pf
  refine (iter_list l (fun i (c : Int × List (List DS)) => (c.1, (i : Int), c.2)) (fun r c => k ((markR c.1 r).1, c.2.take (l.length - r.length) ++ (markR c.1 r).2)) (fun i c => c.2.length = l.length ∧ c.2.drop i = l.drop i) (c := (n, l)) rfl (big_lt (by omega)) ⟨rfl, rfl⟩ ?_ ?_).trans (by simp)
  · rintro i hi ⟨m, c⟩ rec ⟨h1, h2⟩ hrec
    simp only at h1 h2
    have hc : i < c.length := by omega
    have hci : c[i] = l[i] := by
      have := congrArg (fun z => z[0]?) h2
      simpa [hc, hi] using this
    unfold Fz20.B1
    have e1 : l.length - (l.drop (i + 1)).length = i + 1 := by rw [List.length_drop]; omega
    have e2 : l.length - (l[i] :: l.drop (i + 1)).length = i := by rw [List.length_cons, List.length_drop]; omega
    simp only [decT (show (i : Int) < (c.length : Int) by omega), inB_nat hc, cond_true, Int.toNat_natCast, getD_lt hc, hci, cl_eq (show PL1 (l[i], m) from h.at hi), Option.bind_some, w64n (show i < 9223372036854775807 by omega)]
    refine (hrec (_, _) ⟨by simpa using h1, ?_⟩).trans ?_
    · rw [List.drop_set_of_lt (by omega)]
      have := congrArg (List.drop 1) h2
      simpa [List.drop_drop, Nat.add_comm] using this
    · simp only [e1, e2, take_set hc, markR, List.append_assoc, List.cons_append, List.nil_append]
  · rintro ⟨m, c⟩ rec ⟨h1, h2⟩
    simp only at h1
    unfold Fz20.B1
    rw [decF (by simp only; omega)]
    simp only [cond_false, markR, List.length_nil, Nat.sub_zero, List.append_nil]
    rw [List.take_of_length_le (by omega)]
theorem s_markRack : Fz20.S (cl Bd1 fun x => markR x.2 x.1) := Fz20.of_cl s_markStoredS fun x h => markRack_pf x.1 x.2 h
theorem heldRack_pf {α : Type} (l : List (List DS)) (n : Int) (h : Bd l) (k : Int → Option α) : Fz18.pf (cl PL1 fun x => heldL x.2 x.1) BIG l n k = k (heldR n l) := by
  have hl := h.len
  unfold Fz18.pf
  refine iter_list l (fun i (c : Int) => (c, (i : Int))) (fun r c => k (heldR c r)) (fun i c => True) (c := n) rfl (big_lt (by omega)) trivial ?_ ?_
  · rintro i hi c rec _ hrec
    unfold Fz18.B1
    simp only [decT (show (i : Int) < (l.length : Int) by omega), inB_nat hi, cond_true, Int.toNat_natCast, getD_lt hi, cl_eq (show PL1 (l[i], c) from h.at hi), Option.bind_some, w64n (show i < 9223372036854775807 by omega), heldR]
    by_cases q : heldL c l[i] < 0
    · rw [decT q, if_pos q]; rfl
    · rw [decF q, if_neg q]; exact hrec _ trivial
  · rintro c rec _
    unfold Fz18.B1
    rw [decF (by simp only; omega)]
    rfl
theorem s_heldRack : Fz18.S (cl Bd1 fun x => heldR x.2 x.1) := Fz18.of_cl s_heldStoredS fun x h => heldRack_pf x.1 x.2 h
theorem held_markR : ∀ (l : List (List DS)) (k : Int), 0 ≤ k → k + 3 * (l.map List.length).sum ≤ 9223372036854775807 → heldR k (markR k l).2 = (markR k l).1 ∧ 0 ≤ (markR k l).1
  | [], k, h0, _ => ⟨rfl, h0⟩
  | x :: l, k, h0, h => by
    simp only [List.map_cons, List.sum_cons] at h
    have e := markL_fst x k h0 (by omega)
    unfold markR heldR
    simp only [held_markL]
    rw [if_neg (by omega)]
    exact held_markR l _ (by omega) (by omega)
theorem markR_bd (l : List (List DS)) (k : Int) (h : Bd l) : Bd (markR k l).2 := by
  have : ∀ (l : List (List DS)) (k : Int), (markR k l).2.map List.length = l.map List.length := by
    intro l
    induction l with
    | nil => intro k; rfl
    | cons x l ih => intro k; unfold markR; simp [markL_len, ih]
  have h2 := congrArg List.length (this l k)
  simp only [List.length_map] at h2
  unfold Bd at h ⊢
  rw [this, h2]
  exact h
def validB (b : DB) : Bool := decide (1 ≤ b.1) && decide (b.1 ≤ 20) && (decide (1900 ≤ b.2) && decide (b.2 ≤ 2099))
def validS (s : DS) : Bool := validB s.1 && (decide (0 ≤ s.2) && decide (s.2 ≤ 2000))
def validR (r : List (List DS)) : Bool := decide (r.length ≤ 8) && r.all fun l => decide (l.length ≤ 6) && l.all validS
/-- Whole numbers of their kinds. -/
def wB (b : DB) : Prop := 0 ≤ b.1 ∧ b.1 ≤ 255 ∧ -32768 ≤ b.2 ∧ b.2 ≤ 32767
def wS (s : DS) : Prop := wB s.1 ∧ -32768 ≤ s.2 ∧ s.2 ≤ 32767
def wL (l : List DS) : Prop := PL l ∧ ∀ s, s ∈ l → wS s
def wR (r : List (List DS)) : Prop := Bd r ∧ ∀ l, l ∈ r → ∀ s, s ∈ l → wS s
theorem wR.at {r : List (List DS)} (h : wR r) {k : Nat} (hk : k < r.length) : wL r[k] := ⟨h.1.pl hk, h.2 _ (List.getElem_mem hk)⟩
theorem wL.at {l : List DS} (h : wL l) {k : Nat} (hk : k < l.length) : wS l[k] := h.2 _ (List.getElem_mem hk)
theorem s_l00In : spec_l00In.S (tot fun x => decide (x.2.1 ≤ x.1) && decide (x.1 ≤ x.2.2)) := spec_l00In.of_tot fun x k => by
  unfold spec_l00In.pf
  by_cases c : x.2.1 ≤ x.1
  · rw [decT (show x.1 ≥ x.2.1 from c)]; rfl
  · rw [decF (show ¬ x.1 ≥ x.2.1 from c)]; rfl
theorem s_within : Fz8.S (tot fun x => decide (x.2.1 ≤ x.1) && decide (x.1 ≤ x.2.2)) := Fz8.of_tot fun x k => by
  unfold Fz8.pf
  by_cases c : x.2.1 ≤ x.1
  · rw [decT c]; rfl
  · rw [decF c]; rfl
theorem s_l01Bottle : Fz28.S (cl wB validB) := Fz28.of_cl s_l00In fun x ⟨h1, h2, h3, h4⟩ k => by
  unfold Fz28.pf validB
  simp only [tot_eq, Option.bind_some, w64 (n := x.1) (by omega) (by omega), w64 (n := x.2) (by omega) (by omega)]
  cases decide (1 ≤ x.1) && decide (x.1 ≤ 20) <;> rfl
theorem s_ValidBottle : Fz2.S (cl wB validB) := Fz2.of_cl s_within fun x ⟨h1, h2, h3, h4⟩ k => by
  unfold Fz2.pf validB
  simp only [tot_eq, Option.bind_some, w64 (n := x.1) (by omega) (by omega), w64 (n := x.2) (by omega) (by omega)]
  cases decide (1 ≤ x.1) && decide (x.1 ≤ 20) <;> rfl
theorem s_l04Stored : Fz35.S (cl wS validS) := Fz35.of_cl s_l01Bottle s_l00In fun x ⟨h1, h2, h3⟩ k => by
  unfold Fz35.pf validS
  rw [cl_eq h1, w64 (n := x.2) (by omega) (by omega)]
  simp only [tot_eq, Option.bind_some]
  cases validB x.1 <;> rfl
theorem s_validStored : Fz7.S (cl wS validS) := Fz7.of_cl s_ValidBottle s_within fun x ⟨h1, h2, h3⟩ k => by
  unfold Fz7.pf validS
  rw [cl_eq h1, w64 (n := x.2) (by omega) (by omega)]
  simp only [tot_eq, Option.bind_some]
  cases validB x.1 <;> rfl
theorem any_not {β : Type} (l : List β) (p : β → Bool) : (l.any fun x => !p x) = !l.all p := by
  induction l with
  | nil => rfl
  | cons x l ih => rw [List.any_cons, List.all_cons, ih, Bool.not_and]
theorem s_l04All : Fz32.S (cl wL fun l => l.all validS) := Fz32.of_cl s_l04Stored fun x h k => by
  have hl : x.length ≤ 1073741824 := h.1
  unfold Fz32.pf
  rw [iter_first x (fun i => (i : Int)) (fun s => !validS s) (fun _ _ => k false) (k true) (x := 0) rfl (big_lt (by omega)) ?_ ?_, firstOr_const, any_not]
  · cases x.all validS <;> rfl
  · intro i hi rec
    unfold Fz32.B1
    simp only [decT (show (i : Int) < (x.length : Int) by omega), inB_nat hi, cond_true, Int.toNat_natCast, getD_lt hi, cl_eq (h.at hi), Option.bind_some, w64n (show i < 9223372036854775807 by omega)]
  · intro rec
    unfold Fz32.B1
    rw [decF (by omega)]
    rfl
theorem s_l04Ok : spec_l04Ok.S (cl wR validR) := spec_l04Ok.of_cl s_l04All fun x h k => by
  have hl := h.1.len
  unfold spec_l04Ok.pf
  rw [iter_first x (fun i => (i : Int)) (fun l => !(decide (l.length ≤ 6) && l.all validS)) (fun _ _ => k false) (k (decide (x.length ≤ 8))) (x := 0) rfl (big_lt (by omega)) ?_ ?_, firstOr_const, any_not]
  · unfold validR
    cases x.all fun l => decide (l.length ≤ 6) && l.all validS
    · rw [Bool.and_false]; rfl
    · rw [Bool.and_true]; rfl
  · intro i hi rec
    have := h.1.at hi
    unfold spec_l04Ok.B1
    simp only [decT (show (i : Int) < (x.length : Int) by omega), inB_nat hi, cond_true, Int.toNat_natCast, getD_lt hi, cl_eq (h.at hi), Option.bind_some, w64n (show i < 9223372036854775807 by omega)]
    by_cases c : x[i].length ≤ 6
    · rw [decF (show ¬ ((x[i].length : Int) > 6) by omega), decT c]; rfl
    · rw [decT (show ((x[i].length : Int) > 6) by omega), decF c]; rfl
  · intro rec
    unfold spec_l04Ok.B1
    rw [decF (by omega)]
    simp only [cond_false]
    congr 1
    by_cases c : x.length ≤ 8
    · rw [decT c, decT (by omega)]
    · rw [decF c, decF (by omega)]
theorem s_ValidRack_1_1 : Fz5.S (cl wS fun s => !validS s) := Fz5.of_cl s_validStored fun x h k => by
  unfold Fz5.pf
  rw [cl_eq h]; rfl
/-- Where the first one is. -/
def indexI {β : Type} (p : β → Bool) (l : List β) : Int := match l.findIdx? p with
  | some i => i
  | none => -1
theorem firstOr_index {α β : Type} (p : β → Bool) (k : Int → Option α) : ∀ (l : List β) (j : Nat), firstOr p (fun i _ => k (i : Int)) (k (-1)) j l = k (match l.findIdx? p with | some i => ((j + i : Nat) : Int) | none => -1)
  | [], _ => rfl
  | x :: l, j => by
    rw [firstOr, List.findIdx?_cons]
    cases p x with
    | true => simp
    | false =>
      rw [cond_false, firstOr_index p k l]
      cases l.findIdx? p with
      | none => rfl
      | some i => simp [Nat.add_assoc, Nat.add_comm 1 i]
theorem indexI_nn {β : Type} (p : β → Bool) (l : List β) : decide (indexI p l ≥ 0) = l.any p := by
  unfold indexI
  cases h : l.findIdx? p with
  | none =>
    have := List.findIdx?_eq_none_iff.1 h
    simp only
    rw [decF (by omega)]
    symm
    rw [List.any_eq_false]
    intro x hx
    simpa using this x hx
  | some i =>
    simp only
    rw [decT (by omega)]
    symm
    obtain ⟨hi, hp, _⟩ := List.findIdx?_eq_some_iff_getElem.1 h
    exact List.any_eq_true.2 ⟨_, List.getElem_mem hi, hp⟩
theorem s_index_1_1 : Fz25.S (cl wL fun l => indexI (fun s => !validS s) l) :=
  Fz25.of_cl s_ValidRack_1_1 fun x h k => by
  have hl : x.length ≤ 1073741824 := h.1
  unfold Fz25.pf
  rw [iter_first x (fun i => (i : Int)) (fun s => !validS s) (fun i _ => k (i : Int)) (k (-1)) (x := 0) rfl (big_lt (by omega)) ?_ ?_, firstOr_index]
  · unfold indexI
    congr 1
    cases x.findIdx? fun s => !validS s <;> simp
  · intro i hi rec
    unfold Fz25.B1
    simp only [decT (show (i : Int) < (x.length : Int) by omega), inB_nat hi, cond_true, Int.toNat_natCast, getD_lt hi, cl_eq (h.at hi), Option.bind_some, w64n (show i < 9223372036854775807 by omega)]
  · intro rec
    unfold Fz25.B1
    rw [decF (by omega)]
    rfl
theorem s_contains_1_1 : Fz23.S (cl wL fun l => !l.all validS) :=
  Fz23.of_cl s_index_1_1 fun x h k => by
  unfold Fz23.pf
  rw [cl_eq h, Option.bind_some, indexI_nn, any_not]
theorem s_ValidRack_1 : Fz4.S (cl wL fun l => !(decide (l.length ≤ 6) && l.all validS)) := Fz4.of_cl s_contains_1_1 fun x h k => by
  unfold Fz4.pf
  have hl : x.length ≤ 1073741824 := h.1
  by_cases c : x.length ≤ 6
  · rw [decF (show ¬ ((x.length : Int) > 6) by omega), decT c, cl_eq h]; rfl
  · rw [decT (show ((x.length : Int) > 6) by omega), decF c]; rfl
theorem s_index_1 : Fz24.S (cl wR fun r => indexI (fun l => !(decide (l.length ≤ 6) && l.all validS)) r) :=
  Fz24.of_cl s_ValidRack_1 fun x h k => by
  have hl := h.1.len
  unfold Fz24.pf
  rw [iter_first x (fun i => (i : Int)) (fun l => !(decide (l.length ≤ 6) && l.all validS)) (fun i _ => k (i : Int)) (k (-1)) (x := 0) rfl (big_lt (by omega)) ?_ ?_, firstOr_index]
  · unfold indexI
    congr 1
    cases x.findIdx? fun l => !(decide (l.length ≤ 6) && l.all validS) <;> simp
  · intro i hi rec
    unfold Fz24.B1
    simp only [decT (show (i : Int) < (x.length : Int) by omega), inB_nat hi, cond_true, Int.toNat_natCast, getD_lt hi, cl_eq (h.at hi), Option.bind_some, w64n (show i < 9223372036854775807 by omega)]
  · intro rec
    unfold Fz24.B1
    rw [decF (by omega)]
    rfl
theorem s_contains_1 : Fz22.S (cl wR fun r => !r.all fun l => decide (l.length ≤ 6) && l.all validS) :=
  Fz22.of_cl s_index_1 fun x h k => by
  unfold Fz22.pf
  rw [cl_eq h, Option.bind_some, indexI_nn, any_not]
theorem s_impl_ValidRack : Fz3.S (cl wR validR) := Fz3.of_cl s_contains_1 fun x h k => by
  unfold Fz3.pf validR
  have hl := h.1.len
  by_cases c : x.length ≤ 8
  · rw [decT (show ((x.length : Int) ≤ 8) by omega), decT c, cl_eq h]; simp
  · rw [decF (show ¬ ((x.length : Int) ≤ 8) by omega), decF c]; rfl
theorem bneS (a : Int) : (a != a) = false := by simp
theorem okS {n : Nat} (h : n ≤ 4294967296) : okL n = true := okL_true h
/-- What the harness asks of a rack that came back. -/
theorem held_ok (q : List (List DS)) (h : Bd q) : heldR 1 (markR 1 q).2 = (markR 1 q).1 ∧ 0 ≤ (markR 1 q).1 := held_markR q 1 (by omega) (by unfold Bd at h; omega)
def cnt (l : List DS) (d : Int) : Int := match l with
  | [] => 0
  | s :: l => (if s.2 < d then 1 else 0) + cnt l d
/-- Few lanes, each of them short. -/
def Few (o : List (List DS)) : Prop := o.length ≤ 8 ∧ ∀ x, x ∈ o → x.length ≤ 6
theorem Few.at {o : List (List DS)} (h : Few o) {n : Nat} (hn : n < o.length) : o[n].length ≤ 6 := h.2 _ (List.getElem_mem hn)
theorem Few.set {o : List (List DS)} (h : Few o) {n : Nat} {x : List DS} (hx : x.length ≤ 6) : Few (o.set n x) := ⟨by rw [List.length_set]; exact h.1, fun y hy => by
  rcases List.mem_or_eq_of_mem_set hy with q | rfl
  · exact h.2 y q
  · exact hx⟩
/-- All that lies in a rack. -/
def AllIn (Q : DS → Prop) (o : List (List DS)) : Prop := ∀ l, l ∈ o → ∀ s, s ∈ l → Q s
theorem AllIn.set {Q : DS → Prop} {o : List (List DS)} (h : AllIn Q o) {n : Nat} {x : List DS} (hx : ∀ s, s ∈ x → Q s) : AllIn Q (o.set n x) := fun l hl s hs => by
  rcases List.mem_or_eq_of_mem_set hl with q | rfl
  · exact h l q s hs
  · exact hx s hs
theorem AllIn.at {Q : DS → Prop} {o : List (List DS)} (h : AllIn Q o) {n : Nat} (hn : n < o.length) : ∀ s, s ∈ o.getD n [] → Q s := fun s hs => by
  rw [getD_lt hn] at hs
  exact h _ (List.getElem_mem hn) s hs
/-- A crate: twelve places. -/
def Cr (c : List DB) : Prop := c.length = 12
def CrS (s : List (List DB)) : Prop := s.length ≤ 1073741824 ∧ ∀ c, c ∈ s → c.length = 12
theorem CrS.at {s : List (List DB)} (h : CrS s) {i : Nat} (hi : i < s.length) : Cr s[i] := h.2 _ (List.getElem_mem hi)
def wC (c : List DB) : Prop := c.length = 12 ∧ ∀ b, b ∈ c → wB b
def wCs (s : List (List DB)) : Prop := CrS s ∧ ∀ c, c ∈ s → ∀ b, b ∈ c → wB b
theorem wCs.at {s : List (List DB)} (h : wCs s) {i : Nat} (hi : i < s.length) : wC s[i] := ⟨h.1.at hi, h.2 _ (List.getElem_mem hi)⟩
def POneB (x : ByteArray × ByteArray) : Prop := ∃ c, x.2 = ⟨#[c]⟩
def idxV (x : ByteArray × ByteArray) : Int := Lib.indexByte x.1.data.toList (x.2.data.getD 0 0)
def cntV (x : ByteArray × ByteArray) : Int := (Lib.countByte x.1.data.toList (x.2.data.getD 0 0) : Nat)
theorem s_stridx0 : Fz12.S (cl POneB idxV) where
  fn := ⟨Tryd.f68, by kernel_rfl, by decide, by decide⟩
  does := fun avs r hr vs w gh MBb hR => by
    obtain ⟨x, y, h1, h2, rfl⟩ := mkSig_run hr
    obtain rfl := Fz12.dec_eq h1
    obtain ⟨⟨c, hc⟩, rfl⟩ := cl_some h2
    obtain ⟨x1, x2⟩ := x
    simp only at hc
    subst hc
    have hR : R 2 w ⟨MBb, _⟩ ⟨[.val .str x1, .val .str ⟨#[c]⟩], []⟩ gh ⟨vs.toArray, []⟩ w := hR
    have hsz : vs.length = 2 := by simpa using hR.tm
    match vs, hsz with
    | [v0, v1], _ =>
      have a0 : v0 = .string x1 := (hR.slots 0 (by omega)).2.2
      have a1 : v1 = .string ⟨#[c]⟩ := (hR.slots 1 (by omega)).2.2
      subst a0 a1
      refine (Go.Proofs.Any.stringslite_Index_one Tryd.lays219 x1 c w).mono fun e w' ⟨he, hw⟩ => ?_
      subst he hw
      exact ⟨_, gh, [.val (.int .i64) (idxV (x1, ⟨#[c]⟩))], [.int .i64 (idxV (x1, ⟨#[c]⟩))], hR.ret (Go.RowKit.Below.refl _ _) (fun _ => Nat.le_refl _) _ _ (All2.cons_iff.2 ⟨⟨rfl, trivial, rfl⟩, All2.nil _⟩), rfl, rfl, rfl⟩
theorem s_stridx : Fz39.S (cl POneB idxV) := Fz39.of_cl s_stridx0 fun x h k => by
  unfold Fz39.pf
  rw [cl_eq (show POneB (x.1, x.2) from h), Option.bind_some]
theorem s_strcnt : Fz36.S (cl POneB cntV) where
  fn := ⟨Tryd.f66, by kernel_rfl, by decide, by decide⟩
  does := fun avs r hr vs w gh MBb hR => by
    obtain ⟨x, y, h1, h2, rfl⟩ := mkSig_run hr
    obtain rfl := Fz36.dec_eq h1
    obtain ⟨⟨c, hc⟩, rfl⟩ := cl_some h2
    obtain ⟨x1, x2⟩ := x
    simp only at hc
    subst hc
    have hR : R 2 w ⟨MBb, _⟩ ⟨[.val .str x1, .val .str ⟨#[c]⟩], []⟩ gh ⟨vs.toArray, []⟩ w := hR
    have hsz : vs.length = 2 := by simpa using hR.tm
    match vs, hsz with
    | [v0, v1], _ =>
      have a0 : v0 = .string x1 := (hR.slots 0 (by omega)).2.2
      have a1 : v1 = .string ⟨#[c]⟩ := (hR.slots 1 (by omega)).2.2
      subst a0 a1
      refine (Go.Proofs.Any.strings_Count_one Tryd.lays138 x1 c w).mono fun e w' ⟨he, hw⟩ => ?_
      subst he hw
      exact ⟨_, gh, [.val (.int .i64) (cntV (x1, ⟨#[c]⟩))], [.int .i64 (cntV (x1, ⟨#[c]⟩))], hR.ret (Go.RowKit.Below.refl _ _) (fun _ => Nat.le_refl _) _ _ (All2.cons_iff.2 ⟨⟨rfl, trivial, rfl⟩, All2.nil _⟩), rfl, rfl, rfl⟩
def PRd (x : ByteArray × Int × Int) : Prop := x.1.size ≤ 281474976710656
def vRd (x : ByteArray × Int × Int) : Int × Bool := match Lib.parseIntB 64 x.1.data.toList with
  | .ok v => (v, decide ((⟨(Lib.itoa v).toArray⟩ : ByteArray).toList = x.1.toList) && (decide (x.2.1 ≤ v) && decide (v ≤ x.2.2)))
  | .range => (Lib.intSat 64 x.1.data.toList, false)
  | _ => (0, false)
theorem gv_at {w : World} {B : List Nat} (h : GO w B) : (∃ t fr, w.heap[1]? = some (.cells ((List.range 20).map fun i => Value.int .u64 ((10 ^ i : Nat) : Int)).toArray t fr)) ∧ (∃ t p a fr, w.heap[2]? = some (.cells #[.iface t p] a fr)) ∧ (∃ t p a fr, w.heap[3]? = some (.cells #[.iface t p] a fr)) := by
  have h := h.1
  refine ⟨?_, ?_, ?_⟩
  · obtain ⟨cs, t, fr, h1, h2⟩ := h _ (List.mem_cons_self ..)
    have h2 : cs = _ := h2
    rw [h2] at h1
    exact ⟨t, fr, h1⟩
  · obtain ⟨cs, t, fr, h1, q, p, h2⟩ := h _ (List.mem_cons_of_mem _ (List.mem_cons_self ..))
    rw [h2] at h1
    exact ⟨q, p, t, fr, h1⟩
  · obtain ⟨cs, t, fr, h1, q, p, h2⟩ := h _ (List.mem_cons_of_mem _ (List.mem_cons_of_mem _ (List.mem_cons_self ..)))
    rw [h2] at h1
    exact ⟨q, p, t, fr, h1⟩
theorem s_readDec : Fz6.S (cl PRd vRd) where
  fn := ⟨Tryd.f31, by kernel_rfl, by decide, by decide⟩
  does := fun avs r hr vs w gh MBb hR => by
    obtain ⟨x, y, h1, h2, rfl⟩ := mkSig_run hr
    obtain rfl := Fz6.dec_eq h1
    obtain ⟨hp, rfl⟩ := cl_some h2
    obtain ⟨s, lo, hi⟩ := x
    have hR : R 3 w ⟨MBb, _⟩ ⟨[.val .str s, .val (.int .i64) lo, .val (.int .i64) hi], []⟩ gh ⟨vs.toArray, []⟩ w := hR
    have hsz : vs.length = 3 := by simpa using hR.tm
    match vs, hsz with
    | [v0, v1, v2], _ =>
      have a0 : v0 = .string s := (hR.slots 0 (by omega)).2.2
      have a1 : v1 = .int .i64 lo := (hR.slots 1 (by omega)).2.2
      have a2 : v2 = .int .i64 hi := (hR.slots 2 (by omega)).2.2
      subst a0 a1 a2
      obtain ⟨g1, g2, g3⟩ := gv_at hR.go
      refine (Go.Proofs.Tryd.calls_read s lo hi w hp g1 g2 g3).mono fun e w' ⟨hw, he⟩ => ?_
      have he2 : e = .returned (.tuple #[.int .i64 (vRd (s, lo, hi)).1, .bool (vRd (s, lo, hi)).2]) := by
        unfold vRd
        simp only
        cases hq : Lib.parseIntB 64 s.data.toList with
        | ok v => rw [hq] at he; exact he
        | range => rw [hq] at he; exact he
        | _ => rw [hq] at he; exact he
      subst he2
      exact ⟨_, gh, [.val (.int .i64) (vRd (s, lo, hi)).1, .val .bool (vRd (s, lo, hi)).2], [.int .i64 (vRd (s, lo, hi)).1, .bool (vRd (s, lo, hi)).2], hR.ret hw (fun h => h.elim) _ _ (All2.cons_iff.2 ⟨⟨rfl, trivial, rfl⟩, All2.cons_iff.2 ⟨⟨rfl, trivial, rfl⟩, All2.nil _⟩⟩), rfl, rfl, rfl⟩
abbrev lst (s : ByteArray) : List UInt8 := s.data.toList
def toB (l : List UInt8) : ByteArray := ⟨l.toArray⟩
theorem toB_lst (s : ByteArray) : toB (lst s) = s := by
  obtain ⟨d⟩ := s
  simp [toB]
theorem lst_toB (l : List UInt8) : lst (toB l) = l := rfl
theorem lst_inj {s t : ByteArray} (h : lst s = lst t) : s = t := by rw [← toB_lst s, h, toB_lst]
theorem size_lst (s : ByteArray) : s.size = (lst s).length := by
  exact Array.length_toList.symm
theorem ext_lst (s : ByteArray) (a b : Nat) : ByteArray.extract s a b = toB (((lst s).drop a).take (b - a)) := by
  refine lst_inj ?_
  rw [lst_toB]
  show (ByteArray.extract s a b).data.toList = _
  rw [ByteArray.data_extract, Array.toList_extract]
theorem list_lst (s : ByteArray) : ByteArray.toList s = lst s := Go.ByteArray.toList_eq s
theorem at_lst (s : ByteArray) {i : Nat} (h : i < (lst s).length) : strAt s i = (((lst s)[i]).toNat : Int) := by
  have h2 : i < s.size := by rw [size_lst]; exact h
  unfold strAt
  rw [dif_pos h2]
  congr 1
theorem empty_lst (s : ByteArray) : (ByteArray.toList s == ByteArray.toList (bytesOf [])) = decide (lst s = []) := by
  rw [list_lst, list_lst]
  have : lst (bytesOf []) = [] := rfl
  rw [this]
  cases lst s <;> rfl
def splitL (c : UInt8) : List UInt8 → List (List UInt8)
  | [] => [[]]
  | x :: l => if x = c then [] :: splitL c l else match splitL c l with
    | [] => [[x]]
    | p :: r => (x :: p) :: r
theorem splitL_ne (c : UInt8) (l : List UInt8) : splitL c l ≠ [] := by
  cases l with
  | nil => simp [splitL]
  | cons x l =>
    unfold splitL
    split
    · simp
    · split <;> simp
/-- A beginning before the first part. -/
def onto (q : List UInt8) : List (List UInt8) → List (List UInt8)
  | [] => [q]
  | p :: r => (q ++ p) :: r
theorem onto_nil {L : List (List UInt8)} (h : L ≠ []) : onto [] L = L := by
  cases L with
  | nil => exact absurd rfl h
  | cons p r => rfl
theorem onto_step (c x : UInt8) (q : List UInt8) (l : List UInt8) (h : x ≠ c) : onto q (splitL c (x :: l)) = onto (q ++ [x]) (splitL c l) := by
  conv => lhs; rw [splitL]
  rw [if_neg h]
  have := splitL_ne c l
  cases hs : splitL c l with
  | nil => exact absurd hs this
  | cons p r => simp [onto]
theorem onto_cut (c : UInt8) (q : List UInt8) (l : List UInt8) : onto q (splitL c (c :: l)) = q :: splitL c l := by
  conv => lhs; rw [splitL]
  rw [if_pos rfl]
  simp [onto]
theorem splitL_len (c : UInt8) : ∀ l : List UInt8, (splitL c l).length ≤ l.length + 1
  | [] => by simp [splitL]
  | x :: l => by
    have := splitL_len c l
    unfold splitL
    split
    · simp only [List.length_cons]; omega
    · split
      · simp
      · rename_i hs
        rw [hs] at this
        simp only [List.length_cons] at *
        omega
def PSpl (x : ByteArray × Int) : Prop := x.1.size ≤ 1073741824 ∧ 0 ≤ x.2 ∧ x.2 ≤ 255
def byteI (n : Int) : UInt8 := UInt8.ofNat n.toNat
theorem byteI_eq {n : Int} (h0 : 0 ≤ n) (h1 : n ≤ 255) (b : UInt8) : ((b.toNat : Int) == n) = decide (b = byteI n) := by
  have hb : (byteI n).toNat = n.toNat := by
    unfold byteI
    rw [UInt8.toNat_ofNat']
    omega
  by_cases c : b = byteI n
  · rw [decT c, c, hb]
    exact beqT (by omega)
  · rw [decF c]
    refine beqF fun e => c ?_
    refine UInt8.toNat_inj.1 ?_
    rw [hb]
    omega
theorem s_l01Split : Fz31.S (cl PSpl fun x => (splitL (byteI x.2) (lst x.1)).map toB) := Fz31.of_cl fun x h k => by
  obtain ⟨s, n⟩ := x
  obtain ⟨h1, h2, h3⟩ := h
  simp only at h1 h2 h3
  rw [size_lst] at h1
  show Fz31.pf BIG s n k = k ((splitL (byteI n) (lst s)).map toB)
  unfold Fz31.pf
  refine (iter_list (lst s) (fun i (c : Nat × List ByteArray) => ((c.1 : Int), (i : Int), c.2)) (fun r c => k (c.2 ++ (onto (((lst s).take ((lst s).length - r.length)).drop c.1) (splitL (byteI n) r)).map toB)) (fun i c => c.1 ≤ i ∧ c.2.length ≤ i) (c := (0, [])) rfl (big_lt (by omega)) ⟨Nat.le_refl _, Nat.le_refl _⟩ ?_ ?_).trans ?_
  · rintro i hi ⟨b, o⟩ rec ⟨q1, q2⟩ hrec
    simp only at q1 q2
    unfold Fz31.B1
    simp only
    rw [size_lst]
    simp only [decT (show (i : Int) < ((lst s).length : Int) by omega), inB_nat hi, cond_true, Int.toNat_natCast, at_lst s hi, byteI_eq h2 h3, w64n (show i < 9223372036854775807 by omega)]
    have el : (lst s).length - ((lst s)[i] :: (lst s).drop (i + 1)).length = i := by rw [List.length_cons, List.length_drop]; omega
    have el2 : (lst s).length - ((lst s).drop (i + 1)).length = i + 1 := by rw [List.length_drop]; omega
    rw [el]
    by_cases c : (lst s)[i] = byteI n
    · rw [decT c, cond_true, inW_true (by omega) (by omega) (by omega), cond_true, okS (by rw [List.length_singleton]; omega), cond_true]
      have := hrec (i + 1, o ++ [ByteArray.extract s b i]) ⟨Nat.le_refl _, by simp only [List.length_append, List.length_singleton]; omega⟩
      refine this.trans ?_
      simp only
      rw [el2, c, onto_cut, List.map_cons, List.append_assoc, List.drop_of_length_le (by rw [List.length_take]; omega), onto_nil (splitL_ne _ _), ext_lst, List.drop_take]
      rfl
    · rw [decF c, cond_false]
      have := hrec (b, o) ⟨by simp only; omega, by simp only; omega⟩
      refine this.trans ?_
      simp only
      rw [el2, onto_step _ _ _ _ c, List.take_succ_eq_append_getElem hi, List.drop_append_of_le_length (by rw [List.length_take]; omega)]
  · rintro ⟨b, o⟩ rec ⟨q1, q2⟩
    simp only at q1 q2
    unfold Fz31.B1
    simp only
    rw [size_lst, decF (by omega), cond_false, inW_true (by omega) (by omega) (by omega), cond_true, okS (by rw [List.length_singleton]; omega), cond_true]
    have e : ByteArray.extract s b (((lst s).length : Nat) : Int).toNat = toB ((lst s).drop b) := by rw [ext_lst, Int.toNat_natCast, List.take_of_length_le (by rw [List.length_drop]; omega)]
    simp only [Int.toNat_natCast] at e ⊢
    rw [e, List.length_nil, Nat.sub_zero, List.take_length]
    show _ = k (o ++ [toB (List.drop b (lst s) ++ [])])
    rw [List.append_nil]
  · simp only
    rw [Nat.sub_self, List.take_zero, List.drop_nil, onto_nil (splitL_ne _ _)]
    rfl

theorem idx_split (c : UInt8) : ∀ l : List UInt8, (Lib.indexByte l c = -1 ∧ l.count c = 0 ∧ splitL c l = [l] ∧ c ∉ l) ∨
    (∃ m : Nat, m < l.length ∧ Lib.indexByte l c = (m : Int) ∧ splitL c l = l.take m :: splitL c (l.drop (m + 1)) ∧ l.count c = (l.drop (m + 1)).count c + 1)
  | [] => .inl ⟨rfl, rfl, rfl, by simp⟩
  | x :: l => by
    by_cases e : x = c
    · subst e
      refine .inr ⟨0, by simp, ?_, ?_, ?_⟩
      · simp [Lib.indexByte]
      · rw [splitL, if_pos rfl]; rfl
      · simp
    · have hne : (x == c) = false := by simpa using e
      rcases idx_split c l with ⟨h1, h2, h3, h4⟩ | ⟨m, h1, h2, h3, h4⟩
      · refine .inl ⟨?_, ?_, ?_, ?_⟩
        · rw [Lib.indexByte, hne, h1]; rfl
        · rw [List.count_cons, h2, hne]; rfl
        · rw [splitL, if_neg e, h3]
        · intro q
          rcases List.mem_cons.1 q with q | q
          · exact e q.symm
          · exact h4 q
      · refine .inr ⟨m + 1, by simp only [List.length_cons]; omega, ?_, ?_, ?_⟩
        · have h5 : ((m : Int) == -1) = false := beqF (by omega)
          rw [Lib.indexByte, hne, h2]
          simp only [Bool.false_eq_true, if_false]
          rw [h5]
          simp
        · rw [splitL, if_neg e, h3]
          rfl
        · rw [List.count_cons, h4, hne]
          simp
theorem gen_loop {α : Type} (c : UInt8) (cnt : Nat) (hc : cnt ≤ 1073741824) (k : List ByteArray → Option α) (K0 : ByteArray × Int × List ByteArray → Int → Option α) (K1 : ByteArray × Int × List ByteArray → Option α)
    (hK1 : ∀ s' a, a.length = cnt + 1 → K1 (s', (cnt : Int), a) = k (a.take cnt ++ [s'])) :
    ∀ (j i fuel : Nat) (s' : ByteArray) (a : List ByteArray), i + j = cnt → j < fuel → (lst s').length ≤ 1073741824 → (lst s').count c = j → a.length = cnt + 1 →
      iter (Fz41.B1 (cl POneB idxV) ⟨#[c]⟩ 0 (cnt : Int) K0 K1) fuel (s', (i : Int), a) = k (a.take i ++ (splitL c (lst s')).map toB)
  | _, _, 0, _, _, _, hf, _, _, _ => absurd hf (Nat.not_lt_zero _)
  | 0, i, f + 1, s', a, hi, _, hs, hj, ha => by
    show Fz41.B1 (cl POneB idxV) ⟨#[c]⟩ 0 (cnt : Int) K0 K1 _ _ = _
    unfold Fz41.B1
    obtain rfl : i = cnt := by omega
    simp only
    rw [decF (by omega), cond_false, hK1 s' a ha]
    rcases idx_split c (lst s') with ⟨h1, h2, h3, _⟩ | ⟨m, h1, h2, h3, h4⟩
    · rw [h3, List.map_singleton, toB_lst]
    · omega
  | j + 1, i, f + 1, s', a, hi, hf, hs, hj, ha => by
    show Fz41.B1 (cl POneB idxV) ⟨#[c]⟩ 0 (cnt : Int) K0 K1 (iter (Fz41.B1 (cl POneB idxV) ⟨#[c]⟩ 0 (cnt : Int) K0 K1) f) _ = _
    rcases idx_split c (lst s') with ⟨h1, h2, h3, _⟩ | ⟨m, h1, h2, h3, h4⟩
    · omega
    · have ih := gen_loop c cnt hc k K0 K1 hK1 j (i + 1) f (toB ((lst s').drop (m + 1))) (a.set i (toB ((lst s').take m))) (by omega) (by omega) (by rw [lst_toB, List.length_drop]; omega) (by rw [lst_toB]; omega) (by rw [List.length_set]; exact ha)
      generalize iter (Fz41.B1 (cl POneB idxV) ⟨#[c]⟩ 0 (cnt : Int) K0 K1) f = rec at *
      unfold Fz41.B1
      simp only
      have hidx : idxV (s', ⟨#[c]⟩) = (m : Int) := h2
      have hI : cl POneB idxV (s', ⟨#[c]⟩) = some (m : Int) := by rw [cl_eq (show POneB (s', ⟨#[c]⟩) from ⟨c, rfl⟩), hidx]
      have hsz : (⟨#[c]⟩ : ByteArray).size = 1 := rfl
      rw [decT (show (i : Int) < (cnt : Int) by omega), cond_true, hI, Option.bind_some, decF (show ¬ ((m : Int) < 0) by omega), cond_false, hsz, Int.add_zero, w64 (show -9223372036854775808 ≤ (m : Int) by omega) (by omega), size_lst, inW_true (by omega) (by omega) (by omega), cond_true, inB_nat (by omega), cond_true]
      rw [show ((1 : Nat) : Int) = 1 from rfl, w64n (show m < 9223372036854775807 by omega), inW_true (by omega) (by omega) (by omega), cond_true, w64n (show i < 9223372036854775807 by omega)]
      simp only [Int.toNat_natCast]
      rw [ext_lst, ext_lst, List.take_of_length_le (show ((lst s').drop (m + 1)).length ≤ (lst s').length - (m + 1) by rw [List.length_drop]; omega), List.drop_zero, Nat.sub_zero, ih, lst_toB, h3, List.map_cons]
      congr 1
      have hi' : i < (a.set i (toB ((lst s').take m))).length := by rw [List.length_set]; omega
      rw [List.take_succ_eq_append_getElem hi', List.getElem_set_self, List.take_set_of_le (Nat.le_refl i), List.append_assoc]
      rfl
def PSplit (x : ByteArray × ByteArray) : Prop := x.1.size ≤ 1073741824 ∧ POneB x
def vSplit (x : ByteArray × ByteArray) : List ByteArray := (splitL (x.2.data.getD 0 0) (lst x.1)).map toB
def PGen (x : ByteArray × ByteArray × Int × Int) : Prop := PSplit (x.1, x.2.1) ∧ x.2.2.1 = 0 ∧ x.2.2.2 = -1
theorem s_genSplit : Fz41.S (cl PGen fun x => vSplit (x.1, x.2.1)) := Fz41.of_cl s_strcnt s_stridx fun x h k => by
  obtain ⟨s, t, n0, n1⟩ := x
  obtain ⟨⟨hs, c, ht⟩, h0, h1⟩ := h
  simp only at hs ht h0 h1
  subst ht h0 h1
  rw [size_lst] at hs
  show Fz41.pf _ _ BIG s ⟨#[c]⟩ 0 (-1) k = k ((splitL c (lst s)).map toB)
  have hc := List.count_le_length (a := c) (l := lst s)
  have hcnt : cl POneB cntV (s, ⟨#[c]⟩) = some (((lst s).count c : Nat) : Int) := cl_eq (show POneB (s, ⟨#[c]⟩) from ⟨c, rfl⟩)
  have he : (ByteArray.toList (⟨#[c]⟩ : ByteArray) == ByteArray.toList (bytesOf [])) = false := by
    rw [empty_lst]
    exact decF (by simp)
  have hm : (if IntKind.i64.wrap (((ByteArray.size s : Nat) : Int) + 1) < IntKind.i64.wrap ((((lst s).count c : Nat) : Int) + 1) then IntKind.i64.wrap (((ByteArray.size s : Nat) : Int) + 1) else IntKind.i64.wrap ((((lst s).count c : Nat) : Int) + 1)) = (((lst s).count c + 1 : Nat) : Int) := by
    rw [size_lst, w64n (by omega), w64n (by omega), if_neg (by omega)]
  unfold Fz41.pf
  rw [beqF (show (-1 : Int) ≠ 0 by omega), cond_false, he, cond_false, decT (show (-1 : Int) < 0 by omega), cond_true, hcnt, Option.bind_some, hm, inW_true (by omega) (Int.le_refl _) (by unfold LIM; omega), cond_true, w64 (by omega) (by omega), show (((lst s).count c + 1 : Nat) : Int) - 1 = (((lst s).count c : Nat) : Int) by omega, Int.toNat_natCast]
  refine (gen_loop c ((lst s).count c) (by omega) k _ _ ?_ ((lst s).count c) 0 BIG s (List.replicate ((lst s).count c + 1) ByteArray.empty) (by omega) (big_lt (by omega)) hs rfl (by simp)).trans (by rw [List.take_zero, List.nil_append])
  intro s' a ha
  have hlt : (lst s).count c < a.length := by omega
  simp only
  rw [inB_nat hlt, cond_true, w64n (by omega), List.length_set, inW_true (by omega) (by omega) (by omega), cond_true]
  simp only [Int.toNat_natCast, Int.sub_zero, List.drop_zero]
  congr 1
  have hi' : (lst s).count c < (a.set ((lst s).count c) s').length := by rw [List.length_set]; omega
  rw [List.take_succ_eq_append_getElem hi', List.getElem_set_self, List.take_set_of_le (Nat.le_refl _)]
theorem s_Split : Fz40.S (cl PSplit vSplit) := Fz40.of_cl s_genSplit fun x h k => by
  unfold Fz40.pf
  rw [cl_eq (show PGen (x.1, x.2, 0, -1) from ⟨h, rfl, rfl⟩), Option.bind_some]
def vCut (x : ByteArray × ByteArray) : ByteArray × ByteArray × Bool := if idxV x ≥ 0 then (toB ((lst x.1).take (idxV x).toNat), toB ((lst x.1).drop ((idxV x).toNat + 1)), true) else (x.1, bytesOf [], false)
theorem s_Cut0 : Fz9.S (cl PSplit vCut) := Fz9.of_cl s_stridx0 fun x h k => by
  obtain ⟨s, t⟩ := x
  obtain ⟨hs, c, ht⟩ := h
  simp only at hs ht
  subst ht
  rw [size_lst] at hs
  have hsz : (⟨#[c]⟩ : ByteArray).size = 1 := rfl
  show Fz9.pf _ BIG s ⟨#[c]⟩ k = k (vCut (s, ⟨#[c]⟩))
  unfold Fz9.pf vCut
  rw [cl_eq (show POneB (s, ⟨#[c]⟩) from ⟨c, rfl⟩), Option.bind_some, hsz, size_lst]
  have hd : idxV (s, ⟨#[c]⟩) = Lib.indexByte (lst s) c := rfl
  rcases idx_split c (lst s) with ⟨h1, _⟩ | ⟨m, h1, h2, _⟩
  · rw [hd, h1]
    rfl
  · rw [hd, h2, decT (show (m : Int) ≥ 0 by omega), if_pos (show (m : Int) ≥ 0 by omega), cond_true, inW_true (by omega) (by omega) (by omega), cond_true, show ((1 : Nat) : Int) = 1 from rfl, w64n (show m < 9223372036854775807 by omega), inW_true (by omega) (by omega) (by omega), cond_true]
    simp only [Int.toNat_natCast]
    rw [ext_lst, ext_lst, List.drop_zero, Nat.sub_zero, List.take_of_length_le (show ((lst s).drop (m + 1)).length ≤ (lst s).length - (m + 1) by rw [List.length_drop]; omega)]
theorem s_Cut : Fz37.S (cl PSplit vCut) := Fz37.of_cl s_Cut0 fun x h k => by
  unfold Fz37.pf
  rw [cl_eq (show PSplit (x.1, x.2) from h), Option.bind_some]
def nvGo : Int → List UInt8 → Int × Bool
  | acc, [] => (acc, true)
  | acc, b :: r => if (b.toNat : Int) < 48 then (0, false) else if (b.toNat : Int) > 57 then (0, false) else nvGo (10 * acc + ((b.toNat : Int) - 48)) r
def nv (l : List UInt8) : Int × Bool := match l with
  | [] => (0, false)
  | b :: r => if (r.length : Int) > 8 then (0, false) else if b.toNat = 48 ∧ r ≠ [] then (0, false) else nvGo 0 (b :: r)
theorem u8_of {b : UInt8} {n : Nat} (h : b.toNat = n) : b = UInt8.ofNat n := by
  rw [← h]
  simp
def PRd0 (s : ByteArray) : Prop := s.size ≤ 1073741824
theorem s_l01Number : Fz29.S (cl PRd0 fun s => nv (lst s)) := Fz29.of_cl fun s h k => by
  have hs : (lst s).length ≤ 1073741824 := by rw [← size_lst]; exact h
  have pw : ∀ (i : Nat), (10 : Int) ^ (i + 1) = 10 * 10 ^ i := fun i => by rw [Int.pow_succ, Int.mul_comm]
  unfold Fz29.pf nv
  rw [empty_lst, size_lst]
  cases hl : lst s with
  | nil => rfl
  | cons b r =>
    rw [decF (by simp), cond_false]
    rw [List.length_cons]
    show _ = k (if (r.length : Int) > 8 then (0, false) else if b.toNat = 48 ∧ r ≠ [] then (0, false) else nvGo 0 (b :: r))
    by_cases c1 : (r.length : Int) > 8
    · rw [decT (by omega), if_pos c1]; rfl
    · rw [decF (by omega), if_neg c1, cond_false, inB_true (i := 0) (n := r.length + 1) (by omega) (by omega), cond_true]
      have ha : strAt s 0 = (b.toNat : Int) := by
        rw [at_lst s (i := 0) (by rw [hl]; simp)]
        simp [hl]
      have loop : iter (Fz29.B1 s (fun (x1 : DB) => k (0, false)) (fun (x1 : DB) => k (0, false)) (fun (x1 : DB) => k (x1.1, true))) BIG ((0 : Int), (0 : Int)) = k (nvGo 0 (lst s)) := by
        have h9 : (lst s).length ≤ 9 := by rw [hl, List.length_cons]; omega
        refine iter_list (lst s) (fun i (c : Int) => (c, (i : Int))) (fun q c => k (nvGo c q)) (fun i c => 0 ≤ c ∧ c < 10 ^ i) (c := 0) rfl (big_lt (by omega)) ⟨by omega, by decide⟩ ?_ ?_
        · rintro i hi c rec ⟨q1, q2⟩ hrec
          have h10 : (10 : Int) ^ i ≤ 100000000 := by
            have : i ≤ 8 := by omega
            have hh : i = 0 ∨ i = 1 ∨ i = 2 ∨ i = 3 ∨ i = 4 ∨ i = 5 ∨ i = 6 ∨ i = 7 ∨ i = 8 := by omega
            rcases hh with rfl | rfl | rfl | rfl | rfl | rfl | rfl | rfl | rfl <;> decide
          unfold Fz29.B1
          simp only
          rw [size_lst]
          simp only [decT (show (i : Int) < ((lst s).length : Int) by omega), inB_nat hi, cond_true, Int.toNat_natCast, at_lst s hi, w64n (show i < 9223372036854775807 by omega), nvGo]
          have hb := UInt8.toNat_lt ((lst s)[i])
          by_cases d1 : (((lst s)[i]).toNat : Int) < 48
          · rw [decT d1, if_pos d1]; rfl
          · rw [decF d1, if_neg d1, cond_false]
            by_cases d2 : (((lst s)[i]).toNat : Int) > 57
            · rw [decT d2, if_pos d2]; rfl
            · rw [decF d2, if_neg d2, cond_false]
              have e1 : IntKind.u8.wrap ((((lst s)[i]).toNat : Int) - 48) = (((lst s)[i]).toNat : Int) - 48 := by rw [IntKind.wrap_u8]; omega
              rw [e1, w64 (n := (((lst s)[i]).toNat : Int) - 48) (by omega) (by omega), w64 (n := 10 * c) (by omega) (by omega), w64 (by omega) (by omega)]
              exact hrec _ ⟨by omega, by rw [pw]; omega⟩
        · rintro c rec _
          unfold Fz29.B1
          simp only
          rw [size_lst, decF (by omega), cond_false]
          rfl
      rw [ha]
      by_cases c2 : b.toNat = 48
      · rw [beqT (by omega), cond_true]
        by_cases c3 : r = []
        · subst c3
          rw [decF (by simp), cond_false, loop, if_neg (by simp), hl]
        · have : 0 < r.length := List.length_pos_iff.2 c3
          rw [decT (by omega), cond_true, if_pos ⟨c2, c3⟩]
      · rw [beqF (by omega), cond_false, loop, if_neg (fun q => c2 q.1), hl]

theorem nvGo_dec : ∀ (l : List UInt8) (acc : Nat), nvGo (acc : Int) l = match Lib.decFrom acc l with
    | some v => ((v : Int), true)
    | none => (0, false)
  | [], acc => rfl
  | b :: r, acc => by
    unfold nvGo Lib.decFrom Lib.digitVal
    by_cases h1 : (b.toNat : Int) < 48
    · rw [if_pos h1, if_neg (by omega)]
    · rw [if_neg h1]
      by_cases h2 : (b.toNat : Int) > 57
      · rw [if_pos h2, if_neg (by omega)]
      · rw [if_neg h2, if_pos (by omega)]
        have := nvGo_dec r (10 * acc + (b.toNat - 48))
        rw [show (10 * (acc : Int) + ((b.toNat : Int) - 48)) = ((10 * acc + (b.toNat - 48) : Nat) : Int) by omega]
        simpa [Nat.mul_comm] using this
theorem nvGo_snoc (d : UInt8) : ∀ (l : List UInt8) (acc : Int), nvGo acc (l ++ [d]) = if (nvGo acc l).2 = true then (if (d.toNat : Int) < 48 then (0, false) else if (d.toNat : Int) > 57 then (0, false) else (10 * (nvGo acc l).1 + ((d.toNat : Int) - 48), true)) else (0, false)
  | [], acc => by simp [nvGo]
  | b :: r, acc => by
    rw [List.cons_append, nvGo]
    conv => rhs; rw [nvGo]
    split
    · rfl
    · split
      · rfl
      · exact nvGo_snoc d r _
theorem dec_ne (n : Nat) : Lib.decDigits n ≠ [] := by
  rw [Lib.decDigits]
  split <;> simp
theorem dec_big {n : Nat} (h : ¬ n < 10) : Lib.decDigits n = Lib.decDigits (n / 10) ++ [UInt8.ofNat (48 + n % 10)] := by rw [Lib.decDigits, dif_neg h]
theorem dgt (n : Nat) (h : n < 10) : (UInt8.ofNat (48 + n)).toNat = 48 + n := by
  rw [UInt8.toNat_ofNat']
  omega
theorem nvGo_digits : ∀ (n : Nat), nvGo 0 (Lib.decDigits n) = ((n : Int), true) := by
  intro n
  induction n using Nat.strongRecOn with
  | _ n ih =>
    by_cases c : n < 10
    · rw [Lib.decDigits_one c]
      have := dgt n c
      unfold nvGo
      rw [if_neg (by omega), if_neg (by omega)]
      unfold nvGo
      congr 1
      omega
    · rw [dec_big c, nvGo_snoc, ih (n / 10) (by omega)]
      have := dgt (n % 10) (by omega)
      rw [if_pos rfl, if_neg (by omega), if_neg (by omega)]
      congr 1
      simp only
      omega
theorem dec_head : ∀ (n : Nat), 1 ≤ n → ∀ b, (Lib.decDigits n).head? = some b → b.toNat ≠ 48 := by
  intro n
  induction n using Nat.strongRecOn with
  | _ n ih =>
    intro h b hb
    by_cases c : n < 10
    · rw [Lib.decDigits_one c] at hb
      obtain rfl := Option.some.inj hb
      have := dgt n c
      omega
    · rw [dec_big c] at hb
      have hne := dec_ne (n / 10)
      refine ih (n / 10) (by omega) (by omega) b ?_
      cases hd : Lib.decDigits (n / 10) with
      | nil => exact absurd hd hne
      | cons x r =>
        rw [hd] at hb
        exact hb
theorem dec_len : ∀ (k n : Nat), n < 10 ^ (k + 1) → (Lib.decDigits n).length ≤ k + 1
  | 0, n, h => by
    rw [Lib.decDigits_one (by simpa using h)]
    exact Nat.le_refl _
  | k + 1, n, h => by
    by_cases c : n < 10
    · rw [Lib.decDigits_one c]
      simp
    · have := dec_len k (n / 10) (by rw [Nat.pow_succ] at h; omega)
      rw [dec_big c, List.length_append, List.length_singleton]
      omega
theorem nv_digits {n : Nat} (h : n < 1000000000) : nv (Lib.decDigits n) = ((n : Int), true) := by
  have hl := dec_len 8 n (by simpa using h)
  have hg := nvGo_digits n
  have hne := dec_ne n
  have hh := dec_head n
  cases hd : Lib.decDigits n with
  | nil => exact absurd hd hne
  | cons b r =>
    rw [hd] at hl hg hh
    simp only [List.length_cons] at hl
    show (if (r.length : Int) > 8 then (0, false) else if b.toNat = 48 ∧ r ≠ [] then (0, false) else nvGo 0 (b :: r)) = _
    rw [if_neg (by omega), if_neg ?_, hg]
    rintro ⟨q1, q2⟩
    by_cases c : 1 ≤ n
    · exact hh c b rfl q1
    · have : n = 0 := by omega
      subst this
      rw [Lib.decDigits_one (by omega)] at hd
      cases hd
      exact q2 rfl
theorem nvGo_canon : ∀ (k : Nat) (l : List UInt8) (v : Int), l.length = k + 1 → (∀ b, l.head? = some b → b.toNat = 48 → l.length = 1) → nvGo 0 l = (v, true) → 0 ≤ v ∧ Lib.decDigits v.toNat = l ∧ (2 ≤ l.length → 1 ≤ v) ∧ (∀ b, l.head? = some b → b.toNat ≠ 48 → 1 ≤ v)
  | 0, l, v, hl, hh, h => by
    match l, hl with
    | [b], _ =>
      unfold nvGo at h
      split at h
      · cases h
      · split at h
        · cases h
        · simp only [nvGo, Prod.mk.injEq, and_true] at h
          refine ⟨by omega, ?_, fun q => by simp at q, fun b' hb' hne => ?_⟩
          · rw [Lib.decDigits_one (by omega)]
            congr 1
            exact (u8_of (by omega)).symm
          · obtain rfl := Option.some.inj hb'
            omega
  | k + 1, l, v, hl, hh, h => by
    have hne : l ≠ [] := by
      intro q
      rw [q] at hl
      simp at hl
    obtain ⟨q, d, rfl⟩ : ∃ q d, l = q ++ [d] := ⟨l.dropLast, l.getLast hne, (List.dropLast_concat_getLast hne).symm⟩
    rw [List.length_append, List.length_singleton] at hl
    have hq : q.length = k + 1 := by omega
    have hhd : ∀ b, q.head? = some b → (q ++ [d]).head? = some b := fun b hb => by
      cases q with
      | nil => simp at hq
      | cons x r => exact hb
    have hz : ∀ b, q.head? = some b → b.toNat ≠ 48 := fun b hb e => by
      have := hh b (hhd b hb) e
      rw [List.length_append, List.length_singleton] at this
      omega
    rw [nvGo_snoc] at h
    cases ht : (nvGo 0 q).2 with
    | false => rw [ht] at h; simp at h
    | true =>
      obtain ⟨i1, i2, i3, i4⟩ := nvGo_canon k q (nvGo 0 q).1 hq (fun b hb e => absurd e (hz b hb)) (by rw [← ht])
      have hv1 : 1 ≤ (nvGo 0 q).1 := by
        cases hq2 : q.head? with
        | none => rw [List.head?_eq_none_iff] at hq2; rw [hq2] at hq; simp at hq
        | some b => exact i4 b hq2 (hz b hq2)
      rw [ht, if_pos rfl] at h
      split at h
      · cases h
      · split at h
        · cases h
        · simp only [Prod.mk.injEq, and_true] at h
          refine ⟨by omega, ?_, fun _ => by omega, fun _ _ _ => by omega⟩
          rw [dec_big (by omega), show v.toNat / 10 = (nvGo 0 q).1.toNat by omega, i2, show 48 + v.toNat % 10 = d.toNat by omega]
          congr 2
          simp
/-- The number that a text of nine digits or fewer spells as it is written. -/
def numN (l : List UInt8) : Option Nat := if (nv l).2 = true then some (nv l).1.toNat else none
theorem numN_some {l : List UInt8} {n : Nat} (h : numN l = some n) : nv l = ((n : Int), true) ∧ n < 1000000000 ∧ Lib.decDigits n = l ∧ Lib.parseIntB 64 l = .ok (n : Int) ∧ ∀ b, b ∈ l → 48 ≤ b.toNat ∧ b.toNat ≤ 57 := by
  unfold numN at h
  split at h
  · rename_i ht
    have h := Option.some.inj h
    have hv : nv l = ((nv l).1, true) := by rw [← ht]
    generalize (nv l).1 = v at *
    unfold nv at hv
    split at hv
    · cases hv
    · rename_i b r
      split at hv
      · cases hv
      · split at hv
        · cases hv
        · rename_i c1 c2
          obtain ⟨i1, i2, _, _⟩ := nvGo_canon r.length (b :: r) v rfl (fun b' hb' e => by
            obtain rfl := Option.some.inj hb'
            by_cases q : r = []
            · rw [q]; rfl
            · exact absurd ⟨e, q⟩ c2) hv
          have hd := nvGo_dec (b :: r) 0
          rw [show ((0 : Nat) : Int) = 0 from rfl, hv] at hd
          cases hdec : Lib.decFrom 0 (b :: r) with
          | none => rw [hdec] at hd; simp at hd
          | some u =>
            rw [hdec] at hd
            simp only [Prod.mk.injEq, and_true] at hd
            have hun : u = n := by omega
            subst hun
            have hlt := Lib.decFrom_lt (b :: r) 0 u hdec
            have hlen : (b :: r).length ≤ 9 := by simp only [List.length_cons]; omega
            have hp : (10 : Nat) ^ (b :: r).length ≤ 10 ^ 9 := Nat.pow_le_pow_right (by decide) hlen
            have hdig := Lib.digit_of_decFrom (b :: r) 0 u hdec
            have hall : ∀ x, x ∈ b :: r → 48 ≤ x.toNat ∧ x.toNat ≤ 57 := fun x hx => by
              obtain ⟨i, hi, rfl⟩ := List.mem_iff_getElem.1 hx
              obtain ⟨d, hd⟩ := hdig i _ (List.getElem?_eq_getElem hi)
              unfold Lib.digitVal at hd
              split at hd
              · assumption
              · cases hd
            have hb := hall b (List.mem_cons_self ..)
            refine ⟨?_, by omega, by rw [← i2, show v.toNat = u by omega], ?_, hall⟩
            · show (if (r.length : Int) > 8 then (0, false) else if b.toNat = 48 ∧ r ≠ [] then (0, false) else nvGo 0 (b :: r)) = _
              rw [if_neg c1, if_neg c2, hv, hd]
            · rw [Lib.parseIntB_64]
              unfold Lib.atoiAll
              simp only
              rw [if_neg (by omega)]
              unfold Lib.parseMag
              rw [if_neg (by simp), Lib.parseUint10_short (b :: r) 0 0 (by decide) (by omega), hdec]
              simp only [Lib.NumEnd.ofOption]
              rw [if_neg (by omega), if_neg (by omega), if_neg (by omega)]
  · cases h
theorem numN_none {l : List UInt8} (h : numN l = none) : (nv l).2 = false := by
  unfold numN at h
  split at h
  · cases h
  · rename_i c
    simpa using c
theorem rd_gen (s : ByteArray) (lo hi : Int) (h0 : 0 ≤ lo) (h1 : hi ≤ 999999999) : match numN (lst s) with
    | some n => vRd (s, lo, hi) = ((n : Int), decide (lo ≤ (n : Int)) && decide ((n : Int) ≤ hi))
    | none => (vRd (s, lo, hi)).2 = false := by
  cases hn : numN (lst s) with
  | some n =>
    obtain ⟨_, g2, g3, g4, _⟩ := numN_some hn
    simp only
    unfold vRd
    have g4 : Lib.parseIntB 64 s.data.toList = .ok (n : Int) := g4
    simp only
    rw [g4]
    simp only
    have e : (⟨(Lib.itoa (n : Int)).toArray⟩ : ByteArray).toList = ByteArray.toList s := by
      rw [list_lst, list_lst, ← g3]
      unfold Lib.itoa
      rw [if_neg (by omega), Int.toNat_natCast]
    rw [decT e, Bool.true_and]
  | none =>
    simp only
    unfold vRd
    cases hp : Lib.parseIntB 64 s.data.toList with
    | ok v =>
      simp only
      by_cases c1 : lo ≤ v
      · by_cases c2 : v ≤ hi
        · obtain ⟨n, rfl⟩ := Int.eq_ofNat_of_zero_le (show 0 ≤ v by omega)
          have e : ¬ (⟨(Lib.itoa (n : Int)).toArray⟩ : ByteArray).toList = ByteArray.toList s := by
            rw [list_lst, list_lst]
            unfold Lib.itoa
            rw [if_neg (by omega), Int.toNat_natCast]
            intro q
            have q : Lib.decDigits n = lst s := q
            have := nv_digits (n := n) (by omega)
            rw [q] at this
            have h2 := numN_none hn
            rw [this] at h2
            cases h2
          show (decide ((⟨(Lib.itoa (n : Int)).toArray⟩ : ByteArray).toList = ByteArray.toList s) && _) = false
          rw [decF e, Bool.false_and]
        · rw [decF c2, Bool.and_false, Bool.and_false]
      · rw [decF c1, Bool.false_and, Bool.and_false]
    | _ => rfl

theorem splitL_part (c : UInt8) : ∀ (l p : List UInt8), p ∈ splitL c l → p.length ≤ l.length
  | [], p, h => by
    rw [splitL, List.mem_singleton] at h
    rw [h]
    exact Nat.le_refl _
  | x :: l, p, h => by
    have ih := splitL_part c l
    unfold splitL at h
    split at h
    · rcases List.mem_cons.1 h with rfl | h
      · exact Nat.zero_le _
      · have := ih p h
        simp only [List.length_cons]; omega
    · split at h
      · rw [List.mem_singleton] at h
        rw [h]
        simp
      · rename_i p0 r hs
        rw [hs] at ih
        rcases List.mem_cons.1 h with rfl | h
        · have := ih p0 (List.mem_cons_self ..)
          simp only [List.length_cons]; omega
        · have := ih p (List.mem_cons_of_mem _ h)
          simp only [List.length_cons]; omega
theorem vCut_size (w : ByteArray) (t : ByteArray) : (lst (vCut (w, t)).1).length ≤ (lst w).length ∧ (lst (vCut (w, t)).2.1).length ≤ (lst w).length := by
  unfold vCut
  split
  · simp only [lst_toB, List.length_take, List.length_drop]
    omega
  · exact ⟨Nat.le_refl _, Nat.zero_le _⟩
/-- What a text of two parts tells. -/
def two {X : Type} (f : List UInt8 → List UInt8 → Option X) (L : List (List UInt8)) : Option X := match L with
  | [a, b] => f a b
  | _ => none
theorem cut_gen {X : Type} (c : UInt8) (hc : ¬ (48 ≤ c.toNat ∧ c.toNat ≤ 57)) (f : List UInt8 → List UInt8 → Option X) (hf : ∀ a b, numN b = none → f a b = none) (w : ByteArray) :
    two f (splitL c (lst w)) = if (vCut (w, bytesOf [c])).2.2 = true then f (lst (vCut (w, bytesOf [c])).1) (lst (vCut (w, bytesOf [c])).2.1) else none := by
  have hi : idxV (w, bytesOf [c]) = Lib.indexByte (lst w) c := rfl
  unfold vCut
  rw [hi]
  rcases idx_split c (lst w) with ⟨h1, _, h3, _⟩ | ⟨m, h1, h2, h3, h4⟩
  · rw [h1, h3]
    rfl
  · rw [h2, h3, if_pos (show (m : Int) ≥ 0 by omega), if_pos rfl]
    simp only [Int.toNat_natCast, lst_toB]
    rcases idx_split c ((lst w).drop (m + 1)) with ⟨_, _, g3, _⟩ | ⟨m2, g1, _, g3, g4⟩
    · rw [g3]
      rfl
    · have hn : numN ((lst w).drop (m + 1)) = none := by
        cases hq : numN ((lst w).drop (m + 1)) with
        | none => rfl
        | some n =>
          exfalso
          have hmem : c ∈ (lst w).drop (m + 1) := List.count_pos_iff.1 (by omega)
          exact hc ((numN_some hq).2.2.2.2 c hmem)
      rw [g3, hf _ _ hn]
      have hne := splitL_ne c (((lst w).drop (m + 1)).drop (m2 + 1))
      cases hs : splitL c (((lst w).drop (m + 1)).drop (m2 + 1)) with
      | nil => exact absurd hs hne
      | cons p r => rfl
def botF (a b : List UInt8) : Option DB := match numN a, numN b with
  | some x, some y => if validB ((x : Int), (y : Int)) = true then some ((x : Int), (y : Int)) else none
  | _, _ => none
def bottleV (l : List UInt8) : Option DB := two botF (splitL 58 l)
theorem botF_none (a b : List UInt8) (h : numN b = none) : botF a b = none := by
  unfold botF
  rw [h]
  cases numN a <;> rfl
theorem valid_nums {x y : Nat} (h : validB ((x : Int), (y : Int)) = true) : 1 ≤ x ∧ x ≤ 20 ∧ 1900 ≤ y ∧ y ≤ 2099 := by
  simp only [validB, Bool.and_eq_true, decide_eq_true_eq] at h
  omega
theorem bottleV_some {l : List UInt8} {b : DB} (h : bottleV l = some b) : validB b = true ∧ wB b := by
  unfold bottleV two at h
  split at h
  · unfold botF at h
    split at h
    · split at h
      · rename_i hv
        obtain rfl := Option.some.inj h
        have := valid_nums hv
        exact ⟨hv, by unfold wB; simp only; omega⟩
      · cases h
    · cases h
  · cases h
theorem i16s {n : Int} (h0 : -32768 ≤ n) (h1 : n ≤ 32767) : IntKind.i16.wrap n = n := IntWalk.i16_in n ⟨h0, h1⟩
theorem u8s {n : Int} (h0 : 0 ≤ n) (h1 : n ≤ 255) : IntKind.u8.wrap n = n := by rw [IntKind.wrap_u8]; omega
theorem s_ReadBottle : Fz0.S (cl PRd0 fun s => match bottleV (lst s) with
    | some b => (b, 0)
    | none => ((0, 0), 5)) := Fz0.of_cl s_Cut s_readDec fun s h k => by
  have hs : s.size ≤ 1073741824 := h
  have hl : (lst s).length ≤ 1073741824 := by rw [← size_lst]; exact h
  obtain ⟨z1, z2⟩ := vCut_size s (bytesOf [58])
  have p1 : PRd ((vCut (s, bytesOf [58])).1, 1, 20) := by show (vCut (s, bytesOf [58])).1.size ≤ _; rw [size_lst]; omega
  have p2 : PRd ((vCut (s, bytesOf [58])).2.1, 1900, 2099) := by show (vCut (s, bytesOf [58])).2.1.size ≤ _; rw [size_lst]; omega
  have hc := cut_gen 58 (by decide) botF botF_none s
  unfold Fz0.pf bottleV
  rw [cl_eq (show PSplit (s, bytesOf [58]) from ⟨hs, 58, rfl⟩), Option.bind_some, cl_eq p1, Option.bind_some, cl_eq p2, Option.bind_some, hc]
  generalize vCut (s, bytesOf [58]) = r at *
  have g1 := rd_gen r.1 1 20 (by omega) (by omega)
  have g2 := rd_gen r.2.1 1900 2099 (by omega) (by omega)
  cases hf : r.2.2 with
  | false => rfl
  | true =>
    simp only [Bool.not_true, cond_false, if_true]
    unfold botF
    cases ha : numN (lst r.1) with
    | none =>
      rw [ha] at g1
      simp only at g1
      rw [g1]
      rfl
    | some x =>
      rw [ha] at g1
      simp only at g1
      rw [g1]
      simp only
      cases hb : numN (lst r.2.1) with
      | none =>
        rw [hb] at g2
        simp only at g2
        rw [g2]
        cases (decide ((1 : Int) ≤ (x : Int)) && decide ((x : Int) ≤ 20)) <;> rfl
      | some y =>
        rw [hb] at g2
        simp only at g2
        rw [g2]
        simp only
        unfold validB
        simp only
        by_cases c1 : (decide ((1 : Int) ≤ (x : Int)) && decide ((x : Int) ≤ 20)) = true
        · rw [c1]
          by_cases c2 : (decide ((1900 : Int) ≤ (y : Int)) && decide ((y : Int) ≤ 2099)) = true
          · rw [c2]
            simp only [Bool.and_eq_true, decide_eq_true_eq] at c1 c2
            simp only [Bool.not_true, cond_false, Bool.and_self, if_true]
            rw [u8s (by omega) (by omega), i16s (by omega) (by omega)]
          · rw [Bool.not_eq_true] at c2
            rw [c2]
            rfl
        · rw [Bool.not_eq_true] at c1
          rw [c1]
          rfl
/-- What the reference reads of a bottle. -/
def readS (l : List UInt8) : DB × Bool := match splitL 58 l with
  | [a, b] => if (nv a).2 = false then ((0, 0), false) else if (nv b).2 = false then ((0, 0), false) else if (nv a).1 > 20 then ((0, 0), false) else if (nv b).1 > 2099 then ((0, 0), false) else ((IntKind.u8.wrap (nv a).1, IntKind.i16.wrap (nv b).1), validB (IntKind.u8.wrap (nv a).1, IntKind.i16.wrap (nv b).1))
  | _ => ((0, 0), false)
theorem nv_numN {a : List UInt8} (h : (nv a).2 = true) : ∃ n : Nat, numN a = some n ∧ (nv a).1 = (n : Int) := by
  have : numN a = some (nv a).1.toNat := by unfold numN; rw [if_pos h]
  exact ⟨_, this, congrArg Prod.fst (numN_some this).1⟩
theorem readS_eq (l : List UInt8) : match bottleV l with
    | some b => readS l = (b, true)
    | none => (readS l).2 = false := by
  unfold bottleV two readS
  split
  · rename_i b hb
    split at hb
    · rename_i a b' hs
      unfold botF at hb
      split at hb
      · rename_i x y hx hy
        split at hb
        · rename_i hv
          obtain rfl := Option.some.inj hb
          have hn := valid_nums hv
          obtain ⟨n1, _⟩ := numN_some hx
          obtain ⟨n2, _⟩ := numN_some hy
          rw [n1, n2]
          simp only [Bool.true_eq_false, if_false]
          rw [if_neg (by omega), if_neg (by omega), u8s (by omega) (by omega), i16s (by omega) (by omega), hv]
        · cases hb
      · cases hb
    · cases hb
  · rename_i hb
    split
    · rename_i a b' hs
      rw [hs] at hb
      have hb : botF a b' = none := hb
      split
      · rfl
      · split
        · rfl
        · split
          · rfl
          · split
            · rfl
            · rename_i c1 c2 c3 c4
              obtain ⟨x, hx, ex⟩ := nv_numN (by simpa using c1)
              obtain ⟨y, hy, ey⟩ := nv_numN (by simpa using c2)
              rw [ex] at c3 ⊢
              rw [ey] at c4 ⊢
              simp only
              rw [u8s (by omega) (by omega), i16s (by omega) (by omega)]
              unfold botF at hb
              rw [hx, hy] at hb
              simp only at hb
              split at hb
              · cases hb
              · rename_i hv
                simpa using hv
    · rfl
theorem s_l01Read : Fz30.S (cl PRd0 fun s => readS (lst s)) := Fz30.of_cl s_l01Split s_l01Number s_l01Bottle fun s h k => by
  have hs : s.size ≤ 1073741824 := h
  have hl : (lst s).length ≤ 1073741824 := by rw [← size_lst]; exact h
  have e58 : byteI 58 = 58 := by decide
  have hq := splitL_part 58 (lst s)
  unfold Fz30.pf readS
  rw [cl_eq (show PSpl (s, 58) from ⟨hs, by simp, by simp⟩), Option.bind_some]
  simp only
  rw [e58, List.length_map]
  match hsp : splitL 58 (lst s), hq with
  | [], _ => rfl
  | [_], _ => rfl
  | _ :: _ :: _ :: r, _ =>
    rw [bneT (by simp only [List.length_cons]; omega)]
    rfl
  | [a, b], hq =>
    have ha := hq a (by simp)
    have hb := hq b (by simp)
    have pa : PRd0 (toB a) := by show (toB a).size ≤ _; rw [size_lst, lst_toB]; omega
    have pb : PRd0 (toB b) := by show (toB b).size ≤ _; rw [size_lst, lst_toB]; omega
    simp only [List.length_cons, List.length_nil, List.map_cons, List.map_nil]
    rw [bneF (show (((0 + 1 + 1 : Nat)) : Int) = 2 by omega), cond_false, show inB (0 : Int) (0 + 1 + 1) = true from rfl, show inB (1 : Int) (0 + 1 + 1) = true from rfl]
    simp only [cond_true, List.getD_cons_zero, List.getD_cons_succ]
    rw [cl_eq pa, Option.bind_some, cl_eq pb, Option.bind_some, lst_toB, lst_toB]
    cases c1 : (nv a).2 with
    | false => rfl
    | true =>
      cases c2 : (nv b).2 with
      | false => rfl
      | true =>
        obtain ⟨x, hx, ex⟩ := nv_numN c1
        obtain ⟨y, hy, ey⟩ := nv_numN c2
        rw [ex, ey]
        simp only [Bool.not_true, cond_false, Bool.true_eq_false, if_false]
        by_cases d1 : (x : Int) > 20
        · rw [decT d1, if_pos d1]; rfl
        · rw [decF d1, if_neg d1, cond_false]
          by_cases d2 : (y : Int) > 2099
          · rw [decT d2, if_pos d2]; rfl
          · rw [decF d2, if_neg d2, cond_false, u8s (by omega) (by omega), i16s (by omega) (by omega), cl_eq (show wB ((x : Int), (y : Int)) by unfold wB; simp only; omega), Option.bind_some]
def stF (a b : List UInt8) : Option DS := match bottleV a, numN b with
  | some x, some d => if d ≤ 2000 then some (x, (d : Int)) else none
  | _, _ => none
def storedV (l : List UInt8) : Option DS := two stF (splitL 64 l)
theorem stF_none (a b : List UInt8) (h : numN b = none) : stF a b = none := by
  unfold stF
  rw [h]
  cases bottleV a <;> rfl
theorem storedV_w {l : List UInt8} {s : DS} (h : storedV l = some s) : wS s := by
  unfold storedV two at h
  split at h
  · unfold stF at h
    split at h
    · rename_i x d hx hd
      split at h
      · obtain rfl := Option.some.inj h
        have := bottleV_some hx
        exact ⟨this.2, by simp only; omega, by simp only; omega⟩
      · cases h
    · cases h
  · cases h
def lineGo : List DS → List (List UInt8) → List DS × Bool
  | o, [] => (o, true)
  | o, w :: r => match storedV w with
    | some s => lineGo (o ++ [s]) r
    | none => (o, false)
def lineS (l : List UInt8) : List DS × Bool := if l = [] then ([], true) else lineGo [] (splitL 32 l)
theorem lineGo_len : ∀ (W : List (List UInt8)) (o : List DS), (lineGo o W).1.length ≤ o.length + W.length
  | [], o => Nat.le_refl _
  | w :: r, o => by
    unfold lineGo
    split
    · rename_i s _
      have := lineGo_len r (o ++ [s])
      rw [List.length_append, List.length_singleton] at this
      rw [List.length_cons]
      omega
    · exact Nat.le_add_right _ _
theorem lineGo_w : ∀ (W : List (List UInt8)) (o : List DS), (∀ s, s ∈ o → wS s) → ∀ s, s ∈ (lineGo o W).1 → wS s
  | [], o, h => h
  | w :: r, o, h => by
    unfold lineGo
    split
    · rename_i s hs
      refine lineGo_w r _ fun x hx => ?_
      rcases List.mem_append.1 hx with hx | hx
      · exact h x hx
      · obtain rfl := List.mem_singleton.1 hx
        exact storedV_w hs
    · exact h
theorem lineS_len (l : List UInt8) : (lineS l).1.length ≤ l.length + 1 := by
  unfold lineS
  split
  · exact Nat.zero_le _
  · have := lineGo_len (splitL 32 l) []
    have h2 := splitL_len 32 l
    simp only [List.length_nil] at this
    omega
theorem lineS_w (l : List UInt8) : ∀ s, s ∈ (lineS l).1 → wS s := by
  unfold lineS
  split
  · intro s h; cases h
  · exact lineGo_w _ _ fun s h => by cases h
theorem st_two {α : Type} (a b : List UInt8) (E : Option α) (G : DS → Option α) :
    cond (!(readS a).2) E (cond (!(nv b).2) E (cond (decide ((nv b).1 > 2000)) E (G ((readS a).1, IntKind.i16.wrap (nv b).1)))) =
      (match stF a b with
        | some s => G s
        | none => E) := by
  have h := readS_eq a
  unfold stF
  cases ha : bottleV a with
  | none =>
    rw [ha] at h
    simp only at h
    rw [h]
    cases numN b <;> rfl
  | some x =>
    rw [ha] at h
    simp only at h
    rw [h]
    cases hb : numN b with
    | none =>
      rw [numN_none hb]
      rfl
    | some d =>
      rw [(numN_some hb).1]
      simp only [Bool.not_true, cond_false]
      by_cases c : d ≤ 2000
      · rw [decF (by omega), if_pos c, cond_false, i16s (by omega) (by omega)]
      · rw [decT (by omega), if_neg c]
        rfl
theorem s_l04Line : Fz33.S (cl PRd0 fun s => lineS (lst s)) := Fz33.of_cl s_l01Split s_l01Read s_l01Number fun s h k => by
  have hs : s.size ≤ 1073741824 := h
  have hl : (lst s).length ≤ 1073741824 := by rw [← size_lst]; exact h
  have e32 : byteI 32 = 32 := by decide
  have e64 : byteI 64 = 64 := by decide
  unfold Fz33.pf lineS
  rw [empty_lst]
  by_cases c : lst s = []
  · rw [decT c, if_pos c]; rfl
  · rw [decF c, if_neg c, cond_false, cl_eq (show PSpl (s, 32) from ⟨hs, by simp, by simp⟩), Option.bind_some]
    simp only
    rw [e32]
    have hp := splitL_part 32 (lst s)
    have hW := splitL_len 32 (lst s)
    generalize splitL 32 (lst s) = W at *
    have hlen : (W.map toB).length = W.length := List.length_map ..
    refine (iter_list W (fun i (o : List DS) => ((i : Int), o)) (fun q o => k (lineGo o q)) (fun i o => o.length ≤ i) (c := []) rfl (big_lt (by omega)) (Nat.le_refl _) ?_ ?_)
    · rintro i hi o rec ho hrec
      have hw := hp _ (List.getElem_mem hi)
      have hi2 : i < (W.map toB).length := by rw [hlen]; exact hi
      unfold Fz33.B1
      simp only [hlen, decT (show (i : Int) < (W.length : Int) by omega), inB_nat hi, cond_true, Int.toNat_natCast, getD_lt hi2, List.getElem_map, w64n (show i < 9223372036854775807 by omega)]
      rw [cl_eq (show PSpl (toB W[i], 64) from ⟨by simp only; rw [size_lst, lst_toB]; omega, by simp, by simp⟩), Option.bind_some]
      simp only
      rw [e64, lst_toB, List.length_map, lineGo, storedV]
      unfold two
      have hq := splitL_part 64 W[i]
      match hsp : splitL 64 W[i], hq with
      | [], _ => rfl
      | [_], _ => rfl
      | _ :: _ :: _ :: r, _ =>
        rw [bneT (by simp only [List.length_cons]; omega)]
        rfl
      | [a, b], hq =>
        have ha := hq a (by simp)
        have hb := hq b (by simp)
        have pa : PRd0 (toB a) := by show (toB a).size ≤ _; rw [size_lst, lst_toB]; omega
        have pb : PRd0 (toB b) := by show (toB b).size ≤ _; rw [size_lst, lst_toB]; omega
        simp only [List.length_cons, List.length_nil, List.map_cons, List.map_nil]
        rw [bneF (show (((0 + 1 + 1 : Nat)) : Int) = 2 by omega), cond_false, show inB (0 : Int) (0 + 1 + 1) = true from rfl, show inB (1 : Int) (0 + 1 + 1) = true from rfl]
        simp only [cond_true, List.getD_cons_zero, List.getD_cons_succ]
        rw [cl_eq pa, Option.bind_some, cl_eq pb, Option.bind_some, lst_toB, lst_toB]
        refine (st_two a b (k (o, false)) fun x => cond (okL (List.length o + 1)) (rec (((i + 1 : Nat) : Int), (o ++ [x]))) none).trans ?_
        cases hst : stF a b with
        | none => rfl
        | some x =>
          simp only
          rw [okS (by omega), cond_true]
          exact hrec _ (by simp only [List.length_append, List.length_singleton]; omega)
    · rintro o rec _
      unfold Fz33.B1
      simp only
      rw [hlen, decF (by omega), cond_false]
      rfl
def rackGo : List (List DS) → List (List UInt8) → List (List DS) × Bool
  | o, [] => (o, true)
  | o, w :: r => if (lineS w).2 = true then rackGo (o ++ [(lineS w).1]) r else ([], false)
def rackV (L : List (List UInt8)) : List (List DS) × Int := if (rackGo [] L).2 = true then (if validR (rackGo [] L).1 = true then ((rackGo [] L).1, 0) else ([], 5)) else ([], 5)
theorem rackGo_bd : ∀ (L : List (List UInt8)) (o : List (List DS)), (rackGo o L).1.length + ((rackGo o L).1.map List.length).sum ≤ o.length + (o.map List.length).sum + (L.map fun w => w.length + 2).sum
  | [], o => Nat.le_refl _
  | w :: r, o => by
    unfold rackGo
    split
    · have := rackGo_bd r (o ++ [(lineS w).1])
      have h2 := lineS_len w
      simp only [List.length_append, List.map_append, List.sum_append, List.length_cons, List.length_nil, List.map_cons, List.map_nil, List.sum_cons, List.sum_nil] at *
      omega
    · exact Nat.zero_le _
theorem rackGo_w : ∀ (L : List (List UInt8)) (o : List (List DS)), (∀ l, l ∈ o → ∀ s, s ∈ l → wS s) → ∀ l, l ∈ (rackGo o L).1 → ∀ s, s ∈ l → wS s
  | [], o, h => h
  | w :: r, o, h => by
    unfold rackGo
    split
    · refine rackGo_w r _ fun l hl => ?_
      rcases List.mem_append.1 hl with hl | hl
      · exact h l hl
      · obtain rfl := List.mem_singleton.1 hl
        exact lineS_w w
    · intro l hl
      cases hl
theorem sum_split (c : UInt8) : ∀ l : List UInt8, ((splitL c l).map fun w => w.length + 2).sum ≤ 2 * l.length + 2
  | [] => by simp [splitL]
  | x :: l => by
    have ih := sum_split c l
    unfold splitL
    split
    · simp only [List.map_cons, List.sum_cons, List.length_cons, List.length_nil]
      omega
    · split
      · simp only [List.map_cons, List.map_nil, List.sum_cons, List.sum_nil, List.length_cons, List.length_nil]
        omega
      · rename_i p r hs
        rw [hs] at ih
        simp only [List.map_cons, List.sum_cons, List.length_cons] at *
        omega
theorem split_cut (c : UInt8) : ∀ q : List UInt8, splitL c (q ++ [c]) = splitL c q ++ [[]]
  | [] => by simp [splitL]
  | x :: q => by
    have ih := split_cut c q
    rw [List.cons_append]
    unfold splitL
    split
    · rw [ih]; rfl
    · rw [ih]
      have hne := splitL_ne c q
      cases hs : splitL c q with
      | nil => exact absurd hs hne
      | cons p r => rfl
theorem split_end (c x : UInt8) (h : x ≠ c) : ∀ q : List UInt8, ∃ P p, splitL c (q ++ [x]) = P ++ [p ++ [x]]
  | [] => ⟨[], [], by simp [splitL, h]⟩
  | y :: q => by
    obtain ⟨P, p, ih⟩ := split_end c x h q
    rw [List.cons_append]
    unfold splitL
    split
    · exact ⟨[] :: P, p, by rw [ih]; rfl⟩
    · rw [ih]
      cases P with
      | nil => exact ⟨[], y :: p, rfl⟩
      | cons p0 P => exact ⟨(y :: p0) :: P, p, rfl⟩
/-- What a text tells of a rack. -/
def readR (l : List UInt8) : List (List DS) × Int := if l = [] then ([], 0) else if l.getLast? = some 10 then rackV (splitL 10 l.dropLast) else ([], 5)
def PTx (s : ByteArray) : Prop := s.size ≤ 1048576
theorem rack_ok {L : List (List UInt8)} (h : (L.map fun w => w.length + 2).sum ≤ 1073741824) : wR (rackGo [] L).1 := by
  have := rackGo_bd L []
  simp only [List.length_nil, List.map_nil, List.sum_nil] at this
  exact ⟨by unfold Bd; omega, rackGo_w L [] fun l hl => by cases hl⟩
theorem spec_lines {α : Type} (W : List (List UInt8)) (t : List UInt8) (hW : W.length ≤ 1073741824) (hp : ∀ p, p ∈ W → p.length ≤ 1073741824) (hb : (W.map fun w => w.length + 2).sum ≤ 1073741824) (k : List (List DS) × Int → Option α) :
    iter (Fz26.B1 (cl PRd0 fun s => lineS (lst s)) (W.length : Int) ((W ++ [t]).map toB) (fun _ _ => k ([], 5)) (fun x1 => (cl wR validR x1.2).bind fun r2 => cond (!r2) (k ([], 5)) (k (x1.2, 0)))) BIG ((0 : Int), []) = k (rackV W) := by
  have ht : k (rackV W) = (if (rackGo [] W).2 = true then (if validR (rackGo [] W).1 = true then k ((rackGo [] W).1, 0) else k ([], 5)) else k ([], 5)) := by
    unfold rackV
    by_cases q1 : (rackGo [] W).2 = true
    · rw [if_pos q1, if_pos q1]
      by_cases q2 : validR (rackGo [] W).1 = true
      · rw [if_pos q2, if_pos q2]
      · rw [if_neg q2, if_neg q2]
    · rw [if_neg q1, if_neg q1]
  rw [ht]
  have hw := rack_ok hb
  have key : ∀ (j i fuel : Nat) (o : List (List DS)), i + j = W.length → j < fuel → o.length ≤ i → wR (rackGo o (W.drop i)).1 →
      iter (Fz26.B1 (cl PRd0 fun s => lineS (lst s)) (W.length : Int) ((W ++ [t]).map toB) (fun _ _ => k ([], 5)) (fun x1 => (cl wR validR x1.2).bind fun r2 => cond (!r2) (k ([], 5)) (k (x1.2, 0)))) fuel ((i : Int), o) =
        (if (rackGo o (W.drop i)).2 = true then (if validR (rackGo o (W.drop i)).1 = true then k ((rackGo o (W.drop i)).1, 0) else k ([], 5)) else k ([], 5)) := by
    intro j
    induction j with
    | zero =>
      intro i fuel o hi hf ho hwr
      match fuel, hf with
      | f + 1, _ =>
        obtain rfl : i = W.length := by omega
        show Fz26.B1 _ _ _ _ _ _ _ = _
        unfold Fz26.B1
        simp only
        rw [List.drop_length] at hwr ⊢
        rw [decF (by omega), cond_false]
        have hwr : wR o := hwr
        rw [cl_eq hwr, Option.bind_some]
        show _ = (if validR o = true then k (o, 0) else k ([], 5))
        cases validR o <;> rfl
    | succ j ih =>
      intro i fuel o hi hf ho hwr
      match fuel, hf with
      | f + 1, hf =>
        have hlt : i < W.length := by omega
        show Fz26.B1 _ _ _ _ _ (iter _ f) _ = _
        have ih := fun o' => ih (i + 1) f o' (by omega) (by omega)
        generalize iter (Fz26.B1 (cl PRd0 fun s => lineS (lst s)) (W.length : Int) ((W ++ [t]).map toB) (fun _ _ => k ([], 5)) (fun x1 => (cl wR validR x1.2).bind fun r2 => cond (!r2) (k ([], 5)) (k (x1.2, 0)))) f = rec at *
        have hi2 : i < ((W ++ [t]).map toB).length := by rw [List.length_map, List.length_append]; omega
        have hge : ((W ++ [t]).map toB)[i] = toB W[i] := by rw [List.getElem_map, List.getElem_append_left hlt]
        have hpi := hp _ (List.getElem_mem hlt)
        unfold Fz26.B1
        simp only [decT (show (i : Int) < (W.length : Int) by omega), inB_nat hi2, cond_true, Int.toNat_natCast, getD_lt hi2, hge, w64n (show i < 9223372036854775807 by omega)]
        rw [cl_eq (show PRd0 (toB W[i]) by show (toB W[i]).size ≤ _; rw [size_lst, lst_toB]; omega), Option.bind_some, lst_toB]
        rw [drop_cons hlt] at hwr ⊢
        unfold rackGo at hwr ⊢
        cases hl : (lineS W[i]).2 with
        | false => rfl
        | true =>
          rw [hl] at hwr
          simp only [if_true] at hwr ⊢
          simp only [Bool.not_true, cond_false, List.length_singleton]
          rw [okS (by omega), cond_true]
          exact ih _ (by rw [List.length_append, List.length_singleton]; omega) hwr
  exact key W.length 0 BIG [] (by omega) (big_lt (by omega)) (Nat.le_refl _) hw
theorem s_spec_ReadRack : Fz26.S (cl PTx fun s => readR (lst s)) := Fz26.of_cl s_l01Split s_l04Line s_l04Ok fun s h k => by
  have hs : s.size ≤ 1048576 := h
  have hl : (lst s).length ≤ 1048576 := by rw [← size_lst]; exact h
  have e10 : byteI 10 = 10 := by decide
  unfold Fz26.pf
  rw [cl_eq (show PSpl (s, 10) from ⟨by simp only; omega, by simp, by simp⟩), Option.bind_some]
  simp only
  rw [e10]
  have tail : ∀ (W : List (List UInt8)) (t : List UInt8), splitL 10 (lst s) = W ++ [t] →
      (cond (inB (IntKind.i64.wrap ((((List.length ((splitL 10 (lst s)).map toB)) : Nat) : Int) - 1)) (List.length ((splitL 10 (lst s)).map toB)))
        (cond (!(ByteArray.toList (List.getD ((splitL 10 (lst s)).map toB) (IntKind.i64.wrap ((((List.length ((splitL 10 (lst s)).map toB)) : Nat) : Int) - 1)).toNat ByteArray.empty) == ByteArray.toList (bytesOf []))) (k ([], 5))
          (iter (Fz26.B1 (cl PRd0 fun s => lineS (lst s)) (IntKind.i64.wrap ((((List.length ((splitL 10 (lst s)).map toB)) : Nat) : Int) - 1)) ((splitL 10 (lst s)).map toB) (fun _ _ => k ([], 5)) (fun x1 => (cl wR validR x1.2).bind fun r2 => cond (!r2) (k ([], 5)) (k (x1.2, 0)))) BIG ((0 : Int), []))) none) = (if t = [] then k (rackV W) else k ([], 5)) := by
    intro W t hsp
    have hsum := sum_split 10 (lst s)
    have hp := splitL_part 10 (lst s)
    have hlen := splitL_len 10 (lst s)
    rw [hsp] at hsum hp hlen ⊢
    rw [List.length_append, List.length_singleton] at hlen
    rw [List.map_append, List.sum_append] at hsum
    have hn : ((W ++ [t]).map toB).length = W.length + 1 := by rw [List.length_map, List.length_append, List.length_singleton]
    have e : IntKind.i64.wrap ((((W ++ [t]).map toB).length : Int) - 1) = (W.length : Int) := by rw [hn, w64 (by omega) (by omega)]; omega
    have hlt : W.length < ((W ++ [t]).map toB).length := by omega
    have hg : ((W ++ [t]).map toB)[W.length] = toB t := by rw [List.getElem_map, List.getElem_append_right (Nat.le_refl _)]; simp
    rw [e, inB_nat hlt, cond_true, Int.toNat_natCast, getD_lt hlt, hg, empty_lst, lst_toB]
    by_cases c : t = []
    · rw [decT c, if_pos c]
      simp only [Bool.not_true, cond_false]
      exact spec_lines W t (by omega) (fun p hpm => by have := hp p (List.mem_append_left _ hpm); omega) (by omega) k
    · rw [decF c, if_neg c]; rfl
  unfold readR
  by_cases c : lst s = []
  · rw [if_pos c]
    have := tail [] [] (by rw [c]; rfl)
    exact this
  · rw [if_neg c]
    obtain ⟨q, x, hq⟩ : ∃ q x, lst s = q ++ [x] := ⟨(lst s).dropLast, (lst s).getLast c, (List.dropLast_concat_getLast c).symm⟩
    rw [hq, List.getLast?_concat, List.dropLast_concat]
    by_cases d : x = 10
    · subst d
      rw [if_pos rfl]
      have := tail (splitL 10 q) [] (by rw [hq]; exact split_cut 10 q)
      rw [hq] at this
      exact this
    · rw [if_neg (fun e => d (Option.some.inj e))]
      obtain ⟨P, p, hP⟩ := split_end 10 x d q
      have := tail P (p ++ [x]) (by rw [hq]; exact hP)
      rw [hq, if_neg (by simp)] at this
      exact this

def lastIs (s : ByteArray) (t : ByteArray) : Bool := decide ((lst s).getLast? = some (t.data.getD 0 0))
theorem s_HasSuffix : Fz11.S (cl PSplit fun x => lastIs x.1 x.2) := Fz11.of_cl fun x h k => by
  obtain ⟨s, t⟩ := x
  obtain ⟨hs, c, ht⟩ := h
  simp only at hs ht
  subst ht
  rw [size_lst] at hs
  have hsz : (⟨#[c]⟩ : ByteArray).size = 1 := rfl
  show Fz11.pf BIG s ⟨#[c]⟩ k = k (decide ((lst s).getLast? = some c))
  unfold Fz11.pf
  rw [hsz, size_lst]
  by_cases d : lst s = []
  · rw [d, decF (by simp)]
    rfl
  · obtain ⟨q, x, hq⟩ : ∃ q x, lst s = q ++ [x] := ⟨(lst s).dropLast, (lst s).getLast d, (List.dropLast_concat_getLast d).symm⟩
    have hlen : (lst s).length = q.length + 1 := by rw [hq, List.length_append, List.length_singleton]
    have e : ((lst s).length : Int) - ((1 : Nat) : Int) = (q.length : Int) := by omega
    rw [decT (by omega), cond_true, e, w64 (by omega) (by omega), inW_true (by omega) (by omega) (by omega), cond_true, Int.toNat_natCast, Int.toNat_natCast, ext_lst, list_lst, list_lst, lst_toB, hq, List.getLast?_concat]
    have e1 : ((q ++ [x]).drop q.length).take ((q ++ [x]).length - q.length) = [x] := by
      rw [List.drop_left, List.length_append, List.length_singleton, Nat.add_sub_cancel_left]
      rfl
    rw [e1]
    have e2 : lst (⟨#[c]⟩ : ByteArray) = [c] := rfl
    rw [e2]
    congr 1
    by_cases c1 : x = c
    · subst c1
      simp
    · simp [c1]
def vSuf (x : ByteArray × ByteArray) : ByteArray × Bool := if lastIs x.1 x.2 = true then (toB (lst x.1).dropLast, true) else (x.1, false)
theorem s_CutSuffix0 : Fz10.S (cl PSplit vSuf) := Fz10.of_cl s_HasSuffix fun x h k => by
  obtain ⟨s, t⟩ := x
  have hP := h
  obtain ⟨hs, c, ht⟩ := h
  simp only at hs ht
  subst ht
  rw [size_lst] at hs
  have hsz : (⟨#[c]⟩ : ByteArray).size = 1 := rfl
  show Fz10.pf _ BIG s ⟨#[c]⟩ k = k (vSuf (s, ⟨#[c]⟩))
  unfold Fz10.pf vSuf
  rw [cl_eq hP, Option.bind_some]
  simp only
  cases hl : lastIs s ⟨#[c]⟩ with
  | false => rfl
  | true =>
    have hne : 0 < (lst s).length := by
      unfold lastIs at hl
      rcases Nat.eq_zero_or_pos (lst s).length with q | q
      · rw [List.eq_nil_of_length_eq_zero q] at hl
        simp at hl
      · exact q
    have e : ((lst s).length : Int) - ((1 : Nat) : Int) = (((lst s).length - 1 : Nat) : Int) := by omega
    rw [hsz, size_lst, e, w64 (by omega) (by omega)]
    simp only [Bool.not_true, cond_false, if_true]
    rw [inW_true (by omega) (by omega) (by omega), cond_true, Int.toNat_natCast, ext_lst, List.drop_zero, Nat.sub_zero, List.dropLast_eq_take]
theorem s_CutSuffix : Fz38.S (cl PSplit vSuf) := Fz38.of_cl s_CutSuffix0 fun x h k => by
  unfold Fz38.pf
  rw [cl_eq (show PSplit (x.1, x.2) from h), Option.bind_some]
abbrev vRB (s : ByteArray) : DB × Int := match bottleV (lst s) with
  | some b => (b, 0)
  | none => ((0, 0), 5)
theorem line_loop {α : Type} (W : List (List UInt8)) (hW : W.length ≤ 1073741825) (hp : ∀ p, p ∈ W → p.length ≤ 1073741824) (q0 q1 : Int) (q3 : List (List DS)) (q4 : List ByteArray) (E : Option α) (K : List DS → Option α) :
    iter (Fz1.B2 (cl PSplit vCut) (cl PRd0 vRB) (cl PRd vRd) q0 q1 (((W.map toB).length : Nat) : Int) q3 q4 (W.map toB) (fun _ _ _ _ => E) (fun _ _ _ _ => E) (fun _ _ _ _ => E) (fun x2 => K x2.2)) BIG ((0 : Int), []) =
      cond (lineGo [] W).2 (K (lineGo [] W).1) E := by
  have hlen : (W.map toB).length = W.length := List.length_map ..
  refine (iter_list W (fun i (o : List DS) => ((i : Int), o)) (fun q o => cond (lineGo o q).2 (K (lineGo o q).1) E) (fun i o => o.length ≤ i) (c := []) rfl (big_lt (by omega)) (Nat.le_refl _) ?_ ?_)
  · rintro i hi o rec ho hrec
    have hw := hp _ (List.getElem_mem hi)
    have hi2 : i < (W.map toB).length := by rw [hlen]; exact hi
    have hsz : (toB W[i]).size ≤ 1073741824 := by rw [size_lst, lst_toB]; omega
    obtain ⟨z1, z2⟩ := vCut_size (toB W[i]) (bytesOf [64])
    rw [lst_toB] at z1 z2
    have p1 : PRd0 (vCut (toB W[i], bytesOf [64])).1 := by show (vCut (toB W[i], bytesOf [64])).1.size ≤ _; rw [size_lst]; omega
    have p2 : PRd ((vCut (toB W[i], bytesOf [64])).2.1, 0, 2000) := by show (vCut (toB W[i], bytesOf [64])).2.1.size ≤ _; rw [size_lst]; omega
    have hc := cut_gen 64 (by decide) stF stF_none (toB W[i])
    rw [lst_toB] at hc
    unfold Fz1.B2
    simp only [hlen, decT (show (i : Int) < (W.length : Int) by omega), inB_nat hi, cond_true, Int.toNat_natCast, getD_lt hi2, List.getElem_map, w64n (show i < 9223372036854775807 by omega)]
    rw [cl_eq (show PSplit (toB W[i], bytesOf [64]) from ⟨hsz, 64, rfl⟩), Option.bind_some, cl_eq p1, Option.bind_some, cl_eq p2, Option.bind_some, lineGo, show storedV W[i] = _ from hc]
    generalize vCut (toB W[i], bytesOf [64]) = r at *
    have g2 := rd_gen r.2.1 0 2000 (by omega) (by omega)
    cases hf : r.2.2 with
    | false => rfl
    | true =>
      simp only [Bool.not_true, cond_false, if_true]
      unfold stF
      unfold vRB
      cases ha : bottleV (lst r.1) with
      | none =>
        simp only
        rw [bneT (show (5 : Int) ≠ 0 by omega)]
        rfl
      | some b =>
        simp only
        rw [bneF (show (0 : Int) = 0 by omega), cond_false]
        cases hb : numN (lst r.2.1) with
        | none =>
          rw [hb] at g2
          simp only at g2
          rw [g2]
          rfl
        | some d =>
          rw [hb] at g2
          simp only at g2
          rw [g2]
          simp only
          rw [decT (show (0 : Int) ≤ (d : Int) by omega), Bool.true_and]
          by_cases c : d ≤ 2000
          · rw [decT (by omega), if_pos c]
            simp only [Bool.not_true, cond_false, List.length_singleton]
            rw [okS (by omega), cond_true, i16s (by omega) (by omega)]
            exact hrec _ (by simp only [List.length_append, List.length_singleton]; omega)
          · rw [decF (by omega), if_neg c]
            rfl
  · rintro o rec _
    unfold Fz1.B2
    simp only
    rw [hlen, decF (by omega), cond_false]
    rfl
theorem impl_lines {α : Type} (W : List (List UInt8)) (hW : W.length ≤ 1073741824) (hp : ∀ p, p ∈ W → p.length ≤ 1073741824) (hb : (W.map fun w => w.length + 2).sum ≤ 1073741824) (k : List (List DS) × Int → Option α) :
    iter (Fz1.B1 (cl PSplit vSplit) (cl PSplit vCut) (cl PRd0 vRB) (cl PRd vRd) BIG (((W.map toB).length : Nat) : Int) (W.map toB) (fun _ _ _ _ _ _ => k ([], 5)) (fun _ _ _ _ _ _ => k ([], 5)) (fun _ _ _ _ _ _ => k ([], 5)) (fun x1 => (cl wR validR x1.2).bind fun r3 => cond (!r3) (k ([], 5)) (k (x1.2, 0)))) BIG ((0 : Int), []) = k (rackV W) := by
  have hlen : (W.map toB).length = W.length := List.length_map ..
  have ht : k (rackV W) = (if (rackGo [] W).2 = true then (if validR (rackGo [] W).1 = true then k ((rackGo [] W).1, 0) else k ([], 5)) else k ([], 5)) := by
    unfold rackV
    by_cases q1 : (rackGo [] W).2 = true
    · rw [if_pos q1, if_pos q1]
      by_cases q2 : validR (rackGo [] W).1 = true
      · rw [if_pos q2, if_pos q2]
      · rw [if_neg q2, if_neg q2]
    · rw [if_neg q1, if_neg q1]
  rw [ht, hlen]
  have hw := rack_ok hb
  have key : ∀ (j i fuel : Nat) (o : List (List DS)), i + j = W.length → j < fuel → o.length ≤ i → wR (rackGo o (W.drop i)).1 →
      iter (Fz1.B1 (cl PSplit vSplit) (cl PSplit vCut) (cl PRd0 vRB) (cl PRd vRd) BIG (W.length : Int) (W.map toB) (fun _ _ _ _ _ _ => k ([], 5)) (fun _ _ _ _ _ _ => k ([], 5)) (fun _ _ _ _ _ _ => k ([], 5)) (fun x1 => (cl wR validR x1.2).bind fun r3 => cond (!r3) (k ([], 5)) (k (x1.2, 0)))) fuel ((i : Int), o) =
        (if (rackGo o (W.drop i)).2 = true then (if validR (rackGo o (W.drop i)).1 = true then k ((rackGo o (W.drop i)).1, 0) else k ([], 5)) else k ([], 5)) := by
    intro j
    induction j with
    | zero =>
      intro i fuel o hi hf ho hwr
      match fuel, hf with
      | f + 1, _ =>
        obtain rfl : i = W.length := by omega
        show Fz1.B1 _ _ _ _ _ _ _ _ _ _ _ _ _ = _
        unfold Fz1.B1
        simp only
        rw [List.drop_length] at hwr ⊢
        rw [decF (by omega), cond_false]
        have hwr : wR o := hwr
        rw [cl_eq hwr, Option.bind_some]
        show _ = (if validR o = true then k (o, 0) else k ([], 5))
        cases validR o <;> rfl
    | succ j ih =>
      intro i fuel o hi hf ho hwr
      match fuel, hf with
      | f + 1, hf =>
        have hlt : i < W.length := by omega
        have ih := fun o' => ih (i + 1) f o' (by omega) (by omega)
        show Fz1.B1 _ _ _ _ _ _ _ _ _ _ _ (iter _ f) _ = _
        generalize iter (Fz1.B1 (cl PSplit vSplit) (cl PSplit vCut) (cl PRd0 vRB) (cl PRd vRd) BIG (W.length : Int) (W.map toB) (fun _ _ _ _ _ _ => k ([], 5)) (fun _ _ _ _ _ _ => k ([], 5)) (fun _ _ _ _ _ _ => k ([], 5)) (fun x1 => (cl wR validR x1.2).bind fun r3 => cond (!r3) (k ([], 5)) (k (x1.2, 0)))) f = rec at *
        have hi2 : i < (W.map toB).length := by rw [hlen]; exact hlt
        have hpi := hp _ (List.getElem_mem hlt)
        have hsz : (toB W[i]).size ≤ 1073741824 := by rw [size_lst, lst_toB]; omega
        unfold Fz1.B1
        simp only [decT (show (i : Int) < (W.length : Int) by omega), inB_nat hi2, cond_true, Int.toNat_natCast, getD_lt hi2, List.getElem_map, w64n (show i < 9223372036854775807 by omega)]
        rw [empty_lst, lst_toB]
        rw [drop_cons hlt] at hwr ⊢
        unfold rackGo at hwr ⊢
        have step : ∀ x : List DS, wR (rackGo (o ++ [x]) (W.drop (i + 1))).1 → (cond (okL (List.length o + List.length [x])) (rec (((i + 1 : Nat) : Int), (o ++ [x]))) none) = (if (rackGo (o ++ [x]) (W.drop (i + 1))).2 = true then (if validR (rackGo (o ++ [x]) (W.drop (i + 1))).1 = true then k ((rackGo (o ++ [x]) (W.drop (i + 1))).1, 0) else k ([], 5)) else k ([], 5)) := fun x hx => by
          rw [List.length_singleton, okS (by omega), cond_true]
          exact ih _ (by rw [List.length_append, List.length_singleton]; omega) hx
        by_cases c : W[i] = []
        · rw [decT c]
          simp only [Bool.not_true, cond_false]
          have hl : lineS W[i] = ([], true) := by unfold lineS; rw [if_pos c]
          rw [hl] at hwr ⊢
          simp only [if_true] at hwr ⊢
          exact step [] hwr
        · rw [decF c]
          simp only [Bool.not_false, cond_true]
          rw [cl_eq (show PSplit (toB W[i], bytesOf [32]) from ⟨hsz, 32, rfl⟩), Option.bind_some]
          have e32 : vSplit (toB W[i], bytesOf [32]) = (splitL 32 W[i]).map toB := rfl
          have hl : lineS W[i] = lineGo [] (splitL 32 W[i]) := by unfold lineS; rw [if_neg c]
          have hq := splitL_part 32 W[i]
          have hq2 := splitL_len 32 W[i]
          rw [e32]
          refine (line_loop (splitL 32 W[i]) (by omega) (fun p hpm => by have := hq p hpm; omega) _ _ _ _ (k ([], 5)) (fun x => cond (okL (List.length o + List.length [x])) (rec (((i + 1 : Nat) : Int), (o ++ [x]))) none)).trans ?_
          rw [← hl]
          cases hl2 : (lineS W[i]).2 with
          | false => rfl
          | true =>
            rw [hl2] at hwr
            simp only [if_true] at hwr ⊢
            exact step _ hwr
  exact key W.length 0 BIG [] (by omega) (big_lt (by omega)) (Nat.le_refl _) hw
theorem s_impl_ReadRack : Fz1.S (cl PTx fun s => readR (lst s)) := Fz1.of_cl s_CutSuffix s_Split s_Cut s_ReadBottle s_readDec s_impl_ValidRack fun s h k => by
  have hs : s.size ≤ 1048576 := h
  have hl : (lst s).length ≤ 1048576 := by rw [← size_lst]; exact h
  unfold Fz1.pf readR
  rw [empty_lst]
  by_cases c : lst s = []
  · rw [decT c, if_pos c]; rfl
  · rw [decF c, if_neg c, cond_false, cl_eq (show PSplit (s, bytesOf [10]) from ⟨by simp only; omega, 10, rfl⟩), Option.bind_some]
    have e : lastIs s (bytesOf [10]) = decide ((lst s).getLast? = some 10) := rfl
    unfold vSuf
    simp only
    rw [e]
    by_cases d : (lst s).getLast? = some 10
    · rw [decT d, if_pos d]
      simp only [if_true, Bool.not_true, cond_false]
      have hdl : (lst s).dropLast.length ≤ 1048576 := by rw [List.length_dropLast]; omega
      rw [cl_eq (show PSplit (toB (lst s).dropLast, bytesOf [10]) from ⟨by simp only; rw [size_lst, lst_toB]; omega, 10, rfl⟩), Option.bind_some]
      have e2 : vSplit (toB (lst s).dropLast, bytesOf [10]) = (splitL 10 (lst s).dropLast).map toB := rfl
      rw [e2]
      have h1 := sum_split 10 (lst s).dropLast
      have h2 := splitL_part 10 (lst s).dropLast
      have h3 := splitL_len 10 (lst s).dropLast
      exact impl_lines (splitL 10 (lst s).dropLast) (by omega) (fun p hpm => by have := h2 p hpm; omega) (by omega) k
    · rw [decF d, if_neg d]
      rfl
theorem readR_bd (l : List UInt8) (h : l.length ≤ 1048576) : Bd (readR l).1 := by
  have h0 : Bd ([] : List (List DS)) := by unfold Bd; simp
  unfold readR
  split
  · exact h0
  · split
    · unfold rackV
      split
      · split
        · have h1 := sum_split 10 l.dropLast
          rw [List.length_dropLast] at h1
          exact (rack_ok (by omega)).1
        · exact h0
      · exact h0
    · exact h0
def gT (s : ByteArray) : Prop := s.size ≤ 140737488351232
theorem s_law_ReadRack : laws_FnExactReadRack.S (cl gT fun _ => true) := laws_FnExactReadRack.of_cl s_spec_ReadRack s_impl_ReadRack s_eqRack s_markRack s_heldRack fun s h k => by
  unfold laws_FnExactReadRack.pf
  by_cases c : ((s.size : Nat) : Int) > 1048576
  · rw [decT c]; rfl
  · rw [decF c, cond_false]
    have hp : PTx s := by show s.size ≤ _; omega
    have hl : (lst s).length ≤ 1048576 := by rw [← size_lst]; exact hp
    have hb := readR_bd (lst s) hl
    have hh := held_ok _ hb
    simp only [cl_eq hp, Option.bind_some, cl_eq (show Bd1 ((readR (lst s)).1, (readR (lst s)).1) from hb), decide_true, Bool.not_true, cond_false, bneS, cl_eq (show Bd1 ((readR (lst s)).1, (1 : Int)) from hb), cl_eq (show Bd1 ((markR 1 (readR (lst s)).1).2, (1 : Int)) from markR_bd _ _ hb), hh.1]
    rw [decF (show ¬ (markR 1 (readR (lst s)).1).1 < 0 by have := hh.2; omega)]
    rfl
end Go.Proofs.YteaodjahafgbcaaDoor.G
