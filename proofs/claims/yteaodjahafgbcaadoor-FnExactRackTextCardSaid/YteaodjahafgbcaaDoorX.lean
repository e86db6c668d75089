/- Plain proofs: what the functions answer, in plain lists and numbers. -/
import Derived.Test.YteaodjahafgbcaaDoorRd0
import Derived.Test.YteaodjahafgbcaaDoorRd1
import Derived.Test.YteaodjahafgbcaaDoorShelf
namespace Go.Proofs.YteaodjahafgbcaaDoor.G
open Go
set_option linter.unusedVariables false
set_option linter.unusedSimpArgs false
set_option maxRecDepth 10000
abbrev DB := Int × Int
abbrev DS := DB × Int
abbrev dS : DS := ((0, 0), 0)
theorem s_toBottle : Fz16.S (tot fun x => x) := Fz16.of_tot fun x k => rfl
theorem s_toStored : Fz18.S (tot fun x => x) := Fz18.of_tot s_toBottle fun x k => rfl
/-- A copy, element by element. -/
theorem copied {β : Type} {l o : List β} {k : Nat} {d : β} (h : k < l.length) (ho : o.length = l.length) (hp : o.take k = l.take k) : (o.set k l[k]).take (k + 1) = l.take (k + 1) ∧ (o.set k l[k]).length = l.length := by
  refine ⟨?_, by simpa using ho⟩
  rw [List.take_succ_eq_append_getElem (by simpa [ho] using h), List.take_succ_eq_append_getElem h, List.take_set_of_le (Nat.le_refl k), hp]
  simp
theorem toStoredS_pf {α : Type} (l : List DS) (h : l.length ≤ 1073741824) (k : List DS → Option α) : Fz19.pf (tot fun x => x) BIG l k = k l := by
  unfold Fz19.pf
  rw [inW_true (by omega) (by omega) (by unfold LIM; omega)]
  simp only [cond_true]
  refine (iter_list (B := Fz19.B1 (tot fun x => x) l fun x1 => k x1.2) l (fun i (c : List DS) => ((i : Int), c)) (fun _ _ => k l) (fun i c => c.length = l.length ∧ c.take i = l.take i) (c := List.replicate l.length dS) (by simp) (big_lt (by omega)) (by simp) ?_ ?_)
  · rintro i hi c rec ⟨h1, h2⟩ hrec
    unfold Fz19.B1
    simp only [decT (show (i : Int) < (l.length : Int) by omega), inB_nat hi, inB_nat (h1 ▸ hi : i < c.length), cond_true, Int.toNat_natCast, getD_lt hi, tot_eq, Option.bind_some, w64n (show i < 9223372036854775807 by omega)]
    have := copied (d := dS) hi h1 h2
    exact hrec _ ⟨this.2, this.1⟩
  · rintro c rec ⟨h1, h2⟩
    unfold Fz19.B1
    rw [decF (by omega)]
    rw [List.take_of_length_le (by omega), List.take_of_length_le (Nat.le_refl _)] at h2
    simp only [cond_false, h2]
theorem s_toStoredS : Fz19.S (cl PL fun l => l) := Fz19.of_cl s_toStored fun x h => toStoredS_pf x h
theorem toRack_pf {α : Type} (l : List (List DS)) (h : Bd l) (k : List (List DS) → Option α) : Fz17.pf (cl PL fun l => l) BIG l k = k l := by
  have hl := h.len
  unfold Fz17.pf
  rw [inW_true (by omega) (by omega) (by unfold LIM; omega)]
  simp only [cond_true]
  refine (iter_list (B := Fz17.B1 (cl PL fun l => l) l fun x1 => k x1.2) l (fun i (c : List (List DS)) => ((i : Int), c)) (fun _ _ => k l) (fun i c => c.length = l.length ∧ c.take i = l.take i) (c := List.replicate l.length []) (by simp) (big_lt (by omega)) (by simp) ?_ ?_)
  · rintro i hi c rec ⟨h1, h2⟩ hrec
    unfold Fz17.B1
    simp only [decT (show (i : Int) < (l.length : Int) by omega), inB_nat hi, inB_nat (h1 ▸ hi : i < c.length), cond_true, Int.toNat_natCast, getD_lt hi, cl_eq (h.pl hi), Option.bind_some, w64n (show i < 9223372036854775807 by omega)]
    have := copied (d := ([] : List DS)) hi h1 h2
    exact hrec _ ⟨this.2, this.1⟩
  · rintro c rec ⟨h1, h2⟩
    unfold Fz17.B1
    rw [decF (by omega)]
    rw [List.take_of_length_le (by omega), List.take_of_length_le (Nat.le_refl _)] at h2
    simp only [cond_false, h2]
theorem s_toRack : Fz17.S (cl Bd fun l => l) :=
  Fz17.of_cl s_toStoredS fun x h => toRack_pf x h
def Psz (x : List DS × Int) : Prop := x.1.length ≤ maxLen ∧ 0 ≤ x.2 ∧ x.2 ≤ 1048576
def vsz (x : List DS × Int) : Int := if x.2 < x.1.length then -1 else x.2 - x.1.length
theorem s_szStoredS : Fz15.S (cl Psz vsz) :=
  Fz15.of_cl fun x ⟨h1, h2, h3⟩ k => by
    unfold maxLen at h1
    unfold Fz15.pf vsz
    rw [w64 (by omega) (by omega)]
    by_cases c : x.2 < x.1.length
    · rw [decT (by omega), if_pos c]; rfl
    · rw [decF (by omega), if_neg c]; rfl
/-- What is left over. -/
def szL (n : Int) : List (List DS) → Int
  | [] => n
  | x :: l => if n < x.length then -1 else szL (n - x.length) l
theorem szRack_pf {α : Type} (l : List (List DS)) (n : Int) (h : l.length ≤ maxLen) (hr : ∀ x, x ∈ l → x.length ≤ maxLen) (h0 : 0 ≤ n) (h1 : n ≤ 1048576) (k : Int → Option α) :
    Fz14.pf (cl Psz vsz) BIG l n k = k (if n < l.length then -1 else szL (n - l.length) l) := by
  have hl := h
  unfold maxLen at hl
  unfold Fz14.pf
  rw [w64 (by omega) (by omega)]
  by_cases c : n < l.length
  · rw [decT (by omega), if_pos c]; rfl
  · rw [decF (by omega), if_neg c, cond_false]
    refine iter_list l (fun i (c : Int) => (c, (i : Int))) (fun r c => k (szL c r)) (fun i c => 0 ≤ c ∧ c ≤ 1048576) (c := n - l.length) rfl (big_lt (by omega)) (by omega) ?_ ?_
    · rintro i hi c rec ⟨h2, h3⟩ hrec
      unfold Fz14.B1
      simp only [decT (show (i : Int) < (l.length : Int) by omega), inB_nat hi, cond_true, Int.toNat_natCast, getD_lt hi, cl_eq (show Psz (l[i], c) from ⟨hr _ (List.getElem_mem hi), h2, h3⟩), vsz, Option.bind_some, w64n (show i < 9223372036854775807 by omega), szL]
      by_cases q : c < (l[i].length : Int)
      · simp only [if_pos q]; rfl
      · simp only [if_neg q, decF (show ¬ (c - (l[i].length : Int) < 0) by omega), cond_false]
        exact hrec _ (by omega)
    · rintro c rec _
      unfold Fz14.B1
      rw [decF (by omega)]
      rfl
def PszR (x : List (List DS) × Int) : Prop := x.1.length ≤ maxLen ∧ (∀ r, r ∈ x.1 → r.length ≤ maxLen) ∧ 0 ≤ x.2 ∧ x.2 ≤ 1048576
def vszR (x : List (List DS) × Int) : Int := if x.2 < x.1.length then -1 else szL (x.2 - x.1.length) x.1
theorem s_szRack : Fz14.S (cl PszR vszR) := Fz14.of_cl s_szStoredS fun x ⟨h1, h2, h3, h4⟩ => szRack_pf x.1 x.2 h1 h2 h3 h4
theorem szL_nn : ∀ (l : List (List DS)) (n : Int), 0 ≤ n → 0 ≤ szL n l → szL n l = n - ((l.map List.length).sum : Nat)
  | [], n, _, _ => by simp [szL]
  | x :: l, n, h, h1 => by
    unfold szL at h1 ⊢
    by_cases c : n < x.length
    · rw [if_pos c] at h1; omega
    · rw [if_neg c] at h1 ⊢
      rw [szL_nn l _ (by omega) h1]
      simp
      omega
/-- What went through is small. -/
theorem sz_bd {l : List (List DS)} {n : Int} (h0 : 0 ≤ n) (h1 : n ≤ 1048576) (h : ¬ vszR (l, n) < 0) : Bd l ∧ 0 ≤ vszR (l, n) ∧ vszR (l, n) ≤ 1048576 := by
  unfold vszR at h ⊢
  simp only at h ⊢
  by_cases c : n < l.length
  · rw [if_pos c] at h; omega
  · rw [if_neg c] at h ⊢
    have := szL_nn l (n - l.length) (by omega) (by omega)
    unfold Bd
    omega
theorem s_eqBottle : Fz10.S (tot fun x => decide (x.1 = x.2)) := Fz10.of_tot fun x k => by
  obtain ⟨⟨a1, a2⟩, b1, b2⟩ := x
  unfold Fz10.pf
  by_cases h1 : a1 = b1
  · by_cases h2 : a2 = b2
    · simp [h1, h2]
    · simp [h1, h2, bneT h2]
  · simp [h1, bneT h1]
theorem s_eqStored : Fz12.S (tot fun x => decide (x.1 = x.2)) := Fz12.of_tot s_eqBottle fun x k => by
  obtain ⟨⟨a1, a2⟩, b1, b2⟩ := x
  unfold Fz12.pf
  by_cases h1 : a1 = b1
  · by_cases h2 : a2 = b2
    · simp [h1, h2, tot]
    · simp [h1, h2, tot, bneT h2]
  · simp [h1, tot]
/-- Lists of one length are alike where no pair of elements differs. -/
theorem any_eq {β : Type} [DecidableEq β] : ∀ (a b : List β), a.length = b.length → (a.zip b).any (fun p => !decide (p.1 = p.2)) = !decide (a = b)
  | [], [], _ => by simp
  | [], _ :: _, h => by simp at h
  | _ :: _, [], h => by simp at h
  | x :: a, y :: b, h => by
    rw [List.zip_cons_cons, List.any_cons, any_eq a b (by simpa using h)]
    by_cases c : x = y <;> by_cases c2 : a = b <;> simp [c, c2]
theorem zip_at {β γ : Type} {a : List β} {b : List γ} {k : Nat} (h : k < (a.zip b).length) : (a.zip b)[k] = (a[k]'(by simp at h; omega), b[k]'(by simp at h; omega)) := by simp
theorem eqStoredS_pf {α : Type} (a b : List DS) (h : a.length ≤ 1073741824) (k : Bool → Option α) : Fz13.pf (tot fun x => decide (x.1 = x.2)) BIG a b k = k (decide (a = b)) := by
  unfold Fz13.pf
  by_cases c : a.length = b.length
  · rw [show (((a.length : Nat) : Int) != ((b.length : Nat) : Int)) = false by simp [c], cond_false]
    have hz : (a.zip b).length = a.length := by simp [c]
    rw [iter_first (a.zip b) (fun i => (i : Int)) (fun p => !decide (p.1 = p.2)) (fun _ _ => k false) (k true) (x := 0) rfl (big_lt (by omega)) ?_ ?_, firstOr_const, any_eq a b c]
    · by_cases e : a = b <;> simp [e]
    · intro i hi rec
      have h1 : i < a.length := by omega
      have h2 : i < b.length := by omega
      unfold Fz13.B1
      rw [zip_at hi]
      simp only [decT (show (i : Int) < (a.length : Int) by omega), inB_nat h1, inB_nat h2, cond_true, Int.toNat_natCast, getD_lt h1, getD_lt h2, tot_eq, Option.bind_some, w64n (show i < 9223372036854775807 by omega)]
    · intro rec
      unfold Fz13.B1
      rw [decF (by omega)]
      rfl
  · rw [show (((a.length : Nat) : Int) != ((b.length : Nat) : Int)) = true by simpa using fun q => c (by omega), cond_true]
    rw [decF (fun e => c (by rw [e]))]
theorem s_eqStoredS : Fz13.S (cl PL1 fun x => decide (x.1 = x.2)) := Fz13.of_cl s_eqStored fun x h => eqStoredS_pf x.1 x.2 h
theorem eqRack_pf {α : Type} (a b : List (List DS)) (h : Bd a) (k : Bool → Option α) : Fz11.pf (cl PL1 fun x => decide (x.1 = x.2)) BIG a b k = k (decide (a = b)) := by
  have hl := h.len
  unfold Fz11.pf
  by_cases c : a.length = b.length
  · rw [show (((a.length : Nat) : Int) != ((b.length : Nat) : Int)) = false by simp [c], cond_false]
    have hz : (a.zip b).length = a.length := by simp [c]
    rw [iter_first (a.zip b) (fun i => (i : Int)) (fun p => !decide (p.1 = p.2)) (fun _ _ => k false) (k true) (x := 0) rfl (big_lt (by omega)) ?_ ?_, firstOr_const, any_eq a b c]
    · by_cases e : a = b <;> simp [e]
    · intro i hi rec
      have h1 : i < a.length := by omega
      have h2 : i < b.length := by omega
      unfold Fz11.B1
      rw [zip_at hi]
      simp only [decT (show (i : Int) < (a.length : Int) by omega), inB_nat h1, inB_nat h2, cond_true, Int.toNat_natCast, getD_lt h1, getD_lt h2, cl_eq (show PL1 (a[i], b[i]) from h.at h1), Option.bind_some, w64n (show i < 9223372036854775807 by omega)]
    · intro rec
      unfold Fz11.B1
      rw [decF (by omega)]
      rfl
  · rw [show (((a.length : Nat) : Int) != ((b.length : Nat) : Int)) = true by simpa using fun q => c (by omega), cond_true]
    rw [decF (fun e => c (by rw [e]))]
theorem s_eqRack : Fz11.S (cl Bd1 fun x => decide (x.1 = x.2)) := Fz11.of_cl s_eqStoredS fun x h => eqRack_pf x.1 x.2 h
def validB (b : DB) : Bool := decide (1 ≤ b.1) && decide (b.1 ≤ 20) && (decide (1900 ≤ b.2) && decide (b.2 ≤ 2099))
def validS (s : DS) : Bool := validB s.1 && (decide (0 ≤ s.2) && decide (s.2 ≤ 2000))
def validR (r : List (List DS)) : Bool := decide (r.length ≤ 8) && r.all fun l => decide (l.length ≤ 6) && l.all validS
/-- Whole numbers of their kinds. -/
def wB (b : DB) : Prop := 0 ≤ b.1 ∧ b.1 ≤ 255 ∧ -32768 ≤ b.2 ∧ b.2 ≤ 32767
def wS (s : DS) : Prop := wB s.1 ∧ -32768 ≤ s.2 ∧ s.2 ≤ 32767
def wL (l : List DS) : Prop := PL l ∧ ∀ s, s ∈ l → wS s
def wR (r : List (List DS)) : Prop := Bd r ∧ ∀ l, l ∈ r → ∀ s, s ∈ l → wS s
theorem wR.at {r : List (List DS)} (h : wR r) {k : Nat} (hk : k < r.length) : wL r[k] := ⟨h.1.pl hk, h.2 _ (List.getElem_mem hk)⟩
theorem wL.at {l : List DS} (h : wL l) {k : Nat} (hk : k < l.length) : wS l[k] := h.2 _ (List.getElem_mem hk)
theorem s_l00In : spec_l00In.S (tot fun x => decide (x.2.1 ≤ x.1) && decide (x.1 ≤ x.2.2)) := spec_l00In.of_tot fun x k => by
  unfold spec_l00In.pf
  by_cases c : x.2.1 ≤ x.1
  · rw [decT (show x.1 ≥ x.2.1 from c)]; rfl
  · rw [decF (show ¬ x.1 ≥ x.2.1 from c)]; rfl
theorem s_within : Fz8.S (tot fun x => decide (x.2.1 ≤ x.1) && decide (x.1 ≤ x.2.2)) := Fz8.of_tot fun x k => by
  unfold Fz8.pf
  by_cases c : x.2.1 ≤ x.1
  · rw [decT c]; rfl
  · rw [decF c]; rfl
theorem s_l01Bottle : Fz27.S (cl wB validB) := Fz27.of_cl s_l00In fun x ⟨h1, h2, h3, h4⟩ k => by
  unfold Fz27.pf validB
  simp only [tot_eq, Option.bind_some, w64 (n := x.1) (by omega) (by omega), w64 (n := x.2) (by omega) (by omega)]
  cases decide (1 ≤ x.1) && decide (x.1 ≤ 20) <;> rfl
theorem s_ValidBottle : Fz2.S (cl wB validB) := Fz2.of_cl s_within fun x ⟨h1, h2, h3, h4⟩ k => by
  unfold Fz2.pf validB
  simp only [tot_eq, Option.bind_some, w64 (n := x.1) (by omega) (by omega), w64 (n := x.2) (by omega) (by omega)]
  cases decide (1 ≤ x.1) && decide (x.1 ≤ 20) <;> rfl
theorem s_l04Stored : Fz31.S (cl wS validS) := Fz31.of_cl s_l01Bottle s_l00In fun x ⟨h1, h2, h3⟩ k => by
  unfold Fz31.pf validS
  rw [cl_eq h1, w64 (n := x.2) (by omega) (by omega)]
  simp only [tot_eq, Option.bind_some]
  cases validB x.1 <;> rfl
theorem s_validStored : Fz7.S (cl wS validS) := Fz7.of_cl s_ValidBottle s_within fun x ⟨h1, h2, h3⟩ k => by
  unfold Fz7.pf validS
  rw [cl_eq h1, w64 (n := x.2) (by omega) (by omega)]
  simp only [tot_eq, Option.bind_some]
  cases validB x.1 <;> rfl
theorem any_not {β : Type} (l : List β) (p : β → Bool) : (l.any fun x => !p x) = !l.all p := by
  induction l with
  | nil => rfl
  | cons x l ih => rw [List.any_cons, List.all_cons, ih, Bool.not_and]
theorem s_l04All : Fz29.S (cl wL fun l => l.all validS) := Fz29.of_cl s_l04Stored fun x h k => by
  have hl : x.length ≤ 1073741824 := h.1
  unfold Fz29.pf
  rw [iter_first x (fun i => (i : Int)) (fun s => !validS s) (fun _ _ => k false) (k true) (x := 0) rfl (big_lt (by omega)) ?_ ?_, firstOr_const, any_not]
  · cases x.all validS <;> rfl
  · intro i hi rec
    unfold Fz29.B1
    simp only [decT (show (i : Int) < (x.length : Int) by omega), inB_nat hi, cond_true, Int.toNat_natCast, getD_lt hi, cl_eq (h.at hi), Option.bind_some, w64n (show i < 9223372036854775807 by omega)]
  · intro rec
    unfold Fz29.B1
    rw [decF (by omega)]
    rfl
theorem s_l04Ok : spec_l04Ok.S (cl wR validR) := spec_l04Ok.of_cl s_l04All fun x h k => by
  have hl := h.1.len
  unfold spec_l04Ok.pf
  rw [iter_first x (fun i => (i : Int)) (fun l => !(decide (l.length ≤ 6) && l.all validS)) (fun _ _ => k false) (k (decide (x.length ≤ 8))) (x := 0) rfl (big_lt (by omega)) ?_ ?_, firstOr_const, any_not]
  · unfold validR
    cases x.all fun l => decide (l.length ≤ 6) && l.all validS
    · rw [Bool.and_false]; rfl
    · rw [Bool.and_true]; rfl
  · intro i hi rec
    have := h.1.at hi
    unfold spec_l04Ok.B1
    simp only [decT (show (i : Int) < (x.length : Int) by omega), inB_nat hi, cond_true, Int.toNat_natCast, getD_lt hi, cl_eq (h.at hi), Option.bind_some, w64n (show i < 9223372036854775807 by omega)]
    by_cases c : x[i].length ≤ 6
    · rw [decF (show ¬ ((x[i].length : Int) > 6) by omega), decT c]; rfl
    · rw [decT (show ((x[i].length : Int) > 6) by omega), decF c]; rfl
  · intro rec
    unfold spec_l04Ok.B1
    rw [decF (by omega)]
    simp only [cond_false]
    congr 1
    by_cases c : x.length ≤ 8
    · rw [decT c, decT (by omega)]
    · rw [decF c, decF (by omega)]
theorem s_ValidRack_1_1 : Fz5.S (cl wS fun s => !validS s) := Fz5.of_cl s_validStored fun x h k => by
  unfold Fz5.pf
  rw [cl_eq h]; rfl
/-- Where the first one is. -/
def indexI {β : Type} (p : β → Bool) (l : List β) : Int := match l.findIdx? p with
  | some i => i
  | none => -1
theorem firstOr_index {α β : Type} (p : β → Bool) (k : Int → Option α) : ∀ (l : List β) (j : Nat), firstOr p (fun i _ => k (i : Int)) (k (-1)) j l = k (match l.findIdx? p with | some i => ((j + i : Nat) : Int) | none => -1)
  | [], _ => rfl
  | x :: l, j => by
    rw [firstOr, List.findIdx?_cons]
    cases p x with
    | true => simp
    | false =>
      rw [cond_false, firstOr_index p k l]
      cases l.findIdx? p with
      | none => rfl
      | some i => simp [Nat.add_assoc, Nat.add_comm 1 i]
theorem indexI_nn {β : Type} (p : β → Bool) (l : List β) : decide (indexI p l ≥ 0) = l.any p := by
  unfold indexI
  cases h : l.findIdx? p with
  | none =>
    have := List.findIdx?_eq_none_iff.1 h
    simp only
    rw [decF (by omega)]
    symm
    rw [List.any_eq_false]
    intro x hx
    simpa using this x hx
  | some i =>
    simp only
    rw [decT (by omega)]
    symm
    obtain ⟨hi, hp, _⟩ := List.findIdx?_eq_some_iff_getElem.1 h
    exact List.any_eq_true.2 ⟨_, List.getElem_mem hi, hp⟩
theorem s_index_1_1 : Fz23.S (cl wL fun l => indexI (fun s => !validS s) l) :=
  Fz23.of_cl s_ValidRack_1_1 fun x h k => by
  have hl : x.length ≤ 1073741824 := h.1
  unfold Fz23.pf
  rw [iter_first x (fun i => (i : Int)) (fun s => !validS s) (fun i _ => k (i : Int)) (k (-1)) (x := 0) rfl (big_lt (by omega)) ?_ ?_, firstOr_index]
  · unfold indexI
    congr 1
    cases x.findIdx? fun s => !validS s <;> simp
  · intro i hi rec
    unfold Fz23.B1
    simp only [decT (show (i : Int) < (x.length : Int) by omega), inB_nat hi, cond_true, Int.toNat_natCast, getD_lt hi, cl_eq (h.at hi), Option.bind_some, w64n (show i < 9223372036854775807 by omega)]
  · intro rec
    unfold Fz23.B1
    rw [decF (by omega)]
    rfl
theorem s_contains_1_1 : Fz21.S (cl wL fun l => !l.all validS) :=
  Fz21.of_cl s_index_1_1 fun x h k => by
  unfold Fz21.pf
  rw [cl_eq h, Option.bind_some, indexI_nn, any_not]
theorem s_ValidRack_1 : Fz4.S (cl wL fun l => !(decide (l.length ≤ 6) && l.all validS)) := Fz4.of_cl s_contains_1_1 fun x h k => by
  unfold Fz4.pf
  have hl : x.length ≤ 1073741824 := h.1
  by_cases c : x.length ≤ 6
  · rw [decF (show ¬ ((x.length : Int) > 6) by omega), decT c, cl_eq h]; rfl
  · rw [decT (show ((x.length : Int) > 6) by omega), decF c]; rfl
theorem s_index_1 : Fz22.S (cl wR fun r => indexI (fun l => !(decide (l.length ≤ 6) && l.all validS)) r) :=
  Fz22.of_cl s_ValidRack_1 fun x h k => by
  have hl := h.1.len
  unfold Fz22.pf
  rw [iter_first x (fun i => (i : Int)) (fun l => !(decide (l.length ≤ 6) && l.all validS)) (fun i _ => k (i : Int)) (k (-1)) (x := 0) rfl (big_lt (by omega)) ?_ ?_, firstOr_index]
  · unfold indexI
    congr 1
    cases x.findIdx? fun l => !(decide (l.length ≤ 6) && l.all validS) <;> simp
  · intro i hi rec
    unfold Fz22.B1
    simp only [decT (show (i : Int) < (x.length : Int) by omega), inB_nat hi, cond_true, Int.toNat_natCast, getD_lt hi, cl_eq (h.at hi), Option.bind_some, w64n (show i < 9223372036854775807 by omega)]
  · intro rec
    unfold Fz22.B1
    rw [decF (by omega)]
    rfl
theorem s_contains_1 : Fz20.S (cl wR fun r => !r.all fun l => decide (l.length ≤ 6) && l.all validS) :=
  Fz20.of_cl s_index_1 fun x h k => by
  unfold Fz20.pf
  rw [cl_eq h, Option.bind_some, indexI_nn, any_not]
theorem s_impl_ValidRack : Fz3.S (cl wR validR) := Fz3.of_cl s_contains_1 fun x h k => by
  unfold Fz3.pf validR
  have hl := h.1.len
  by_cases c : x.length ≤ 8
  · rw [decT (show ((x.length : Int) ≤ 8) by omega), decT c, cl_eq h]; simp
  · rw [decF (show ¬ ((x.length : Int) ≤ 8) by omega), decF c]; rfl
theorem good_B {b : DB} (h : goodV (.st (.pair (.int .u8) (.int .i16))) b) : wB b := by
  obtain ⟨h1, h2⟩ := h
  simp only [goodV, Lit.wf, IntKind.min, IntKind.max, IntKind.bits, IntKind.signed] at h1 h2
  simp at h1 h2
  unfold wB
  omega
theorem good_S {s : DS} (h : goodV (.st (.pair (.st (.pair (.int .u8) (.int .i16))) (.int .i16))) s) : wS s := by
  obtain ⟨h1, h2⟩ := h
  refine ⟨good_B h1, ?_⟩
  simp only [goodV, Lit.wf, IntKind.min, IntKind.max, IntKind.bits, IntKind.signed] at h2
  simp at h2
  omega
/-- What comes in. -/
def gR (r : List (List DS)) : Prop := r.length ≤ maxLen ∧ (∀ l, l ∈ r → l.length ≤ maxLen) ∧ ∀ l, l ∈ r → ∀ s, s ∈ l → wS s
theorem good_rack {e e' : TypeId} {r : List (List DS)} (h : goodV (.row e (.row e' (.st (.pair (.st (.pair (.int .u8) (.int .i16))) (.int .i16))))) r) : gR r := by
  obtain ⟨h1, h2⟩ := h
  have h3 : ∀ l, l ∈ r → goodV (.row e' (.st (.pair (.st (.pair (.int .u8) (.int .i16))) (.int .i16)))) l := fun l hl => by
    obtain ⟨i, hi, rfl⟩ := List.mem_iff_getElem.1 hl
    have := h2 i hi
    rwa [getD_lt hi] at this
  refine ⟨h1, fun l hl => (h3 l hl).1, fun l hl s hs => ?_⟩
  obtain ⟨i, hi, rfl⟩ := List.mem_iff_getElem.1 hs
  have := (h3 l hl).2 i hi
  rw [getD_lt hi] at this
  exact good_S this
theorem gR.sz {r : List (List DS)} (h : gR r) : PszR (r, 1048576) := ⟨h.1, h.2.1, by simp, by simp⟩
theorem gR.w {r : List (List DS)} (h : gR r) (c : ¬ vszR (r, 1048576) < 0) : wR r := ⟨(sz_bd (by omega) (by omega) c).1, h.2.2⟩
/-- Few lanes, each of them short. -/
def Few (o : List (List DS)) : Prop := o.length ≤ 8 ∧ ∀ x, x ∈ o → x.length ≤ 6
theorem Few.at {o : List (List DS)} (h : Few o) {n : Nat} (hn : n < o.length) : o[n].length ≤ 6 := h.2 _ (List.getElem_mem hn)
theorem Few.set {o : List (List DS)} (h : Few o) {n : Nat} {x : List DS} (hx : x.length ≤ 6) : Few (o.set n x) := ⟨by rw [List.length_set]; exact h.1, fun y hy => by
  rcases List.mem_or_eq_of_mem_set hy with q | rfl
  · exact h.2 y q
  · exact hx⟩
def decN (n : Int) : ByteArray := ⟨(Lib.itoa n).toArray⟩
def P64 (n : Int) : Prop := -9223372036854775808 ≤ n ∧ n ≤ 9223372036854775807
theorem limP {n : Nat} (h : n ≤ 4294967296) : decide (n ≤ LIM) = true := decide_eq_true h
theorem bsizeP (a b : ByteArray) : (a ++ b).size = a.size + b.size := ByteArray.size_append
theorem dappP (a b : ByteArray) : (a ++ b).data.toList = a.data.toList ++ b.data.toList := by
  rw [ByteArray.data_append, Array.toList_append]
theorem gv_one {w : World} {B : List Nat} (h : GO w B) : ∃ t fr, w.heap[1]? = some (.cells ((List.range 20).map fun i => Value.int .u64 ((10 ^ i : Nat) : Int)).toArray t fr) := by
  obtain ⟨cs, t, fr, h1, h2⟩ := h.1 _ (List.mem_cons_self ..)
  have h2 : cs = _ := h2
  rw [h2] at h1
  exact ⟨t, fr, h1⟩
theorem go_below {w w' : World} {B : List Nat} (h : GO w B) (hb : Go.RowKit.Below w.heap.size w w') : GO w' [] := by
  refine ⟨fun x hx => ?_, fun x hx => ⟨Nat.lt_of_lt_of_le (h.2 x hx).1 hb.size, List.not_mem_nil⟩⟩
  obtain ⟨cs, t, fr, h1, h2⟩ := h.1 x hx
  exact ⟨cs, t, fr, (hb.block _ (h.2 x hx).1).trans h1, h2⟩
theorem s_decimalN : Fz6.S (cl P64 decN) where
  fn := ⟨Tryd.f20, by kernel_rfl, by decide, by decide⟩
  does := fun avs r hr vs w gh MBb hR => by
    obtain ⟨x, y, h1, h2, rfl⟩ := mkSig_run hr
    obtain rfl := Fz6.dec_eq h1
    obtain ⟨hp, rfl⟩ := cl_some h2
    have hR : R 1 w ⟨MBb, _⟩ ⟨[.val (.int .i64) x], []⟩ gh ⟨vs.toArray, []⟩ w := hR
    have hsz : vs.length = 1 := by simpa using hR.tm
    match vs, hsz with
    | [v0], _ =>
      have a0 : v0 = .int .i64 x := (hR.slots 0 (by omega)).2.2
      subst a0
      obtain ⟨t, fr, g1⟩ := gv_one hR.go
      refine (Go.Proofs.Tryd.calls_decimal x hp.1 hp.2 w (Go.Proofs.Tryd.heap_var (by kernel_rfl) g1)).mono fun e w' ⟨he, k, os, hw⟩ => ?_
      have hb : Go.RowKit.Below w.heap.size w w' := by rw [hw]; exact Go.Proofs.Tryd.below_grown k os
      subst he
      exact ⟨_, gh, [.val .str (decN x)], [.string (decN x)], hR.ret hb (fun h => h.elim) _ _ (All2.cons_iff.2 ⟨⟨rfl, trivial, rfl⟩, All2.nil _⟩), rfl, rfl, rfl⟩
theorem decN_nat (n : Nat) : decN (n : Int) = ⟨(Lib.decDigits n).toArray⟩ := by
  unfold decN Lib.itoa
  rw [if_neg (by omega), Int.toNat_natCast]
theorem dec_big2 {n : Nat} (h : ¬ n < 10) : Lib.decDigits n = Lib.decDigits (n / 10) ++ [UInt8.ofNat (48 + n % 10)] := by rw [Lib.decDigits, dif_neg h]
theorem dec_len2 : ∀ (k n : Nat), n < 10 ^ (k + 1) → (Lib.decDigits n).length ≤ k + 1
  | 0, n, h => by rw [Lib.decDigits_one (by simpa using h)]; simp
  | k + 1, n, h => by
    by_cases c : n < 10
    · rw [Lib.decDigits_one c]; simp
    · rw [dec_big2 c, List.length_append]
      have := dec_len2 k (n / 10) (by rw [Nat.pow_succ] at h; omega)
      simp only [List.length_singleton]
      omega
def P4 (n : Int) : Prop := 0 ≤ n ∧ n ≤ 9999
theorem decN_size {n : Int} (h : P4 n) : (decN n).size ≤ 4 := by
  obtain ⟨m, rfl⟩ := Int.eq_ofNat_of_zero_le h.1
  have hm : m < 10 ^ (3 + 1) := by have := h.2; omega
  rw [decN_nat]
  have := dec_len2 3 m hm
  show (Lib.decDigits m).toArray.size ≤ 4
  simpa using this
theorem strOf_one {n : Nat} (h : n < 10) : strOf [48 + (n : Int)] = ⟨#[UInt8.ofNat (48 + n)]⟩ := by
  unfold strOf
  rw [show (48 + (n : Int)) = ((48 + n : Nat) : Int) by omega]
  rfl
theorem decimal_pfN {α : Type} (f : Int → Option ByteArray) (n : Nat) (h2 : n ≤ 9999) (hf : 10 ≤ n → f ((n / 10 : Nat) : Int) = some (decN ((n / 10 : Nat) : Int))) (k : ByteArray → Option α) : Fz24.pf f BIG (n : Int) k = k (decN (n : Int)) := by
  unfold Fz24.pf
  have e : Int.tmod (n : Int) 10 = ((n % 10 : Nat) : Int) := by rw [Int.tmod_eq_emod_of_nonneg (by omega)]; omega
  have e1 : Int.tdiv (n : Int) 10 = ((n / 10 : Nat) : Int) := by rw [Int.tdiv_eq_ediv_of_nonneg (by omega)]; omega
  rw [e, e1, w64 (n := 48 + ((n % 10 : Nat) : Int)) (by omega) (by omega), w64 (n := ((n / 10 : Nat) : Int)) (by omega) (by omega)]
  have e2 : IntKind.u8.wrap (48 + ((n % 10 : Nat) : Int)) = 48 + ((n % 10 : Nat) : Int) := by rw [IntKind.wrap_u8]; omega
  rw [e2, strOf_one (n := n % 10) (by omega)]
  simp only [beqF (show (10 : Int) ≠ 0 by omega), cond_false]
  rw [decN_nat]
  by_cases c : n < 10
  · have e3 : n % 10 = n := by omega
    rw [decT (show (n : Int) < 10 by omega), Lib.decDigits_one c, e3]
    rfl
  · rw [decF (show ¬ (n : Int) < 10 by omega), cond_false, hf (by omega), Option.bind_some]
    have hsz := decN_size (n := ((n / 10 : Nat) : Int)) ⟨by omega, by omega⟩
    have h1 : ByteArray.size ⟨#[UInt8.ofNat (48 + n % 10)]⟩ = 1 := rfl
    rw [limP (by rw [h1]; omega), cond_true, dec_big2 c, decN_nat]
    congr 1
def P1d (n : Int) : Prop := 0 ≤ n ∧ n ≤ 9
def P2d (n : Int) : Prop := 0 ≤ n ∧ n ≤ 99
def P3d (n : Int) : Prop := 0 ≤ n ∧ n ≤ 999
theorem s_DecN0 : Fz24.S (fun _ => none) := Sound.never ⟨Tryd.f36, by kernel_rfl, by decide, by decide⟩ fun _ => rfl
theorem s_DecN1 : Fz24.S (cl P1d decN) := Fz24.of_cl s_DecN0 fun n h k => by
  obtain ⟨m, rfl⟩ := Int.eq_ofNat_of_zero_le h.1
  have := h.2
  exact decimal_pfN _ m (by omega) (fun q => by omega) k
theorem s_DecN2 : Fz24.S (cl P2d decN) := Fz24.of_cl s_DecN1 fun n h k => by
  obtain ⟨m, rfl⟩ := Int.eq_ofNat_of_zero_le h.1
  have := h.2
  exact decimal_pfN _ m (by omega) (fun q => cl_eq (show P1d _ from ⟨by omega, by omega⟩)) k
theorem s_DecN3 : Fz24.S (cl P3d decN) := Fz24.of_cl s_DecN2 fun n h k => by
  obtain ⟨m, rfl⟩ := Int.eq_ofNat_of_zero_le h.1
  have := h.2
  exact decimal_pfN _ m (by omega) (fun q => cl_eq (show P2d _ from ⟨by omega, by omega⟩)) k
theorem s_DecN : Fz24.S (cl P4 decN) := Fz24.of_cl s_DecN3 fun n h k => by
  obtain ⟨m, rfl⟩ := Int.eq_ofNat_of_zero_le h.1
  have := h.2
  exact decimal_pfN _ m (by omega) (fun q => cl_eq (show P3d _ from ⟨by omega, by omega⟩)) k
def btV (b : DB) : ByteArray := (decN b.1 ++ bytesOf [58]) ++ decN b.2
def wdV (s : DS) : ByteArray := (btV s.1 ++ bytesOf [64]) ++ decN s.2
def PBt (b : DB) : Prop := validB b = true
theorem validB_p {b : DB} (h : PBt b) : P4 b.1 ∧ P4 b.2 := by
  unfold PBt validB at h
  simp only [Bool.and_eq_true, decide_eq_true_eq] at h
  unfold P4
  omega
theorem btV_size {b : DB} (h : PBt b) : (btV b).size ≤ 9 := by
  have h1 := decN_size (validB_p h).1
  have h2 := decN_size (validB_p h).2
  have h3 : (bytesOf [58]).size = 1 := rfl
  unfold btV
  rw [bsizeP, bsizeP]
  omega
theorem validS_p {s : DS} (h : validS s = true) : PBt s.1 ∧ P4 s.2 := by
  unfold validS at h
  simp only [Bool.and_eq_true, decide_eq_true_eq] at h
  exact ⟨h.1, by unfold P4; omega⟩
theorem wdV_size {s : DS} (h : validS s = true) : (wdV s).size ≤ 14 := by
  have h1 := btV_size (validS_p h).1
  have h2 := decN_size (validS_p h).2
  have h3 : (bytesOf [64]).size = 1 := rfl
  unfold wdV
  rw [bsizeP, bsizeP]
  omega
theorem s_l01BottleTextV : Fz28.S (cl PBt btV) := Fz28.of_cl s_DecN fun b h k => by
  obtain ⟨h1, h2⟩ := validB_p h
  have z1 := decN_size h1
  have z2 := decN_size h2
  have h3 : (bytesOf [58]).size = 1 := rfl
  unfold Fz28.pf btV
  rw [w64 (n := b.1) (by have := h1.1; omega) (by have := h1.2; omega), w64 (n := b.2) (by have := h2.1; omega) (by have := h2.2; omega), cl_eq h1, Option.bind_some, limP (by omega), cond_true, cl_eq h2, Option.bind_some, limP (by rw [bsizeP]; omega), cond_true]
theorem s_BottleTextV : Fz0.S (cl PBt btV) := Fz0.of_cl s_ValidBottle s_decimalN fun b h k => by
  obtain ⟨h1, h2⟩ := validB_p h
  have z1 := decN_size h1
  have z2 := decN_size h2
  have h3 : (bytesOf [58]).size = 1 := rfl
  have hw : wB b := by
    have := h1.1; have := h1.2; have := h2.1; have := h2.2
    unfold PBt validB at h
    simp only [Bool.and_eq_true, decide_eq_true_eq] at h
    unfold wB
    omega
  have hv : validB b = true := h
  have p1 : P64 b.1 := by have := h1.1; have := h1.2; unfold P64; omega
  have p2 : P64 b.2 := by have := h2.1; have := h2.2; unfold P64; omega
  unfold Fz0.pf btV
  rw [cl_eq hw, Option.bind_some, hv, Bool.not_true, cond_false, w64 (n := b.1) p1.1 p1.2, w64 (n := b.2) p2.1 p2.2, cl_eq p1, Option.bind_some, limP (by omega), cond_true, cl_eq p2, Option.bind_some, limP (by rw [bsizeP]; omega), cond_true]
def lnV : Nat → ByteArray → List DS → ByteArray
  | _, t, [] => t
  | i, t, s :: l => lnV (i + 1) ((if i = 0 then t else t ++ bytesOf [32]) ++ wdV s) l
def rkV (t : ByteArray) : List (List DS) → ByteArray
  | [] => t
  | l :: r => rkV (lnV 0 t l ++ bytesOf [10]) r
theorem lnV_size : ∀ (l : List DS) (i : Nat) (t : ByteArray), l.all validS = true → (lnV i t l).size ≤ t.size + 15 * l.length
  | [], i, t, _ => Nat.le_refl _
  | s :: l, i, t, h => by
    rw [List.all_cons, Bool.and_eq_true] at h
    have h1 := lnV_size l (i + 1) ((if i = 0 then t else t ++ bytesOf [32]) ++ wdV s) h.2
    have h2 := wdV_size h.1
    have h3 : (bytesOf [32]).size = 1 := rfl
    rw [lnV, List.length_cons]
    refine Nat.le_trans h1 ?_
    rw [bsizeP]
    split
    · omega
    · rw [bsizeP]; omega
theorem ln_tail : ∀ (l : List DS) (i : Nat) (t : ByteArray), (lnV (i + 1) t l).data.toList = t.data.toList ++ Lib.joinTail [32] (l.map fun s => (wdV s).data.toList)
  | [], i, t => by simp [lnV, Lib.joinTail]
  | s :: l, i, t => by
    rw [lnV, ln_tail l (i + 1), if_neg (by omega), dappP, dappP]
    have e : (bytesOf [32]).data.toList = [32] := rfl
    rw [e]
    simp [Lib.joinTail]
theorem ln_join : ∀ (l : List DS) (t : ByteArray), (lnV 0 t l).data.toList = t.data.toList ++ Lib.join (l.map fun s => (wdV s).data.toList) [32]
  | [], t => by simp [lnV, Lib.join_nil]
  | s :: l, t => by
    rw [lnV, ln_tail, if_pos rfl, dappP, List.map_cons, Lib.join_cons, List.append_assoc]
theorem rk_text : ∀ (r : List (List DS)) (t : ByteArray), (rkV t r).data.toList = t.data.toList ++ Go.Proofs.rackT btV decN r
  | [], t => by simp [rkV, Go.Proofs.rackT]
  | l :: r, t => by
    rw [rkV, rk_text r, dappP, ln_join]
    have e : (bytesOf [10]).data.toList = [10] := rfl
    have e2 : Go.Proofs.rackT btV decN (l :: r) = Go.Proofs.laneT btV decN l ++ Go.Proofs.rackT btV decN r := rfl
    rw [e, e2]
    have e3 : Go.Proofs.laneT btV decN l = Lib.join (l.map fun s => (wdV s).data.toList) [32] ++ [10] := rfl
    rw [e3]
    simp
theorem rk_all (r : List (List DS)) : (⟨(Go.Proofs.rackT btV decN r).toArray⟩ : ByteArray) = rkV (bytesOf []) r := by
  refine ByteArray.ext (Array.ext' ?_)
  rw [rk_text]
  rfl
def PRt (r : List (List DS)) : Prop := wR r ∧ validR r = true
theorem validR_p {r : List (List DS)} (h : validR r = true) : r.length ≤ 8 ∧ ∀ l, l ∈ r → l.length ≤ 6 ∧ l.all validS = true := by
  unfold validR at h
  simp only [Bool.and_eq_true, decide_eq_true_eq, List.all_eq_true] at h
  refine ⟨h.1, fun l hl => ⟨(h.2 l hl).1, ?_⟩⟩
  rw [List.all_eq_true]
  exact (h.2 l hl).2
theorem spec_lane {α : Type} (r : List (List DS)) (i : Nat) (hi : i < r.length) (h6 : r[i].length ≤ 6) (hv : r[i].all validS = true) (t : ByteArray) (ht : t.size ≤ 1000) (K : ByteArray × Int → Option α) :
    iter (Fz32.B2 (cl PBt btV) (cl P4 decN) (i : Int) r K) BIG (t, 0) = K (lnV 0 t r[i], (r[i].length : Int)) := by
  have h1 : (bytesOf [32]).size = 1 := rfl
  have h2 : (bytesOf [64]).size = 1 := rfl
  refine (iter_list r[i] (fun j (c : ByteArray) => (c, (j : Int))) (fun q c => K (lnV (r[i].length - q.length) c q, (r[i].length : Int))) (fun j c => c.size ≤ 1000 + 15 * j) (c := t) rfl (big_lt (by omega)) (by omega) ?_ ?_).trans (by simp)
  · rintro j hj c rec hc hrec
    have e1 : r[i].length - (r[i].drop (j + 1)).length = j + 1 := by rw [List.length_drop]; omega
    have e2 : r[i].length - (r[i][j] :: r[i].drop (j + 1)).length = j := by rw [List.length_cons, List.length_drop]; omega
    have hs := List.all_eq_true.1 hv _ (List.getElem_mem hj)
    obtain ⟨p1, p2⟩ := validS_p hs
    have z1 := btV_size p1
    have z2 := decN_size p2
    have z3 := wdV_size hs
    have hw : IntKind.i64.wrap r[i][j].2 = r[i][j].2 := w64 (by have := p2.1; omega) (by have := p2.2; omega)
    have fin : rec ((if j = 0 then c else c ++ bytesOf [32]) ++ wdV r[i][j], ((j + 1 : Nat) : Int)) = K (lnV j c (r[i][j] :: r[i].drop (j + 1)), (r[i].length : Int)) := by
      refine (hrec _ ?_).trans ?_
      · rw [bsizeP]
        split
        · omega
        · rw [bsizeP]; omega
      · rw [e1]
        rfl
    rw [e2, ← fin]
    unfold Fz32.B2
    simp only [inB_nat hi, decT (show (j : Int) < (r[i].length : Int) by omega), cond_true, Int.toNat_natCast, getD_lt hi, inB_nat hj, getD_lt hj, cl_eq p1, Option.bind_some, hw, cl_eq p2, w64n (show j < 9223372036854775807 by omega)]
    have ez : (wdV r[i][j]) = (btV r[i][j].1 ++ bytesOf [64]) ++ decN r[i][j].2 := rfl
    rw [← ez]
    by_cases c0 : j = 0
    · subst c0
      rw [decF (show ¬ ((0 : Nat) : Int) > 0 by omega), cond_false, limP (by omega), cond_true, limP (by rw [bsizeP]; omega), cond_true, limP (by omega), cond_true, if_pos rfl]
    · rw [decT (show (j : Int) > 0 by omega), cond_true, limP (by omega), cond_true, limP (by omega), cond_true, limP (by rw [bsizeP]; omega), cond_true, limP (by rw [bsizeP]; omega), cond_true, if_neg c0]
  · rintro c rec _
    unfold Fz32.B2
    simp only [inB_nat hi, cond_true, Int.toNat_natCast, getD_lt hi]
    rw [decF (by omega)]
    simp [lnV]
theorem s_l04TextV : Fz32.S (cl PRt (rkV (bytesOf []))) := Fz32.of_cl s_l01BottleTextV s_DecN fun r h k => by
  obtain ⟨hw, hv⟩ := h
  obtain ⟨h8, hl⟩ := validR_p hv
  have h1 : (bytesOf [10]).size = 1 := rfl
  unfold Fz32.pf
  refine iter_list r (fun i (c : ByteArray) => (c, (i : Int))) (fun q c => k (rkV c q)) (fun i c => c.size ≤ 100 * i) (c := bytesOf []) rfl (big_lt (by omega)) (Nat.le_refl _) ?_ ?_
  · rintro i hi c rec hc hrec
    obtain ⟨h6, hvs⟩ := hl _ (List.getElem_mem hi)
    have hs := lnV_size r[i] 0 c hvs
    unfold Fz32.B1
    rw [decT (show (i : Int) < (r.length : Int) by omega), cond_true, spec_lane r i hi h6 hvs c (by omega)]
    simp only
    rw [limP (by omega), cond_true, w64n (show i < 9223372036854775807 by omega)]
    exact hrec _ (by rw [bsizeP]; omega)
  · rintro c rec _
    unfold Fz32.B1
    rw [decF (by simp)]
    rfl
def vRT (r : List (List DS)) : ByteArray := if validR r = true then rkV (bytesOf []) r else bytesOf []
theorem s_spec_RackText : Fz25.S (cl wR vRT) := Fz25.of_cl s_l04Ok s_l04TextV fun r h k => by
  unfold Fz25.pf vRT
  rw [cl_eq h, Option.bind_some]
  by_cases c : validR r = true
  · rw [c, if_pos rfl, Bool.not_true, cond_false, cl_eq (show PRt r from ⟨h, c⟩), Option.bind_some]
  · rw [if_neg c, Bool.eq_false_iff.2 c]
    rfl
/-- A call that answers a string. -/
theorem Sound.strN {P : Program} {W : World} {f : FuncId} {A : Type} {dec : List AV → Option A} {fn : A → Option ByteArray} {enc : List AV → ByteArray → Res} (S : Sound P f (mkSig [] dec fn enc)) (henc : ∀ avs r, enc avs r = ⟨[.val .str r], []⟩) {avs : List AV} {vs : List Value} (h : All2 (EntryOk W) avs vs) {x : A} (hd : dec avs = some x)
    {b : ByteArray} (hx : fn x = some b) (hgo : GO W []) : Calls P f vs.toArray W fun e W' => e = .returned (.string b) ∧ Go.RowKit.Below W.heap.size W W' := by
  obtain ⟨gh, hR⟩ := entry_R h hgo
  have := S.does avs ⟨[.val .str b], []⟩ (by simp only [mkSig, hd, hx]; rw [← henc avs b]; rfl) vs W gh [] hR
  refine this.mono (fun e w' he => ?_)
  cases e with
  | returned v =>
    obtain ⟨objs', g', xs', vs', Rc, hou, _, rfl⟩ := he
    have fr := Rc.frame
    refine ⟨?_, fr.os, fr.tape.1, fr.output, fr.size, fun k hk => fr.block k hk List.not_mem_nil⟩
    have hall : All2 (SRel objs' g') xs' vs' := by
      have t1 := Rc.tm
      simp only [List.size_toArray] at t1
      refine ⟨t1.symm, fun i x y hx hy => ?_⟩
      have hi := (List.getElem?_eq_some_iff.1 hx).1
      have := Rc.slots i hi
      rw [List.getD_eq_getElem?_getD, hx] at this
      rw [show vs'.toArray.getD i undef = y by
        have hi2 := (List.getElem?_eq_some_iff.1 hy).1
        have e := (List.getElem?_eq_some_iff.1 hy).2
        simp [hi2, e]] at this
      exact this
    have hrel := plain_rel xs' vs' [] _ [.val .str b] hall hou rfl [] g'
    · match vs', hrel with
      | [v'], hrel =>
        have := (hrel.2 0 _ _ rfl rfl).2.2
        show Ending.returned v' = _
        rw [this]
        rfl
      | [], hrel => have := hrel.1; simp at this
      | _ :: _ :: _, hrel => have := hrel.1; simp at this
  | panicked _ => exact he.elim
  | outgrown => exact he.elim
abbrev TyS2 : Ty := .st (.pair (.st (.pair (.int .u8) (.int .i16))) (.int .i16))
theorem row_rowT {w : World} {l : List DS} {locs : Nat → TyS2.loc} {A : Option Addr} (h : 0 < l.length → ∃ b o, A = some ⟨b, o, none⟩ ∧ b < w.heap.size ∧ w.rangeAt b o (rowCells TyS2 l locs)) : Go.Proofs.RowT w A l := fun h0 => by
  obtain ⟨b, o, e, hb, hr⟩ := h h0
  refine ⟨b, o, e, hb, fun i hi => ?_⟩
  have hc := (rangeAt_flatMap _ _ (fun i => cells_length TyS2 _ _) _).1 hr i hi
  have e1 : ∀ (j : Nat) (v : Value), (cells TyS2 (List.getD l i TyS2.dflt) (locs i))[j]? = some v → w.cell? ⟨b, o + i * 3 + j, none⟩ = some v := fun j v hv => hc j v hv
  have e2 : List.getD l i TyS2.dflt = l[i] := getD_lt hi
  rw [e2] at e1
  exact ⟨e1 0 _ rfl, e1 1 _ rfl, e1 2 _ rfl⟩
theorem elems_rackT {w : World} {e : TypeId} {r : List (List DS)} {locs : Nat → (Ty.row e TyS2).loc} {A : Option Addr} (h : Elems w false (.row e TyS2) r locs A) : Go.Proofs.RackT w A r := fun h0 => by
  obtain ⟨b, o, e0, hb, hr⟩ := h.at_ h0
  refine ⟨b, o, e0, hb, fun i hi => ?_⟩
  have hc := (rangeAt_flatMap _ _ (fun i => cells_length (Ty.row e TyS2) _ _) _).1 hr i hi
  have e2 : List.getD r i (Ty.row e TyS2).dflt = r[i] := getD_lt hi
  have e1 : ∀ (j : Nat) (v : Value), (cells (Ty.row e TyS2) (List.getD r i (Ty.row e TyS2).dflt) (locs i))[j]? = some v → w.cell? ⟨b, o + i * 1 + j, none⟩ = some v := fun j v hv => hc j v hv
  rw [e2] at e1
  have hm := h.mem i hi
  rw [e2] at hm
  refine ⟨(locs i).1.A, (locs i).1.cap, ?_, ?_⟩
  · have := e1 0 _ rfl
    rw [Nat.mul_one, Nat.add_zero] at this
    exact this
  · rcases hm with q | ⟨q, _⟩
    · cases q
    · exact row_rowT q.at_
theorem elems_entryR {w : World} {e1 e2 : TypeId} {r : List (List DS)} {locs : Nat → (Ty.row e2 TyS2).loc} {A : Option Addr} {c : Nat} (hc : r.length ≤ c) (h : Elems w false (.row e2 TyS2) r locs A) : EntryOk w (.obj false ⟨e1, .row e2 TyS2, r⟩) (.slice A r.length c) :=
  ⟨A, c, locs, rfl, .inr ⟨⟨hc, fun h0 => h.at_ h0, fun q => by cases q⟩, fun i hi => h.mem i hi⟩⟩
theorem s_impl_RackText : Fz1.S (cl wR vRT) where
  fn := ⟨Tryd.f8, by kernel_rfl, by decide, by decide⟩
  does := fun avs r hr vs w gh MBb hR => by
    obtain ⟨x, y, h1, h2, rfl⟩ := mkSig_run hr
    obtain ⟨e0, rfl⟩ := Fz1.dec_eq h1
    obtain ⟨hp, rfl⟩ := cl_some h2
    have hR : R 1 w ⟨MBb, _⟩ ⟨[.sl 0 [] none], [some (.dat ⟨e0, .row 48 TyS2, x, false, false, none⟩)]⟩ gh ⟨vs.toArray, []⟩ w := hR
    have hsz : vs.length = 1 := by simpa using hR.tm
    match vs, hsz with
    | [v0], _ =>
      have a0 : SlRel [some (.dat ⟨e0, .row 48 TyS2, x, false, false, none⟩)] gh 0 [] none v0 := hR.slots 0 (by omega)
      obtain ⟨d1, A1, c1, loc1, q1, rfl, u1, E1⟩ := sl_elems hR a0 (u := .row 48 TyS2) (l := x) rfl
      obtain rfl : _ = d1 := Option.some.inj q1
      have hV := Sound.law s_impl_ValidRack (fun _ _ => rfl) (avs := [.obj false ⟨e0, .row 48 TyS2, x⟩]) (vs := [.slice A1 x.length c1]) (All2.cons_iff.2 ⟨elems_entryR u1 E1, All2.nil _⟩) (x := x) rfl (cl_eq hp) (go_below hR.go (Go.RowKit.Below.refl _ w))
      have hcall : Calls Tryd.prog 8 #[.slice A1 x.length c1] w fun e w' => Go.RowKit.Below w.heap.size w w' ∧ e = .returned (.string (vRT x)) := by
        unfold vRT
        by_cases c : validR x = true
        · obtain ⟨h8, hl⟩ := validR_p c
          rw [c] at hV
          rw [if_pos c, ← rk_all]
          refine Go.Proofs.Tryd.rt_true A1 c1 x w btV decN (elems_rackT E1) h8 (fun l h => (hl l h).1) (fun l h s hs => ?_) hV (fun l h s hs w' hb => ?_) (fun l h s hs w' hb => ?_) (fun l h s hs => (hp.2 l h s hs).2)
          · exact Nat.le_trans (wdV_size (List.all_eq_true.1 (hl l h).2 s hs)) (by omega)
          · exact Sound.strN s_BottleTextV (fun _ _ => rfl) (avs := [.val (.st (.pair (.int .u8) (.int .i16))) s.1]) (vs := [Go.Proofs.aggT s.1]) (All2.cons_iff.2 ⟨⟨rfl, ⟨trivial, trivial⟩, rfl⟩, All2.nil _⟩) (x := s.1) rfl (cl_eq (validS_p (List.all_eq_true.1 (hl l h).2 s hs)).1) (go_below hR.go hb)
          · have p2 := (validS_p (List.all_eq_true.1 (hl l h).2 s hs)).2
            exact Sound.strN s_decimalN (fun _ _ => rfl) (avs := [.val (.int .i64) s.2]) (vs := [.int .i64 s.2]) (All2.cons_iff.2 ⟨⟨rfl, trivial, rfl⟩, All2.nil _⟩) (x := s.2) rfl (cl_eq (show P64 s.2 from by have := p2.1; have := p2.2; unfold P64; omega)) (go_below hR.go hb)
        · rw [Bool.eq_false_iff.2 c] at hV
          rw [if_neg c]
          exact Go.Proofs.Tryd.rt_false A1 c1 x.length w hV
      refine hcall.mono fun e w' ⟨hb, he⟩ => ?_
      subst he
      exact ⟨_, gh, [.val .str (vRT x)], [.string (vRT x)], hR.ret hb (fun h => h.elim) _ _ (All2.cons_iff.2 ⟨⟨rfl, trivial, rfl⟩, All2.nil _⟩), rfl, rfl, rfl⟩
theorem s_law_RackText : laws_FnExactRackText.S (cl gR fun _ => true) := laws_FnExactRackText.of_cl s_szRack s_toRack s_spec_RackText s_impl_RackText s_eqRack fun x h k => by
  unfold laws_FnExactRackText.pf
  rw [cl_eq h.sz, Option.bind_some]
  by_cases c : vszR (x, 1048576) < 0
  · rw [decT c]; rfl
  · have w := h.w c
    rw [decF c, cond_false]
    simp only [cl_eq w.1, Option.bind_some, cl_eq w, cl_eq (show Bd1 (x, x) from w.1)]
    simp
end Go.Proofs.YteaodjahafgbcaaDoor.G
