/- Plain proofs: what the functions answer, in plain lists and numbers. -/
import Derived.Test.YtneefjegejlfeaaRd0
import Derived.Test.YtneefjegejlfeaaRd1
namespace Go.Proofs.Ytneefjegejlfeaa.G
open Go
set_option linter.unusedVariables false
set_option linter.unusedSimpArgs false
set_option maxRecDepth 10000
abbrev DB := Int × Int
abbrev DS := DB × Int
abbrev dS : DS := ((0, 0), 0)
theorem s_toBottle : Fz14.S (tot fun x => x) := Fz14.of_tot fun x k => rfl
theorem s_toStored : Fz16.S (tot fun x => x) := Fz16.of_tot s_toBottle fun x k => rfl
/-- A copy, element by element. -/
theorem copied {β : Type} {l o : List β} {k : Nat} {d : β} (h : k < l.length) (ho : o.length = l.length) (hp : o.take k = l.take k) : (o.set k l[k]).take (k + 1) = l.take (k + 1) ∧ (o.set k l[k]).length = l.length := by
  refine ⟨?_, by simpa using ho⟩
  rw [List.take_succ_eq_append_getElem (by simpa [ho] using h), List.take_succ_eq_append_getElem h, List.take_set_of_le (Nat.le_refl k), hp]
  simp
theorem toStoredS_pf {α : Type} (l : List DS) (h : l.length ≤ 1073741824) (k : List DS → Option α) : Fz17.pf (tot fun x => x) BIG l k = k l := by
  unfold Fz17.pf
  rw [inW_true (by omega) (by omega) (by unfold LIM; omega)]
  simp only [cond_true]
  refine (iter_list (B := Fz17.B1 (tot fun x => x) l fun x1 => k x1.2) l (fun i (c : List DS) => ((i : Int), c)) (fun _ _ => k l) (fun i c => c.length = l.length ∧ c.take i = l.take i) (c := List.replicate l.length dS) (by simp) (big_lt (by omega)) (by simp) ?_ ?_)
  · rintro i hi c rec ⟨h1, h2⟩ hrec
    unfold Fz17.B1
    simp only [decT (show (i : Int) < (l.length : Int) by omega), inB_nat hi, inB_nat (h1 ▸ hi : i < c.length), cond_true, Int.toNat_natCast, getD_lt hi, tot_eq, Option.bind_some, w64n (show i < 9223372036854775807 by omega)]
    have := copied (d := dS) hi h1 h2
    exact hrec _ ⟨this.2, this.1⟩
  · rintro c rec ⟨h1, h2⟩
    unfold Fz17.B1
    rw [decF (by omega)]
    rw [List.take_of_length_le (by omega), List.take_of_length_le (Nat.le_refl _)] at h2
    simp only [cond_false, h2]
theorem s_toStoredS : Fz17.S (cl PL fun l => l) := Fz17.of_cl s_toStored fun x h => toStoredS_pf x h
theorem toRack_pf {α : Type} (l : List (List DS)) (h : Bd l) (k : List (List DS) → Option α) : Fz15.pf (cl PL fun l => l) BIG l k = k l := by
  have hl := h.len
  unfold Fz15.pf
  rw [inW_true (by omega) (by omega) (by unfold LIM; omega)]
  simp only [cond_true]
  refine (iter_list (B := Fz15.B1 (cl PL fun l => l) l fun x1 => k x1.2) l (fun i (c : List (List DS)) => ((i : Int), c)) (fun _ _ => k l) (fun i c => c.length = l.length ∧ c.take i = l.take i) (c := List.replicate l.length []) (by simp) (big_lt (by omega)) (by simp) ?_ ?_)
  · rintro i hi c rec ⟨h1, h2⟩ hrec
    unfold Fz15.B1
    simp only [decT (show (i : Int) < (l.length : Int) by omega), inB_nat hi, inB_nat (h1 ▸ hi : i < c.length), cond_true, Int.toNat_natCast, getD_lt hi, cl_eq (h.pl hi), Option.bind_some, w64n (show i < 9223372036854775807 by omega)]
    have := copied (d := ([] : List DS)) hi h1 h2
    exact hrec _ ⟨this.2, this.1⟩
  · rintro c rec ⟨h1, h2⟩
    unfold Fz15.B1
    rw [decF (by omega)]
    rw [List.take_of_length_le (by omega), List.take_of_length_le (Nat.le_refl _)] at h2
    simp only [cond_false, h2]
theorem s_toRack : Fz15.S (cl Bd fun l => l) :=
  Fz15.of_cl s_toStoredS fun x h => toRack_pf x h
def Psz (x : List DS × Int) : Prop := x.1.length ≤ maxLen ∧ 0 ≤ x.2 ∧ x.2 ≤ 1048576
def vsz (x : List DS × Int) : Int := if x.2 < x.1.length then -1 else x.2 - x.1.length
theorem s_szStoredS : Fz13.S (cl Psz vsz) :=
  Fz13.of_cl fun x ⟨h1, h2, h3⟩ k => by
    unfold maxLen at h1
    unfold Fz13.pf vsz
    rw [w64 (by omega) (by omega)]
    by_cases c : x.2 < x.1.length
    · rw [decT (by omega), if_pos c]; rfl
    · rw [decF (by omega), if_neg c]; rfl
/-- What is left over. -/
def szL (n : Int) : List (List DS) → Int
  | [] => n
  | x :: l => if n < x.length then -1 else szL (n - x.length) l
theorem szRack_pf {α : Type} (l : List (List DS)) (n : Int) (h : l.length ≤ maxLen) (hr : ∀ x, x ∈ l → x.length ≤ maxLen) (h0 : 0 ≤ n) (h1 : n ≤ 1048576) (k : Int → Option α) :
    Fz12.pf (cl Psz vsz) BIG l n k = k (if n < l.length then -1 else szL (n - l.length) l) := by
  have hl := h
  unfold maxLen at hl
  unfold Fz12.pf
  rw [w64 (by omega) (by omega)]
  by_cases c : n < l.length
  · rw [decT (by omega), if_pos c]; rfl
  · rw [decF (by omega), if_neg c, cond_false]
    refine iter_list l (fun i (c : Int) => (c, (i : Int))) (fun r c => k (szL c r)) (fun i c => 0 ≤ c ∧ c ≤ 1048576) (c := n - l.length) rfl (big_lt (by omega)) (by omega) ?_ ?_
    · rintro i hi c rec ⟨h2, h3⟩ hrec
      unfold Fz12.B1
      simp only [decT (show (i : Int) < (l.length : Int) by omega), inB_nat hi, cond_true, Int.toNat_natCast, getD_lt hi, cl_eq (show Psz (l[i], c) from ⟨hr _ (List.getElem_mem hi), h2, h3⟩), vsz, Option.bind_some, w64n (show i < 9223372036854775807 by omega), szL]
      by_cases q : c < (l[i].length : Int)
      · simp only [if_pos q]; rfl
      · simp only [if_neg q, decF (show ¬ (c - (l[i].length : Int) < 0) by omega), cond_false]
        exact hrec _ (by omega)
    · rintro c rec _
      unfold Fz12.B1
      rw [decF (by omega)]
      rfl
def PszR (x : List (List DS) × Int) : Prop := x.1.length ≤ maxLen ∧ (∀ r, r ∈ x.1 → r.length ≤ maxLen) ∧ 0 ≤ x.2 ∧ x.2 ≤ 1048576
def vszR (x : List (List DS) × Int) : Int := if x.2 < x.1.length then -1 else szL (x.2 - x.1.length) x.1
theorem s_szRack : Fz12.S (cl PszR vszR) := Fz12.of_cl s_szStoredS fun x ⟨h1, h2, h3, h4⟩ => szRack_pf x.1 x.2 h1 h2 h3 h4
theorem szL_nn : ∀ (l : List (List DS)) (n : Int), 0 ≤ n → 0 ≤ szL n l → szL n l = n - ((l.map List.length).sum : Nat)
  | [], n, _, _ => by simp [szL]
  | x :: l, n, h, h1 => by
    unfold szL at h1 ⊢
    by_cases c : n < x.length
    · rw [if_pos c] at h1; omega
    · rw [if_neg c] at h1 ⊢
      rw [szL_nn l _ (by omega) h1]
      simp
      omega
/-- What went through is small. -/
theorem sz_bd {l : List (List DS)} {n : Int} (h0 : 0 ≤ n) (h1 : n ≤ 1048576) (h : ¬ vszR (l, n) < 0) : Bd l ∧ 0 ≤ vszR (l, n) ∧ vszR (l, n) ≤ 1048576 := by
  unfold vszR at h ⊢
  simp only at h ⊢
  by_cases c : n < l.length
  · rw [if_pos c] at h; omega
  · rw [if_neg c] at h ⊢
    have := szL_nn l (n - l.length) (by omega) (by omega)
    unfold Bd
    omega
theorem s_eqBottle : Fz8.S (tot fun x => decide (x.1 = x.2)) := Fz8.of_tot fun x k => by
  obtain ⟨⟨a1, a2⟩, b1, b2⟩ := x
  unfold Fz8.pf
  by_cases h1 : a1 = b1
  · by_cases h2 : a2 = b2
    · simp [h1, h2]
    · simp [h1, h2, bneT h2]
  · simp [h1, bneT h1]
theorem s_eqStored : Fz10.S (tot fun x => decide (x.1 = x.2)) := Fz10.of_tot s_eqBottle fun x k => by
  obtain ⟨⟨a1, a2⟩, b1, b2⟩ := x
  unfold Fz10.pf
  by_cases h1 : a1 = b1
  · by_cases h2 : a2 = b2
    · simp [h1, h2, tot]
    · simp [h1, h2, tot, bneT h2]
  · simp [h1, tot]
/-- Lists of one length are alike where no pair of elements differs. -/
theorem any_eq {β : Type} [DecidableEq β] : ∀ (a b : List β), a.length = b.length → (a.zip b).any (fun p => !decide (p.1 = p.2)) = !decide (a = b)
  | [], [], _ => by simp
  | [], _ :: _, h => by simp at h
  | _ :: _, [], h => by simp at h
  | x :: a, y :: b, h => by
    rw [List.zip_cons_cons, List.any_cons, any_eq a b (by simpa using h)]
    by_cases c : x = y <;> by_cases c2 : a = b <;> simp [c, c2]
theorem zip_at {β γ : Type} {a : List β} {b : List γ} {k : Nat} (h : k < (a.zip b).length) : (a.zip b)[k] = (a[k]'(by simp at h; omega), b[k]'(by simp at h; omega)) := by simp
theorem eqStoredS_pf {α : Type} (a b : List DS) (h : a.length ≤ 1073741824) (k : Bool → Option α) : Fz11.pf (tot fun x => decide (x.1 = x.2)) BIG a b k = k (decide (a = b)) := by
  unfold Fz11.pf
  by_cases c : a.length = b.length
  · rw [show (((a.length : Nat) : Int) != ((b.length : Nat) : Int)) = false by simp [c], cond_false]
    have hz : (a.zip b).length = a.length := by simp [c]
    rw [iter_first (a.zip b) (fun i => (i : Int)) (fun p => !decide (p.1 = p.2)) (fun _ _ => k false) (k true) (x := 0) rfl (big_lt (by omega)) ?_ ?_, firstOr_const, any_eq a b c]
    · by_cases e : a = b <;> simp [e]
    · intro i hi rec
      have h1 : i < a.length := by omega
      have h2 : i < b.length := by omega
      unfold Fz11.B1
      rw [zip_at hi]
      simp only [decT (show (i : Int) < (a.length : Int) by omega), inB_nat h1, inB_nat h2, cond_true, Int.toNat_natCast, getD_lt h1, getD_lt h2, tot_eq, Option.bind_some, w64n (show i < 9223372036854775807 by omega)]
    · intro rec
      unfold Fz11.B1
      rw [decF (by omega)]
      rfl
  · rw [show (((a.length : Nat) : Int) != ((b.length : Nat) : Int)) = true by simpa using fun q => c (by omega), cond_true]
    rw [decF (fun e => c (by rw [e]))]
theorem s_eqStoredS : Fz11.S (cl PL1 fun x => decide (x.1 = x.2)) := Fz11.of_cl s_eqStored fun x h => eqStoredS_pf x.1 x.2 h
theorem eqRack_pf {α : Type} (a b : List (List DS)) (h : Bd a) (k : Bool → Option α) : Fz9.pf (cl PL1 fun x => decide (x.1 = x.2)) BIG a b k = k (decide (a = b)) := by
  have hl := h.len
  unfold Fz9.pf
  by_cases c : a.length = b.length
  · rw [show (((a.length : Nat) : Int) != ((b.length : Nat) : Int)) = false by simp [c], cond_false]
    have hz : (a.zip b).length = a.length := by simp [c]
    rw [iter_first (a.zip b) (fun i => (i : Int)) (fun p => !decide (p.1 = p.2)) (fun _ _ => k false) (k true) (x := 0) rfl (big_lt (by omega)) ?_ ?_, firstOr_const, any_eq a b c]
    · by_cases e : a = b <;> simp [e]
    · intro i hi rec
      have h1 : i < a.length := by omega
      have h2 : i < b.length := by omega
      unfold Fz9.B1
      rw [zip_at hi]
      simp only [decT (show (i : Int) < (a.length : Int) by omega), inB_nat h1, inB_nat h2, cond_true, Int.toNat_natCast, getD_lt h1, getD_lt h2, cl_eq (show PL1 (a[i], b[i]) from h.at h1), Option.bind_some, w64n (show i < 9223372036854775807 by omega)]
    · intro rec
      unfold Fz9.B1
      rw [decF (by omega)]
      rfl
  · rw [show (((a.length : Nat) : Int) != ((b.length : Nat) : Int)) = true by simpa using fun q => c (by omega), cond_true]
    rw [decF (fun e => c (by rw [e]))]
theorem s_eqRack : Fz9.S (cl Bd1 fun x => decide (x.1 = x.2)) := Fz9.of_cl s_eqStoredS fun x h => eqRack_pf x.1 x.2 h
def validB (b : DB) : Bool := decide (1 ≤ b.1) && decide (b.1 ≤ 20) && (decide (1900 ≤ b.2) && decide (b.2 ≤ 2099))
def validS (s : DS) : Bool := validB s.1 && (decide (0 ≤ s.2) && decide (s.2 ≤ 2000))
def validR (r : List (List DS)) : Bool := decide (r.length ≤ 8) && r.all fun l => decide (l.length ≤ 6) && l.all validS
/-- Whole numbers of their kinds. -/
def wB (b : DB) : Prop := 0 ≤ b.1 ∧ b.1 ≤ 255 ∧ -32768 ≤ b.2 ∧ b.2 ≤ 32767
def wS (s : DS) : Prop := wB s.1 ∧ -32768 ≤ s.2 ∧ s.2 ≤ 32767
def wL (l : List DS) : Prop := PL l ∧ ∀ s, s ∈ l → wS s
def wR (r : List (List DS)) : Prop := Bd r ∧ ∀ l, l ∈ r → ∀ s, s ∈ l → wS s
theorem wR.at {r : List (List DS)} (h : wR r) {k : Nat} (hk : k < r.length) : wL r[k] := ⟨h.1.pl hk, h.2 _ (List.getElem_mem hk)⟩
theorem wL.at {l : List DS} (h : wL l) {k : Nat} (hk : k < l.length) : wS l[k] := h.2 _ (List.getElem_mem hk)
theorem s_l00In : spec_l00In.S (tot fun x => decide (x.2.1 ≤ x.1) && decide (x.1 ≤ x.2.2)) := spec_l00In.of_tot fun x k => by
  unfold spec_l00In.pf
  by_cases c : x.2.1 ≤ x.1
  · rw [decT (show x.1 ≥ x.2.1 from c)]; rfl
  · rw [decF (show ¬ x.1 ≥ x.2.1 from c)]; rfl
theorem s_within : Fz6.S (tot fun x => decide (x.2.1 ≤ x.1) && decide (x.1 ≤ x.2.2)) := Fz6.of_tot fun x k => by
  unfold Fz6.pf
  by_cases c : x.2.1 ≤ x.1
  · rw [decT c]; rfl
  · rw [decF c]; rfl
theorem s_l01Bottle : Fz26.S (cl wB validB) := Fz26.of_cl s_l00In fun x ⟨h1, h2, h3, h4⟩ k => by
  unfold Fz26.pf validB
  simp only [tot_eq, Option.bind_some, w64 (n := x.1) (by omega) (by omega), w64 (n := x.2) (by omega) (by omega)]
  cases decide (1 ≤ x.1) && decide (x.1 ≤ 20) <;> rfl
theorem s_ValidBottle : Fz1.S (cl wB validB) := Fz1.of_cl s_within fun x ⟨h1, h2, h3, h4⟩ k => by
  unfold Fz1.pf validB
  simp only [tot_eq, Option.bind_some, w64 (n := x.1) (by omega) (by omega), w64 (n := x.2) (by omega) (by omega)]
  cases decide (1 ≤ x.1) && decide (x.1 ≤ 20) <;> rfl
theorem s_l04Stored : Fz29.S (cl wS validS) := Fz29.of_cl s_l01Bottle s_l00In fun x ⟨h1, h2, h3⟩ k => by
  unfold Fz29.pf validS
  rw [cl_eq h1, w64 (n := x.2) (by omega) (by omega)]
  simp only [tot_eq, Option.bind_some]
  cases validB x.1 <;> rfl
theorem s_validStored : Fz5.S (cl wS validS) := Fz5.of_cl s_ValidBottle s_within fun x ⟨h1, h2, h3⟩ k => by
  unfold Fz5.pf validS
  rw [cl_eq h1, w64 (n := x.2) (by omega) (by omega)]
  simp only [tot_eq, Option.bind_some]
  cases validB x.1 <;> rfl
theorem any_not {β : Type} (l : List β) (p : β → Bool) : (l.any fun x => !p x) = !l.all p := by
  induction l with
  | nil => rfl
  | cons x l ih => rw [List.any_cons, List.all_cons, ih, Bool.not_and]
theorem s_l04All : Fz27.S (cl wL fun l => l.all validS) := Fz27.of_cl s_l04Stored fun x h k => by
  have hl : x.length ≤ 1073741824 := h.1
  unfold Fz27.pf
  rw [iter_first x (fun i => (i : Int)) (fun s => !validS s) (fun _ _ => k false) (k true) (x := 0) rfl (big_lt (by omega)) ?_ ?_, firstOr_const, any_not]
  · cases x.all validS <;> rfl
  · intro i hi rec
    unfold Fz27.B1
    simp only [decT (show (i : Int) < (x.length : Int) by omega), inB_nat hi, cond_true, Int.toNat_natCast, getD_lt hi, cl_eq (h.at hi), Option.bind_some, w64n (show i < 9223372036854775807 by omega)]
  · intro rec
    unfold Fz27.B1
    rw [decF (by omega)]
    rfl
theorem s_l04Ok : spec_l04Ok.S (cl wR validR) := spec_l04Ok.of_cl s_l04All fun x h k => by
  have hl := h.1.len
  unfold spec_l04Ok.pf
  rw [iter_first x (fun i => (i : Int)) (fun l => !(decide (l.length ≤ 6) && l.all validS)) (fun _ _ => k false) (k (decide (x.length ≤ 8))) (x := 0) rfl (big_lt (by omega)) ?_ ?_, firstOr_const, any_not]
  · unfold validR
    cases x.all fun l => decide (l.length ≤ 6) && l.all validS
    · rw [Bool.and_false]; rfl
    · rw [Bool.and_true]; rfl
  · intro i hi rec
    have := h.1.at hi
    unfold spec_l04Ok.B1
    simp only [decT (show (i : Int) < (x.length : Int) by omega), inB_nat hi, cond_true, Int.toNat_natCast, getD_lt hi, cl_eq (h.at hi), Option.bind_some, w64n (show i < 9223372036854775807 by omega)]
    by_cases c : x[i].length ≤ 6
    · rw [decF (show ¬ ((x[i].length : Int) > 6) by omega), decT c]; rfl
    · rw [decT (show ((x[i].length : Int) > 6) by omega), decF c]; rfl
  · intro rec
    unfold spec_l04Ok.B1
    rw [decF (by omega)]
    simp only [cond_false]
    congr 1
    by_cases c : x.length ≤ 8
    · rw [decT c, decT (by omega)]
    · rw [decF c, decF (by omega)]
theorem s_ValidRack_1_1 : Fz4.S (cl wS fun s => !validS s) := Fz4.of_cl s_validStored fun x h k => by
  unfold Fz4.pf
  rw [cl_eq h]; rfl
/-- Where the first one is. -/
def indexI {β : Type} (p : β → Bool) (l : List β) : Int := match l.findIdx? p with
  | some i => i
  | none => -1
theorem firstOr_index {α β : Type} (p : β → Bool) (k : Int → Option α) : ∀ (l : List β) (j : Nat), firstOr p (fun i _ => k (i : Int)) (k (-1)) j l = k (match l.findIdx? p with | some i => ((j + i : Nat) : Int) | none => -1)
  | [], _ => rfl
  | x :: l, j => by
    rw [firstOr, List.findIdx?_cons]
    cases p x with
    | true => simp
    | false =>
      rw [cond_false, firstOr_index p k l]
      cases l.findIdx? p with
      | none => rfl
      | some i => simp [Nat.add_assoc, Nat.add_comm 1 i]
theorem indexI_nn {β : Type} (p : β → Bool) (l : List β) : decide (indexI p l ≥ 0) = l.any p := by
  unfold indexI
  cases h : l.findIdx? p with
  | none =>
    have := List.findIdx?_eq_none_iff.1 h
    simp only
    rw [decF (by omega)]
    symm
    rw [List.any_eq_false]
    intro x hx
    simpa using this x hx
  | some i =>
    simp only
    rw [decT (by omega)]
    symm
    obtain ⟨hi, hp, _⟩ := List.findIdx?_eq_some_iff_getElem.1 h
    exact List.any_eq_true.2 ⟨_, List.getElem_mem hi, hp⟩
theorem s_index_1_1 : Fz23.S (cl wL fun l => indexI (fun s => !validS s) l) :=
  Fz23.of_cl s_ValidRack_1_1 fun x h k => by
  have hl : x.length ≤ 1073741824 := h.1
  unfold Fz23.pf
  rw [iter_first x (fun i => (i : Int)) (fun s => !validS s) (fun i _ => k (i : Int)) (k (-1)) (x := 0) rfl (big_lt (by omega)) ?_ ?_, firstOr_index]
  · unfold indexI
    congr 1
    cases x.findIdx? fun s => !validS s <;> simp
  · intro i hi rec
    unfold Fz23.B1
    simp only [decT (show (i : Int) < (x.length : Int) by omega), inB_nat hi, cond_true, Int.toNat_natCast, getD_lt hi, cl_eq (h.at hi), Option.bind_some, w64n (show i < 9223372036854775807 by omega)]
  · intro rec
    unfold Fz23.B1
    rw [decF (by omega)]
    rfl
theorem s_contains_1_1 : Fz20.S (cl wL fun l => !l.all validS) :=
  Fz20.of_cl s_index_1_1 fun x h k => by
  unfold Fz20.pf
  rw [cl_eq h, Option.bind_some, indexI_nn, any_not]
theorem s_ValidRack_1 : Fz3.S (cl wL fun l => !(decide (l.length ≤ 6) && l.all validS)) := Fz3.of_cl s_contains_1_1 fun x h k => by
  unfold Fz3.pf
  have hl : x.length ≤ 1073741824 := h.1
  by_cases c : x.length ≤ 6
  · rw [decF (show ¬ ((x.length : Int) > 6) by omega), decT c, cl_eq h]; rfl
  · rw [decT (show ((x.length : Int) > 6) by omega), decF c]; rfl
theorem s_index_1 : Fz22.S (cl wR fun r => indexI (fun l => !(decide (l.length ≤ 6) && l.all validS)) r) :=
  Fz22.of_cl s_ValidRack_1 fun x h k => by
  have hl := h.1.len
  unfold Fz22.pf
  rw [iter_first x (fun i => (i : Int)) (fun l => !(decide (l.length ≤ 6) && l.all validS)) (fun i _ => k (i : Int)) (k (-1)) (x := 0) rfl (big_lt (by omega)) ?_ ?_, firstOr_index]
  · unfold indexI
    congr 1
    cases x.findIdx? fun l => !(decide (l.length ≤ 6) && l.all validS) <;> simp
  · intro i hi rec
    unfold Fz22.B1
    simp only [decT (show (i : Int) < (x.length : Int) by omega), inB_nat hi, cond_true, Int.toNat_natCast, getD_lt hi, cl_eq (h.at hi), Option.bind_some, w64n (show i < 9223372036854775807 by omega)]
  · intro rec
    unfold Fz22.B1
    rw [decF (by omega)]
    rfl
theorem s_contains_1 : Fz19.S (cl wR fun r => !r.all fun l => decide (l.length ≤ 6) && l.all validS) :=
  Fz19.of_cl s_index_1 fun x h k => by
  unfold Fz19.pf
  rw [cl_eq h, Option.bind_some, indexI_nn, any_not]
theorem s_impl_ValidRack : Fz2.S (cl wR validR) := Fz2.of_cl s_contains_1 fun x h k => by
  unfold Fz2.pf validR
  have hl := h.1.len
  by_cases c : x.length ≤ 8
  · rw [decT (show ((x.length : Int) ≤ 8) by omega), decT c, cl_eq h]; simp
  · rw [decF (show ¬ ((x.length : Int) ≤ 8) by omega), decF c]; rfl
theorem good_B {b : DB} (h : goodV (.st (.pair (.int .u8) (.int .i16))) b) : wB b := by
  obtain ⟨h1, h2⟩ := h
  simp only [goodV, Lit.wf, IntKind.min, IntKind.max, IntKind.bits, IntKind.signed] at h1 h2
  simp at h1 h2
  unfold wB
  omega
theorem good_S {s : DS} (h : goodV (.st (.pair (.st (.pair (.int .u8) (.int .i16))) (.int .i16))) s) : wS s := by
  obtain ⟨h1, h2⟩ := h
  refine ⟨good_B h1, ?_⟩
  simp only [goodV, Lit.wf, IntKind.min, IntKind.max, IntKind.bits, IntKind.signed] at h2
  simp at h2
  omega
/-- What comes in. -/
def gR (r : List (List DS)) : Prop := r.length ≤ maxLen ∧ (∀ l, l ∈ r → l.length ≤ maxLen) ∧ ∀ l, l ∈ r → ∀ s, s ∈ l → wS s
theorem good_rack {e e' : TypeId} {r : List (List DS)} (h : goodV (.row e (.row e' (.st (.pair (.st (.pair (.int .u8) (.int .i16))) (.int .i16))))) r) : gR r := by
  obtain ⟨h1, h2⟩ := h
  have h3 : ∀ l, l ∈ r → goodV (.row e' (.st (.pair (.st (.pair (.int .u8) (.int .i16))) (.int .i16)))) l := fun l hl => by
    obtain ⟨i, hi, rfl⟩ := List.mem_iff_getElem.1 hl
    have := h2 i hi
    rwa [getD_lt hi] at this
  refine ⟨h1, fun l hl => (h3 l hl).1, fun l hl s hs => ?_⟩
  obtain ⟨i, hi, rfl⟩ := List.mem_iff_getElem.1 hs
  have := (h3 l hl).2 i hi
  rw [getD_lt hi] at this
  exact good_S this
theorem gR.sz {r : List (List DS)} (h : gR r) : PszR (r, 1048576) := ⟨h.1, h.2.1, by simp, by simp⟩
theorem gR.w {r : List (List DS)} (h : gR r) (c : ¬ vszR (r, 1048576) < 0) : wR r := ⟨(sz_bd (by omega) (by omega) c).1, h.2.2⟩
theorem bneS (a : Int) : (a != a) = false := by simp
theorem okS {n : Nat} (h : n ≤ 4294967296) : okL n = true := okL_true h

def sumL (r : List (List DS)) : Nat := (r.map List.length).sum
theorem sumL_le {r : List (List DS)} (h : Bd r) : sumL r ≤ 1073741824 := by unfold Bd at h; unfold sumL; omega
theorem sumL_take {r : List (List DS)} (h : Bd r) (p : Nat) : sumL (r.take p) ≤ sumL r := by
  unfold sumL
  conv => rhs; rw [← List.take_append_drop p r, List.map_append, List.sum_append]
  omega
theorem sumL_succ {r : List (List DS)} {p : Nat} (h : p < r.length) : sumL (r.take (p + 1)) = sumL (r.take p) + r[p].length := by
  unfold sumL
  rw [List.take_succ_eq_append_getElem h, List.map_append, List.sum_append]
  simp
theorem s_l04Sum : Fz30.S (cl Bd fun r => (sumL r : Int)) := Fz30.of_cl fun r h k => by
  have hl := h.len
  have hs := sumL_le h
  unfold Fz30.pf
  refine iter_list r (fun p (n : Int) => (n, (p : Int))) (fun q n => k (sumL r : Int)) (fun p n => n = sumL (r.take p)) (c := 0) rfl (big_lt (by omega)) rfl ?_ ?_
  · rintro p hp n rec rfl hrec
    have h1 := sumL_take h (p + 1)
    have h2 := sumL_succ hp
    unfold Fz30.B1
    simp only [decT (show (p : Int) < (r.length : Int) by omega), inB_nat hp, cond_true, Int.toNat_natCast, getD_lt hp, w64n (show p < 9223372036854775807 by omega)]
    rw [w64 (by omega) (by omega)]
    exact hrec _ (by omega)
  · rintro n rec rfl
    unfold Fz30.B1
    rw [decF (by simp), List.take_of_length_le (Nat.le_refl _)]
    rfl
def PGrow (n : Int) : Prop := 0 ≤ n ∧ n ≤ 1073741824
theorem grow_pf {α : Type} (n : Int) (h0 : 0 ≤ n) (h1 : n ≤ 1073741824) (k : List DS → Option α) : Fz21.pf BIG n k = k [] := by
  unfold Fz21.pf
  have e0 : IntKind.i64.wrap (0 - 0) = 0 := by rw [w64 (by omega) (by omega)]; rfl
  have e : IntKind.i64.wrap (n - 0) = n := by rw [w64 (by omega) (by omega)]; omega
  rw [decF (by omega), e0, e]
  simp only [cond_false]
  by_cases c : n > 0
  · rw [decT c, decT (show n ≤ (LIM : Int) by unfold LIM; omega), inW_true (by omega) (by omega) (by omega)]
    simp
  · rw [decF c]; rfl
theorem s_grow : Fz21.S (cl PGrow fun _ => []) := Fz21.of_cl fun n h k => grow_pf n h.1 h.2 k
theorem s_concat : Fz18.S (cl Bd List.flatten) := Fz18.of_cl s_grow fun r h k => by
  have hl := h.len
  have hs := sumL_le h
  unfold Fz18.pf
  refine iter_list r (fun p (n : Int) => (n, (p : Int))) (fun q n => k r.flatten) (fun p n => n = sumL (r.take p)) (c := 0) rfl (big_lt (by omega)) rfl ?_ ?_
  · rintro p hp n rec rfl hrec
    have h1 := sumL_take h (p + 1)
    have h2 := sumL_succ hp
    unfold Fz18.B1
    simp only [decT (show (p : Int) < (r.length : Int) by omega), inB_nat hp, cond_true, Int.toNat_natCast, getD_lt hp, w64n (show p < 9223372036854775807 by omega)]
    rw [w64 (by omega) (by omega), decF (by omega)]
    exact hrec _ (by omega)
  · rintro n rec rfl
    unfold Fz18.B1
    rw [decF (by simp), List.take_of_length_le (Nat.le_refl _)]
    simp only [cond_false]
    rw [cl_eq (show PGrow (sumL r : Int) from ⟨by omega, by omega⟩), Option.bind_some]
    refine (iter_list r (fun p (o : List DS) => ((p : Int), o)) (fun q o => k (o ++ q.flatten)) (fun p o => o.length = sumL (r.take p)) (c := []) rfl (big_lt (by omega)) rfl ?_ ?_).trans (by rw [List.nil_append])
    · rintro p hp o rec ho hrec
      have h1 := sumL_take h (p + 1)
      have h2 := sumL_succ hp
      unfold Fz18.B2
      simp only [decT (show (p : Int) < (r.length : Int) by omega), inB_nat hp, cond_true, Int.toNat_natCast, getD_lt hp, w64n (show p < 9223372036854775807 by omega)]
      rw [okS (by omega), cond_true]
      refine (hrec _ (by rw [List.length_append]; omega)).trans ?_
      rw [List.flatten_cons, List.append_assoc]
    · rintro o rec _
      unfold Fz18.B2
      rw [decF (by simp)]
      simp
theorem concat_len (r : List (List DS)) : r.flatten.length = sumL r := by unfold sumL; rw [List.length_flatten]
def freeIn (r : List (List DS)) : Int × Int := if validR r = true then (6 * (r.length : Int) - sumL r, 0) else (0, 1)
theorem s_spec_FreeIn : Fz24.S (cl wR freeIn) := Fz24.of_cl s_l04Ok s_l04Sum fun r h k => by
  have hl := h.1.len
  have hs := sumL_le h.1
  unfold Fz24.pf freeIn
  rw [cl_eq h, Option.bind_some]
  cases validR r with
  | false => rfl
  | true =>
    simp only [Bool.not_true, cond_false, if_true, cl_eq h.1, Option.bind_some]
    rw [w64 (n := 6 * (r.length : Int)) (by omega) (by omega), w64 (by omega) (by omega)]
theorem s_impl_FreeIn : Fz0.S (cl wR freeIn) := Fz0.of_cl s_impl_ValidRack s_concat fun r h k => by
  have hl := h.1.len
  have hs := sumL_le h.1
  unfold Fz0.pf freeIn
  rw [cl_eq h, Option.bind_some]
  cases validR r with
  | false => rfl
  | true =>
    simp only [Bool.not_true, cond_false, if_true, cl_eq h.1, Option.bind_some, concat_len]
    rw [w64 (n := 6 * (r.length : Int)) (by omega) (by omega), w64 (by omega) (by omega)]
theorem s_law_FreeIn : laws_FnExactFreeIn.S (cl gR fun _ => true) := laws_FnExactFreeIn.of_cl s_szRack s_toRack s_spec_FreeIn s_impl_FreeIn s_eqRack fun r h k => by
  have hg : gR r := h
  unfold laws_FnExactFreeIn.pf
  rw [cl_eq hg.sz, Option.bind_some]
  by_cases c : vszR (r, 1048576) < 0
  · rw [decT c]; rfl
  · have w := hg.w c
    rw [decF c, cond_false]
    simp only [cl_eq w.1, Option.bind_some, cl_eq w, cl_eq (show Bd1 (r, r) from w.1), decide_true, Bool.not_true, cond_false, bneS]
end Go.Proofs.Ytneefjegejlfeaa.G
