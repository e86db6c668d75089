/- Plain proofs: what the functions answer, in plain lists and numbers. -/
import Derived.Test.YtneefjegejlfeaaRd0
import Derived.Test.YtneefjegejlfeaaRd1
namespace Go.Proofs.Ytneefjegejlfeaa.G
open Go
set_option linter.unusedVariables false
set_option linter.unusedSimpArgs false
set_option maxRecDepth 10000
abbrev DB := Int × Int
abbrev DS := DB × Int
abbrev dS : DS := ((0, 0), 0)
theorem s_toBottle : laws_toBottle.S (tot fun x => x) := laws_toBottle.of_tot fun x k => rfl
theorem s_toStored : laws_toStored.S (tot fun x => x) := laws_toStored.of_tot s_toBottle fun x k => rfl
/-- A copy, element by element. -/
theorem copied {β : Type} {l o : List β} {k : Nat} {d : β} (h : k < l.length) (ho : o.length = l.length) (hp : o.take k = l.take k) : (o.set k l[k]).take (k + 1) = l.take (k + 1) ∧ (o.set k l[k]).length = l.length := by
  refine ⟨?_, by simpa using ho⟩
  rw [List.take_succ_eq_append_getElem (by simpa [ho] using h), List.take_succ_eq_append_getElem h, List.take_set_of_le (Nat.le_refl k), hp]
  simp
theorem toStoredS_pf {α : Type} (l : List DS) (h : l.length ≤ 1073741824) (k : List DS → Option α) : laws_toStoredS.pf (tot fun x => x) BIG l k = k l := by
  unfold laws_toStoredS.pf
  rw [inW_true (by omega) (by omega) (by unfold LIM; omega)]
  simp only [cond_true]
  refine (iter_list (B := laws_toStoredS.B1 (tot fun x => x) l fun x1 => k x1.2) l (fun i (c : List DS) => ((i : Int), c)) (fun _ _ => k l) (fun i c => c.length = l.length ∧ c.take i = l.take i) (c := List.replicate l.length dS) (by simp) (big_lt (by omega)) (by simp) ?_ ?_)
  · rintro i hi c rec ⟨h1, h2⟩ hrec
    unfold laws_toStoredS.B1
    simp only [decT (show (i : Int) < (l.length : Int) by omega), inB_nat hi, inB_nat (h1 ▸ hi : i < c.length), cond_true, Int.toNat_natCast, getD_lt hi, tot_eq, Option.bind_some, w64n (show i < 9223372036854775807 by omega)]
    have := copied (d := dS) hi h1 h2
    exact hrec _ ⟨this.2, this.1⟩
  · rintro c rec ⟨h1, h2⟩
    unfold laws_toStoredS.B1
    rw [decF (by omega)]
    rw [List.take_of_length_le (by omega), List.take_of_length_le (Nat.le_refl _)] at h2
    simp only [cond_false, h2]
theorem s_toStoredS : laws_toStoredS.S (cl PL fun l => l) := laws_toStoredS.of_cl s_toStored fun x h => toStoredS_pf x h
theorem toRack_pf {α : Type} (l : List (List DS)) (h : Bd l) (k : List (List DS) → Option α) : laws_toRack.pf (cl PL fun l => l) BIG l k = k l := by
  have hl := h.len
  unfold laws_toRack.pf
  rw [inW_true (by omega) (by omega) (by unfold LIM; omega)]
  simp only [cond_true]
  refine (iter_list (B := laws_toRack.B1 (cl PL fun l => l) l fun x1 => k x1.2) l (fun i (c : List (List DS)) => ((i : Int), c)) (fun _ _ => k l) (fun i c => c.length = l.length ∧ c.take i = l.take i) (c := List.replicate l.length []) (by simp) (big_lt (by omega)) (by simp) ?_ ?_)
  · rintro i hi c rec ⟨h1, h2⟩ hrec
    unfold laws_toRack.B1
    simp only [decT (show (i : Int) < (l.length : Int) by omega), inB_nat hi, inB_nat (h1 ▸ hi : i < c.length), cond_true, Int.toNat_natCast, getD_lt hi, cl_eq (h.pl hi), Option.bind_some, w64n (show i < 9223372036854775807 by omega)]
    have := copied (d := ([] : List DS)) hi h1 h2
    exact hrec _ ⟨this.2, this.1⟩
  · rintro c rec ⟨h1, h2⟩
    unfold laws_toRack.B1
    rw [decF (by omega)]
    rw [List.take_of_length_le (by omega), List.take_of_length_le (Nat.le_refl _)] at h2
    simp only [cond_false, h2]
theorem s_toRack : laws_toRack.S (cl Bd fun l => l) :=
  laws_toRack.of_cl s_toStoredS fun x h => toRack_pf x h
def Psz (x : List DS × Int) : Prop := x.1.length ≤ maxLen ∧ 0 ≤ x.2 ∧ x.2 ≤ 1048576
def vsz (x : List DS × Int) : Int := if x.2 < x.1.length then -1 else x.2 - x.1.length
theorem s_szStoredS : laws_szStoredS.S (cl Psz vsz) :=
  laws_szStoredS.of_cl fun x ⟨h1, h2, h3⟩ k => by
    unfold maxLen at h1
    unfold laws_szStoredS.pf vsz
    rw [w64 (by omega) (by omega)]
    by_cases c : x.2 < x.1.length
    · rw [decT (by omega), if_pos c]; rfl
    · rw [decF (by omega), if_neg c]; rfl
/-- What is left over. -/
def szL (n : Int) : List (List DS) → Int
  | [] => n
  | x :: l => if n < x.length then -1 else szL (n - x.length) l
theorem szRack_pf {α : Type} (l : List (List DS)) (n : Int) (h : l.length ≤ maxLen) (hr : ∀ x, x ∈ l → x.length ≤ maxLen) (h0 : 0 ≤ n) (h1 : n ≤ 1048576) (k : Int → Option α) :
    laws_szRack.pf (cl Psz vsz) BIG l n k = k (if n < l.length then -1 else szL (n - l.length) l) := by
  have hl := h
  unfold maxLen at hl
  unfold laws_szRack.pf
  rw [w64 (by omega) (by omega)]
  by_cases c : n < l.length
  · rw [decT (by omega), if_pos c]; rfl
  · rw [decF (by omega), if_neg c, cond_false]
    refine iter_list l (fun i (c : Int) => (c, (i : Int))) (fun r c => k (szL c r)) (fun i c => 0 ≤ c ∧ c ≤ 1048576) (c := n - l.length) rfl (big_lt (by omega)) (by omega) ?_ ?_
    · rintro i hi c rec ⟨h2, h3⟩ hrec
      unfold laws_szRack.B1
      simp only [decT (show (i : Int) < (l.length : Int) by omega), inB_nat hi, cond_true, Int.toNat_natCast, getD_lt hi, cl_eq (show Psz (l[i], c) from ⟨hr _ (List.getElem_mem hi), h2, h3⟩), vsz, Option.bind_some, w64n (show i < 9223372036854775807 by omega), szL]
      by_cases q : c < (l[i].length : Int)
      · simp only [if_pos q]; rfl
      · simp only [if_neg q, decF (show ¬ (c - (l[i].length : Int) < 0) by omega), cond_false]
        exact hrec _ (by omega)
    · rintro c rec _
      unfold laws_szRack.B1
      rw [decF (by omega)]
      rfl
def PszR (x : List (List DS) × Int) : Prop := x.1.length ≤ maxLen ∧ (∀ r, r ∈ x.1 → r.length ≤ maxLen) ∧ 0 ≤ x.2 ∧ x.2 ≤ 1048576
def vszR (x : List (List DS) × Int) : Int := if x.2 < x.1.length then -1 else szL (x.2 - x.1.length) x.1
theorem s_szRack : laws_szRack.S (cl PszR vszR) := laws_szRack.of_cl s_szStoredS fun x ⟨h1, h2, h3, h4⟩ => szRack_pf x.1 x.2 h1 h2 h3 h4
theorem szL_nn : ∀ (l : List (List DS)) (n : Int), 0 ≤ n → 0 ≤ szL n l → szL n l = n - ((l.map List.length).sum : Nat)
  | [], n, _, _ => by simp [szL]
  | x :: l, n, h, h1 => by
    unfold szL at h1 ⊢
    by_cases c : n < x.length
    · rw [if_pos c] at h1; omega
    · rw [if_neg c] at h1 ⊢
      rw [szL_nn l _ (by omega) h1]
      simp
      omega
/-- What went through is small. -/
theorem sz_bd {l : List (List DS)} {n : Int} (h0 : 0 ≤ n) (h1 : n ≤ 1048576) (h : ¬ vszR (l, n) < 0) : Bd l ∧ 0 ≤ vszR (l, n) ∧ vszR (l, n) ≤ 1048576 := by
  unfold vszR at h ⊢
  simp only at h ⊢
  by_cases c : n < l.length
  · rw [if_pos c] at h; omega
  · rw [if_neg c] at h ⊢
    have := szL_nn l (n - l.length) (by omega) (by omega)
    unfold Bd
    omega
theorem s_eqBottle : laws_eqBottle.S (tot fun x => decide (x.1 = x.2)) := laws_eqBottle.of_tot fun x k => by
  obtain ⟨⟨a1, a2⟩, b1, b2⟩ := x
  unfold laws_eqBottle.pf
  by_cases h1 : a1 = b1
  · by_cases h2 : a2 = b2
    · simp [h1, h2]
    · simp [h1, h2, bneT h2]
  · simp [h1, bneT h1]
theorem s_eqStored : laws_eqStored.S (tot fun x => decide (x.1 = x.2)) := laws_eqStored.of_tot s_eqBottle fun x k => by
  obtain ⟨⟨a1, a2⟩, b1, b2⟩ := x
  unfold laws_eqStored.pf
  by_cases h1 : a1 = b1
  · by_cases h2 : a2 = b2
    · simp [h1, h2, tot]
    · simp [h1, h2, tot, bneT h2]
  · simp [h1, tot]
/-- Lists of one length are alike where no pair of elements differs. -/
theorem any_eq {β : Type} [DecidableEq β] : ∀ (a b : List β), a.length = b.length → (a.zip b).any (fun p => !decide (p.1 = p.2)) = !decide (a = b)
  | [], [], _ => by simp
  | [], _ :: _, h => by simp at h
  | _ :: _, [], h => by simp at h
  | x :: a, y :: b, h => by
    rw [List.zip_cons_cons, List.any_cons, any_eq a b (by simpa using h)]
    by_cases c : x = y <;> by_cases c2 : a = b <;> simp [c, c2]
theorem zip_at {β γ : Type} {a : List β} {b : List γ} {k : Nat} (h : k < (a.zip b).length) : (a.zip b)[k] = (a[k]'(by simp at h; omega), b[k]'(by simp at h; omega)) := by simp
theorem eqStoredS_pf {α : Type} (a b : List DS) (h : a.length ≤ 1073741824) (k : Bool → Option α) : laws_eqStoredS.pf (tot fun x => decide (x.1 = x.2)) BIG a b k = k (decide (a = b)) := by
  unfold laws_eqStoredS.pf
  by_cases c : a.length = b.length
  · rw [show (((a.length : Nat) : Int) != ((b.length : Nat) : Int)) = false by simp [c], cond_false]
    have hz : (a.zip b).length = a.length := by simp [c]
    rw [iter_first (a.zip b) (fun i => (i : Int)) (fun p => !decide (p.1 = p.2)) (fun _ _ => k false) (k true) (x := 0) rfl (big_lt (by omega)) ?_ ?_, firstOr_const, any_eq a b c]
    · by_cases e : a = b <;> simp [e]
    · intro i hi rec
      have h1 : i < a.length := by omega
      have h2 : i < b.length := by omega
      unfold laws_eqStoredS.B1
      rw [zip_at hi]
      simp only [decT (show (i : Int) < (a.length : Int) by omega), inB_nat h1, inB_nat h2, cond_true, Int.toNat_natCast, getD_lt h1, getD_lt h2, tot_eq, Option.bind_some, w64n (show i < 9223372036854775807 by omega)]
    · intro rec
      unfold laws_eqStoredS.B1
      rw [decF (by omega)]
      rfl
  · rw [show (((a.length : Nat) : Int) != ((b.length : Nat) : Int)) = true by simpa using fun q => c (by omega), cond_true]
    rw [decF (fun e => c (by rw [e]))]
theorem s_eqStoredS : laws_eqStoredS.S (cl PL1 fun x => decide (x.1 = x.2)) := laws_eqStoredS.of_cl s_eqStored fun x h => eqStoredS_pf x.1 x.2 h
theorem eqRack_pf {α : Type} (a b : List (List DS)) (h : Bd a) (k : Bool → Option α) : laws_eqRack.pf (cl PL1 fun x => decide (x.1 = x.2)) BIG a b k = k (decide (a = b)) := by
  have hl := h.len
  unfold laws_eqRack.pf
  by_cases c : a.length = b.length
  · rw [show (((a.length : Nat) : Int) != ((b.length : Nat) : Int)) = false by simp [c], cond_false]
    have hz : (a.zip b).length = a.length := by simp [c]
    rw [iter_first (a.zip b) (fun i => (i : Int)) (fun p => !decide (p.1 = p.2)) (fun _ _ => k false) (k true) (x := 0) rfl (big_lt (by omega)) ?_ ?_, firstOr_const, any_eq a b c]
    · by_cases e : a = b <;> simp [e]
    · intro i hi rec
      have h1 : i < a.length := by omega
      have h2 : i < b.length := by omega
      unfold laws_eqRack.B1
      rw [zip_at hi]
      simp only [decT (show (i : Int) < (a.length : Int) by omega), inB_nat h1, inB_nat h2, cond_true, Int.toNat_natCast, getD_lt h1, getD_lt h2, cl_eq (show PL1 (a[i], b[i]) from h.at h1), Option.bind_some, w64n (show i < 9223372036854775807 by omega)]
    · intro rec
      unfold laws_eqRack.B1
      rw [decF (by omega)]
      rfl
  · rw [show (((a.length : Nat) : Int) != ((b.length : Nat) : Int)) = true by simpa using fun q => c (by omega), cond_true]
    rw [decF (fun e => c (by rw [e]))]
theorem s_eqRack : laws_eqRack.S (cl Bd1 fun x => decide (x.1 = x.2)) := laws_eqRack.of_cl s_eqStoredS fun x h => eqRack_pf x.1 x.2 h
def validB (b : DB) : Bool := decide (1 ≤ b.1) && decide (b.1 ≤ 20) && (decide (1900 ≤ b.2) && decide (b.2 ≤ 2099))
def validS (s : DS) : Bool := validB s.1 && (decide (0 ≤ s.2) && decide (s.2 ≤ 2000))
def validR (r : List (List DS)) : Bool := decide (r.length ≤ 8) && r.all fun l => decide (l.length ≤ 6) && l.all validS
/-- Whole numbers of their kinds. -/
def wB (b : DB) : Prop := 0 ≤ b.1 ∧ b.1 ≤ 255 ∧ -32768 ≤ b.2 ∧ b.2 ≤ 32767
def wS (s : DS) : Prop := wB s.1 ∧ -32768 ≤ s.2 ∧ s.2 ≤ 32767
def wL (l : List DS) : Prop := PL l ∧ ∀ s, s ∈ l → wS s
def wR (r : List (List DS)) : Prop := Bd r ∧ ∀ l, l ∈ r → ∀ s, s ∈ l → wS s
theorem wR.at {r : List (List DS)} (h : wR r) {k : Nat} (hk : k < r.length) : wL r[k] := ⟨h.1.pl hk, h.2 _ (List.getElem_mem hk)⟩
theorem wL.at {l : List DS} (h : wL l) {k : Nat} (hk : k < l.length) : wS l[k] := h.2 _ (List.getElem_mem hk)
theorem s_l00In : spec_l00In.S (tot fun x => decide (x.2.1 ≤ x.1) && decide (x.1 ≤ x.2.2)) := spec_l00In.of_tot fun x k => by
  unfold spec_l00In.pf
  by_cases c : x.2.1 ≤ x.1
  · rw [decT (show x.1 ≥ x.2.1 from c)]; rfl
  · rw [decF (show ¬ x.1 ≥ x.2.1 from c)]; rfl
theorem s_within : impl_within.S (tot fun x => decide (x.2.1 ≤ x.1) && decide (x.1 ≤ x.2.2)) := impl_within.of_tot fun x k => by
  unfold impl_within.pf
  by_cases c : x.2.1 ≤ x.1
  · rw [decT c]; rfl
  · rw [decF c]; rfl
theorem s_l01Bottle : spec_l01Bottle.S (cl wB validB) := spec_l01Bottle.of_cl s_l00In fun x ⟨h1, h2, h3, h4⟩ k => by
  unfold spec_l01Bottle.pf validB
  simp only [tot_eq, Option.bind_some, w64 (n := x.1) (by omega) (by omega), w64 (n := x.2) (by omega) (by omega)]
  cases decide (1 ≤ x.1) && decide (x.1 ≤ 20) <;> rfl
theorem s_ValidBottle : impl_ValidBottle.S (cl wB validB) := impl_ValidBottle.of_cl s_within fun x ⟨h1, h2, h3, h4⟩ k => by
  unfold impl_ValidBottle.pf validB
  simp only [tot_eq, Option.bind_some, w64 (n := x.1) (by omega) (by omega), w64 (n := x.2) (by omega) (by omega)]
  cases decide (1 ≤ x.1) && decide (x.1 ≤ 20) <;> rfl
theorem s_l04Stored : spec_l04Stored.S (cl wS validS) := spec_l04Stored.of_cl s_l01Bottle s_l00In fun x ⟨h1, h2, h3⟩ k => by
  unfold spec_l04Stored.pf validS
  rw [cl_eq h1, w64 (n := x.2) (by omega) (by omega)]
  simp only [tot_eq, Option.bind_some]
  cases validB x.1 <;> rfl
theorem s_validStored : impl_validStored.S (cl wS validS) := impl_validStored.of_cl s_ValidBottle s_within fun x ⟨h1, h2, h3⟩ k => by
  unfold impl_validStored.pf validS
  rw [cl_eq h1, w64 (n := x.2) (by omega) (by omega)]
  simp only [tot_eq, Option.bind_some]
  cases validB x.1 <;> rfl
theorem any_not {β : Type} (l : List β) (p : β → Bool) : (l.any fun x => !p x) = !l.all p := by
  induction l with
  | nil => rfl
  | cons x l ih => rw [List.any_cons, List.all_cons, ih, Bool.not_and]
theorem s_l04All : spec_l04All.S (cl wL fun l => l.all validS) := spec_l04All.of_cl s_l04Stored fun x h k => by
  have hl : x.length ≤ 1073741824 := h.1
  unfold spec_l04All.pf
  rw [iter_first x (fun i => (i : Int)) (fun s => !validS s) (fun _ _ => k false) (k true) (x := 0) rfl (big_lt (by omega)) ?_ ?_, firstOr_const, any_not]
  · cases x.all validS <;> rfl
  · intro i hi rec
    unfold spec_l04All.B1
    simp only [decT (show (i : Int) < (x.length : Int) by omega), inB_nat hi, cond_true, Int.toNat_natCast, getD_lt hi, cl_eq (h.at hi), Option.bind_some, w64n (show i < 9223372036854775807 by omega)]
  · intro rec
    unfold spec_l04All.B1
    rw [decF (by omega)]
    rfl
theorem s_l04Ok : spec_l04Ok.S (cl wR validR) := spec_l04Ok.of_cl s_l04All fun x h k => by
  have hl := h.1.len
  unfold spec_l04Ok.pf
  rw [iter_first x (fun i => (i : Int)) (fun l => !(decide (l.length ≤ 6) && l.all validS)) (fun _ _ => k false) (k (decide (x.length ≤ 8))) (x := 0) rfl (big_lt (by omega)) ?_ ?_, firstOr_const, any_not]
  · unfold validR
    cases x.all fun l => decide (l.length ≤ 6) && l.all validS
    · rw [Bool.and_false]; rfl
    · rw [Bool.and_true]; rfl
  · intro i hi rec
    have := h.1.at hi
    unfold spec_l04Ok.B1
    simp only [decT (show (i : Int) < (x.length : Int) by omega), inB_nat hi, cond_true, Int.toNat_natCast, getD_lt hi, cl_eq (h.at hi), Option.bind_some, w64n (show i < 9223372036854775807 by omega)]
    by_cases c : x[i].length ≤ 6
    · rw [decF (show ¬ ((x[i].length : Int) > 6) by omega), decT c]; rfl
    · rw [decT (show ((x[i].length : Int) > 6) by omega), decF c]; rfl
  · intro rec
    unfold spec_l04Ok.B1
    rw [decF (by omega)]
    simp only [cond_false]
    congr 1
    by_cases c : x.length ≤ 8
    · rw [decT c, decT (by omega)]
    · rw [decF c, decF (by omega)]
theorem s_ValidRack_1_1 : impl_ValidRack_1_1.S (cl wS fun s => !validS s) := impl_ValidRack_1_1.of_cl s_validStored fun x h k => by
  unfold impl_ValidRack_1_1.pf
  rw [cl_eq h]; rfl
/-- Where the first one is. -/
def indexI {β : Type} (p : β → Bool) (l : List β) : Int := match l.findIdx? p with
  | some i => i
  | none => -1
theorem firstOr_index {α β : Type} (p : β → Bool) (k : Int → Option α) : ∀ (l : List β) (j : Nat), firstOr p (fun i _ => k (i : Int)) (k (-1)) j l = k (match l.findIdx? p with | some i => ((j + i : Nat) : Int) | none => -1)
  | [], _ => rfl
  | x :: l, j => by
    rw [firstOr, List.findIdx?_cons]
    cases p x with
    | true => simp
    | false =>
      rw [cond_false, firstOr_index p k l]
      cases l.findIdx? p with
      | none => rfl
      | some i => simp [Nat.add_assoc, Nat.add_comm 1 i]
theorem indexI_nn {β : Type} (p : β → Bool) (l : List β) : decide (indexI p l ≥ 0) = l.any p := by
  unfold indexI
  cases h : l.findIdx? p with
  | none =>
    have := List.findIdx?_eq_none_iff.1 h
    simp only
    rw [decF (by omega)]
    symm
    rw [List.any_eq_false]
    intro x hx
    simpa using this x hx
  | some i =>
    simp only
    rw [decT (by omega)]
    symm
    obtain ⟨hi, hp, _⟩ := List.findIdx?_eq_some_iff_getElem.1 h
    exact List.any_eq_true.2 ⟨_, List.getElem_mem hi, hp⟩
theorem s_index_1_1 : slices_IndexFunc_impl_Stored_impl_Stored__impl_ValidRack_1_1.S (cl wL fun l => indexI (fun s => !validS s) l) :=
  slices_IndexFunc_impl_Stored_impl_Stored__impl_ValidRack_1_1.of_cl s_ValidRack_1_1 fun x h k => by
  have hl : x.length ≤ 1073741824 := h.1
  unfold slices_IndexFunc_impl_Stored_impl_Stored__impl_ValidRack_1_1.pf
  rw [iter_first x (fun i => (i : Int)) (fun s => !validS s) (fun i _ => k (i : Int)) (k (-1)) (x := 0) rfl (big_lt (by omega)) ?_ ?_, firstOr_index]
  · unfold indexI
    congr 1
    cases x.findIdx? fun s => !validS s <;> simp
  · intro i hi rec
    unfold slices_IndexFunc_impl_Stored_impl_Stored__impl_ValidRack_1_1.B1
    simp only [decT (show (i : Int) < (x.length : Int) by omega), inB_nat hi, cond_true, Int.toNat_natCast, getD_lt hi, cl_eq (h.at hi), Option.bind_some, w64n (show i < 9223372036854775807 by omega)]
  · intro rec
    unfold slices_IndexFunc_impl_Stored_impl_Stored__impl_ValidRack_1_1.B1
    rw [decF (by omega)]
    rfl
theorem s_contains_1_1 : slices_ContainsFunc_impl_Stored_impl_Stored__impl_ValidRack_1_1.S (cl wL fun l => !l.all validS) :=
  slices_ContainsFunc_impl_Stored_impl_Stored__impl_ValidRack_1_1.of_cl s_index_1_1 fun x h k => by
  unfold slices_ContainsFunc_impl_Stored_impl_Stored__impl_ValidRack_1_1.pf
  rw [cl_eq h, Option.bind_some, indexI_nn, any_not]
theorem s_ValidRack_1 : impl_ValidRack_1.S (cl wL fun l => !(decide (l.length ≤ 6) && l.all validS)) := impl_ValidRack_1.of_cl s_contains_1_1 fun x h k => by
  unfold impl_ValidRack_1.pf
  have hl : x.length ≤ 1073741824 := h.1
  by_cases c : x.length ≤ 6
  · rw [decF (show ¬ ((x.length : Int) > 6) by omega), decT c, cl_eq h]; rfl
  · rw [decT (show ((x.length : Int) > 6) by omega), decF c]; rfl
theorem s_index_1 : slices_IndexFunc_impl_Rack_impl_Stored__impl_ValidRack_1.S (cl wR fun r => indexI (fun l => !(decide (l.length ≤ 6) && l.all validS)) r) :=
  slices_IndexFunc_impl_Rack_impl_Stored__impl_ValidRack_1.of_cl s_ValidRack_1 fun x h k => by
  have hl := h.1.len
  unfold slices_IndexFunc_impl_Rack_impl_Stored__impl_ValidRack_1.pf
  rw [iter_first x (fun i => (i : Int)) (fun l => !(decide (l.length ≤ 6) && l.all validS)) (fun i _ => k (i : Int)) (k (-1)) (x := 0) rfl (big_lt (by omega)) ?_ ?_, firstOr_index]
  · unfold indexI
    congr 1
    cases x.findIdx? fun l => !(decide (l.length ≤ 6) && l.all validS) <;> simp
  · intro i hi rec
    unfold slices_IndexFunc_impl_Rack_impl_Stored__impl_ValidRack_1.B1
    simp only [decT (show (i : Int) < (x.length : Int) by omega), inB_nat hi, cond_true, Int.toNat_natCast, getD_lt hi, cl_eq (h.at hi), Option.bind_some, w64n (show i < 9223372036854775807 by omega)]
  · intro rec
    unfold slices_IndexFunc_impl_Rack_impl_Stored__impl_ValidRack_1.B1
    rw [decF (by omega)]
    rfl
theorem s_contains_1 : slices_ContainsFunc_impl_Rack_impl_Stored__impl_ValidRack_1.S (cl wR fun r => !r.all fun l => decide (l.length ≤ 6) && l.all validS) :=
  slices_ContainsFunc_impl_Rack_impl_Stored__impl_ValidRack_1.of_cl s_index_1 fun x h k => by
  unfold slices_ContainsFunc_impl_Rack_impl_Stored__impl_ValidRack_1.pf
  rw [cl_eq h, Option.bind_some, indexI_nn, any_not]
theorem s_impl_ValidRack : impl_ValidRack.S (cl wR validR) := impl_ValidRack.of_cl s_contains_1 fun x h k => by
  unfold impl_ValidRack.pf validR
  have hl := h.1.len
  by_cases c : x.length ≤ 8
  · rw [decT (show ((x.length : Int) ≤ 8) by omega), decT c, cl_eq h]; simp
  · rw [decF (show ¬ ((x.length : Int) ≤ 8) by omega), decF c]; rfl
theorem good_B {b : DB} (h : goodV (.st (.pair (.int .u8) (.int .i16))) b) : wB b := by
  obtain ⟨h1, h2⟩ := h
  simp only [goodV, Lit.wf, IntKind.min, IntKind.max, IntKind.bits, IntKind.signed] at h1 h2
  simp at h1 h2
  unfold wB
  omega
theorem good_S {s : DS} (h : goodV (.st (.pair (.st (.pair (.int .u8) (.int .i16))) (.int .i16))) s) : wS s := by
  obtain ⟨h1, h2⟩ := h
  refine ⟨good_B h1, ?_⟩
  simp only [goodV, Lit.wf, IntKind.min, IntKind.max, IntKind.bits, IntKind.signed] at h2
  simp at h2
  omega
/-- What comes in. -/
def gR (r : List (List DS)) : Prop := r.length ≤ maxLen ∧ (∀ l, l ∈ r → l.length ≤ maxLen) ∧ ∀ l, l ∈ r → ∀ s, s ∈ l → wS s
theorem good_rack {e e' : TypeId} {r : List (List DS)} (h : goodV (.row e (.row e' (.st (.pair (.st (.pair (.int .u8) (.int .i16))) (.int .i16))))) r) : gR r := by
  obtain ⟨h1, h2⟩ := h
  have h3 : ∀ l, l ∈ r → goodV (.row e' (.st (.pair (.st (.pair (.int .u8) (.int .i16))) (.int .i16)))) l := fun l hl => by
    obtain ⟨i, hi, rfl⟩ := List.mem_iff_getElem.1 hl
    have := h2 i hi
    rwa [getD_lt hi] at this
  refine ⟨h1, fun l hl => (h3 l hl).1, fun l hl s hs => ?_⟩
  obtain ⟨i, hi, rfl⟩ := List.mem_iff_getElem.1 hs
  have := (h3 l hl).2 i hi
  rw [getD_lt hi] at this
  exact good_S this
theorem gR.sz {r : List (List DS)} (h : gR r) : PszR (r, 1048576) := ⟨h.1, h.2.1, by simp, by simp⟩
theorem gR.w {r : List (List DS)} (h : gR r) (c : ¬ vszR (r, 1048576) < 0) : wR r := ⟨(sz_bd (by omega) (by omega) c).1, h.2.2⟩
theorem bneS (a : Int) : (a != a) = false := by simp
def cnt (l : List DS) (d : Int) : Int := match l with
  | [] => 0
  | s :: l => (if s.2 < d then 1 else 0) + cnt l d
theorem s_blocked : impl_blocked.S (cl PL1 fun x => cnt x.1 x.2) := impl_blocked.of_cl fun x h k => by
  obtain ⟨l, d⟩ := x
  have hl : l.length ≤ 1073741824 := h
  show impl_blocked.pf BIG l d k = k (cnt l d)
  unfold impl_blocked.pf
  refine (iter_list l (fun i (c : Int) => (c, (i : Int))) (fun q c => k (c + cnt q d)) (fun i c => 0 ≤ c ∧ c ≤ i) (c := 0) rfl (big_lt (by omega)) ⟨by omega, by omega⟩ ?_ ?_).trans (by rw [Int.zero_add])
  · rintro i hi c rec ⟨h1, h2⟩ hrec
    unfold impl_blocked.B1
    simp only [decT (show (i : Int) < (l.length : Int) by omega), inB_nat hi, cond_true, Int.toNat_natCast, getD_lt hi, w64n (show i < 9223372036854775807 by omega), w64 (show -9223372036854775808 ≤ c + 1 by omega) (by omega), cnt]
    by_cases q : l[i].2 < d
    · rw [decT q, if_pos q, cond_true]
      refine (hrec _ (by omega)).trans (by rw [Int.add_assoc])
    · rw [decF q, if_neg q, cond_false]
      refine (hrec _ (by omega)).trans (by rw [Int.zero_add])
  · rintro c rec _
    unfold impl_blocked.B1
    rw [decF (by simp only; omega)]
    simp [cnt]
def encB : Option Nat → Int
  | none => -1
  | some n => (n : Int)
theorem encB_some (m : Nat) : encB (some m) = (m : Int) := rfl
/-- The best lane so far, behind one more. -/
def updB (r : List (List DS)) (d : Int) (o : Option Nat) (i : Nat) : Option Nat :=
  if (r.getD i []).length = 6 then o else match o with
    | none => some i
    | some m => if cnt (r.getD i []) d < cnt (r.getD m []) d ∨ cnt (r.getD i []) d = cnt (r.getD m []) d ∧ (r.getD i []).length < (r.getD m []).length then some i else some m
def bestLane (r : List (List DS)) (d : Int) : Option Nat := (List.range r.length).foldl (updB r d) none
def OkB (r : List (List DS)) (o : Option Nat) : Prop := ∀ m, o = some m → m < r.length
theorem updB_ok {r : List (List DS)} {d : Int} {o : Option Nat} {i : Nat} (ho : OkB r o) (hi : i < r.length) : OkB r (updB r d o i) := by
  intro m hm
  unfold updB at hm
  split at hm
  · exact ho m hm
  · split at hm
    · obtain rfl := Option.some.inj hm; exact hi
    · split at hm
      · obtain rfl := Option.some.inj hm; exact hi
      · exact ho m hm
theorem range_drop {n k : Nat} (h : k < n) : (List.range n)[k]'(by simpa using h) = k := by simp
theorem s_bestLane : impl_Rack_bestLane.S (cl Bd1 fun x => encB (bestLane x.1 x.2.2)) := impl_Rack_bestLane.of_cl s_blocked fun x h k => by
  obtain ⟨r, s⟩ := x
  have hb : Bd r := h
  have hl := hb.len
  show impl_Rack_bestLane.pf _ BIG r s k = k (encB (bestLane r s.2))
  unfold impl_Rack_bestLane.pf bestLane
  refine (iter_list (List.range r.length) (fun p (c : Option Nat) => (encB c, (p : Int))) (fun q c => k (encB (q.foldl (updB r s.2) c))) (fun p c => OkB r c) (c := none) rfl (big_lt (by simp; omega)) (fun p hp => by cases hp) ?_ ?_)
  · rintro p hp c rec hc hrec
    have hpr : p < r.length := by simpa using hp
    have hlp := hb.at hpr
    unfold impl_Rack_bestLane.B1
    simp only [decT (show (p : Int) < (r.length : Int) by omega), inB_nat hpr, cond_true, Int.toNat_natCast, getD_lt hpr, w64n (show p < 9223372036854775807 by omega), range_drop hpr, List.foldl_cons]
    refine Eq.trans ?_ (hrec (updB r s.2 c p) (updB_ok hc hpr))
    unfold updB
    rw [getD_lt hpr]
    by_cases c6 : r[p].length = 6
    · rw [beqT (by omega), if_pos c6]; rfl
    · rw [beqF (by omega), if_neg c6, cond_false]
      cases c with
      | none => rw [decT (show encB none < 0 by simp [encB])]; rfl
      | some m =>
        have hm := hc m rfl
        have hlm := hb.at hm
        rw [decF (show ¬ encB (some m) < 0 by rw [encB_some]; omega)]
        simp only [encB_some, cond_false, cl_eq (show PL1 (r[p], s.2) from hlp), Option.bind_some, inB_nat hm, cond_true, Int.toNat_natCast, getD_lt hm, cl_eq (show PL1 (r[m], s.2) from hlm)]
        by_cases d1 : cnt r[p] s.2 < cnt r[m] s.2
        · rw [decT d1, if_pos (.inl d1)]; rfl
        · rw [decF d1, cond_false]
          by_cases d2 : cnt r[p] s.2 = cnt r[m] s.2
          · rw [beqT d2, cond_true]
            by_cases d3 : r[p].length < r[m].length
            · rw [decT (by omega), if_pos (.inr ⟨d2, d3⟩)]; rfl
            · rw [decF (by omega), if_neg (by omega)]; rfl
          · rw [beqF d2, cond_false, if_neg (by omega)]; rfl
  · rintro c rec _
    unfold impl_Rack_bestLane.B1
    rw [decF (by simp)]
    rfl
theorem spec_best2 {α : Type} (r : List (List DS)) (s : DS) (i : Nat) (hi : i < r.length) (hl : r[i].length ≤ 1073741824) (a b : Int) (K : Int × Int → Option α) :
    iter (spec_l04Best.B2 a b (i : Int) r s K) BIG (0, 0) = K (cnt r[i] s.2, (r[i].length : Int)) := by
  refine (iter_list r[i] (fun p (c : Int) => (c, (p : Int))) (fun q c => K (c + cnt q s.2, (r[i].length : Int))) (fun p c => 0 ≤ c ∧ c ≤ p) (c := 0) rfl (big_lt (by omega)) ⟨by omega, by omega⟩ ?_ ?_).trans (by rw [Int.zero_add])
  · rintro p hp c rec ⟨h1, h2⟩ hrec
    unfold spec_l04Best.B2
    simp only [inB_nat hi, decT (show (p : Int) < (r[i].length : Int) by omega), cond_true, Int.toNat_natCast, getD_lt hi, inB_nat hp, getD_lt hp, w64n (show p < 9223372036854775807 by omega), w64 (show -9223372036854775808 ≤ c + 1 by omega) (by omega), cnt]
    by_cases q : r[i][p].2 < s.2
    · rw [decT (show s.2 > r[i][p].2 from q), if_pos q, cond_true]
      refine (hrec _ (by omega)).trans (by rw [Int.add_assoc])
    · rw [decF (show ¬ s.2 > r[i][p].2 from q), if_neg q, cond_false]
      refine (hrec _ (by omega)).trans (by rw [Int.zero_add])
  · rintro c rec _
    unfold spec_l04Best.B2
    simp only [inB_nat hi, cond_true, Int.toNat_natCast, getD_lt hi]
    rw [decF (by omega)]
    simp [cnt]
theorem s_l04Best : spec_l04Best.S (cl Bd1 fun x => encB (bestLane x.1 x.2.2)) := spec_l04Best.of_cl fun x h k => by
  obtain ⟨r, s⟩ := x
  have hb : Bd r := h
  have hl := hb.len
  show spec_l04Best.pf BIG r s k = k (encB (bestLane r s.2))
  unfold spec_l04Best.pf bestLane
  refine (iter_list (List.range r.length) (fun p (c : Option Nat) => (encB c, (match c with | none => 0 | some m => cnt (r.getD m []) s.2), (p : Int))) (fun q c => k (encB (q.foldl (updB r s.2) c))) (fun p c => OkB r c) (c := none) rfl (big_lt (by simp; omega)) (fun p hp => by cases hp) ?_ ?_)
  · rintro p hp c rec hc hrec
    have hpr : p < r.length := by simpa using hp
    have hlp := hb.at hpr
    unfold spec_l04Best.B1
    simp only [decT (show (p : Int) < (r.length : Int) by omega), inB_nat hpr, cond_true, Int.toNat_natCast, getD_lt hpr, w64n (show p < 9223372036854775807 by omega), range_drop hpr, List.foldl_cons]
    refine Eq.trans ?_ (hrec (updB r s.2 c p) (updB_ok hc hpr))
    unfold updB
    rw [getD_lt hpr]
    by_cases c6 : r[p].length = 6
    · rw [beqT (by omega), if_pos c6]; rfl
    · rw [beqF (by omega), if_neg c6, cond_false, spec_best2 r s p hpr hlp]
      cases c with
      | none =>
        rw [decT (show encB none < 0 by simp [encB])]
        simp only [cond_true, encB, getD_lt hpr]
      | some m =>
        have hm := hc m rfl
        rw [decF (show ¬ encB (some m) < 0 by rw [encB_some]; omega)]
        simp only [encB_some, cond_false, inB_nat hm, cond_true, Int.toNat_natCast, getD_lt hm]
        by_cases d1 : cnt r[p] s.2 < cnt r[m] s.2
        · rw [decT d1, if_pos (.inl d1)]
          simp only [cond_true, encB, getD_lt hpr]
        · rw [decF d1, cond_false]
          by_cases d2 : cnt r[p] s.2 = cnt r[m] s.2
          · rw [beqT d2, cond_true]
            by_cases d3 : r[p].length < r[m].length
            · rw [decT (by omega), if_pos (.inr ⟨d2, d3⟩)]
              simp only [cond_true, encB, getD_lt hpr]
            · rw [decF (by omega), if_neg (by omega)]
              simp only [cond_false, encB, getD_lt hm]
          · rw [beqF d2, cond_false, if_neg (by omega)]
            simp only [encB, getD_lt hm]
  · rintro c rec _
    unfold spec_l04Best.B1
    rw [decF (by simp)]
    rfl
def bestOf (r : List (List DS)) (s : DS) : Int × Int := if (validR r && validS s) = true then (match bestLane r s.2 with
  | none => (0, 6)
  | some m => ((m : Int), 0)) else (0, 1)
def PRS (x : List (List DS) × DS) : Prop := wR x.1 ∧ wS x.2
theorem best_tail {α : Type} (o : Option Nat) (k : Int × Int → Option α) : cond (decide (encB o < 0)) (k (0, 6)) (k (encB o, 0)) = k (match o with | none => (0, 6) | some m => ((m : Int), 0)) := by
  cases o with
  | none => rfl
  | some m => rw [decF (show ¬ encB (some m) < 0 by rw [encB_some]; omega)]; rfl
theorem s_spec_BestLane : spec_BestLane.S (cl PRS fun x => bestOf x.1 x.2) := spec_BestLane.of_cl s_l04Ok s_l04Stored s_l04Best fun x h k => by
  obtain ⟨r, s⟩ := x
  obtain ⟨hw, hs⟩ := h
  simp only at hw hs
  show spec_BestLane.pf _ _ _ BIG r s k = k (bestOf r s)
  unfold spec_BestLane.pf bestOf
  rw [cl_eq hw, Option.bind_some, cl_eq hs]
  simp only [Option.bind_some, cl_eq (show Bd1 (r, s) from hw.1), best_tail]
  cases validR r with
  | false => rfl
  | true =>
    cases validS s with
    | false => rfl
    | true => rfl
theorem s_impl_BestLane : impl_BestLane.S (cl PRS fun x => bestOf x.1 x.2) := impl_BestLane.of_cl s_impl_ValidRack s_validStored s_bestLane fun x h k => by
  obtain ⟨r, s⟩ := x
  obtain ⟨hw, hs⟩ := h
  simp only at hw hs
  show impl_BestLane.pf _ _ _ BIG r s k = k (bestOf r s)
  unfold impl_BestLane.pf bestOf
  rw [cl_eq hw, Option.bind_some, cl_eq hs]
  simp only [Option.bind_some, cl_eq (show Bd1 (r, s) from hw.1), best_tail]
  cases validR r with
  | false => rfl
  | true =>
    cases validS s with
    | false => rfl
    | true => rfl
theorem s_law_BestLane : laws_FnExactBestLane.S (cl (fun x => gR x.1 ∧ wS x.2) fun _ => true) := laws_FnExactBestLane.of_cl s_szRack s_toRack s_toStored s_spec_BestLane s_impl_BestLane s_eqRack fun x ⟨h, hs⟩ k => by
  obtain ⟨r, s⟩ := x
  have hg : gR r := h
  show laws_FnExactBestLane.pf _ _ _ _ _ _ BIG r s k = k true
  unfold laws_FnExactBestLane.pf
  rw [cl_eq hg.sz, Option.bind_some]
  by_cases c : vszR (r, 1048576) < 0
  · rw [decT c]; rfl
  · have w := hg.w c
    rw [decF c, cond_false]
    simp only [cl_eq w.1, Option.bind_some, tot_eq, cl_eq (show PRS (r, s) from ⟨w, hs⟩), cl_eq (show Bd1 (r, r) from w.1), bneS, cond_false]
    simp
end Go.Proofs.Ytneefjegejlfeaa.G
