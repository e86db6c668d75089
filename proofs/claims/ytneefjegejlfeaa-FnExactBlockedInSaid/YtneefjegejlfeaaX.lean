/- Plain proofs: what the functions answer, in plain lists and numbers. -/
import Derived.Test.YtneefjegejlfeaaRd0
import Derived.Test.YtneefjegejlfeaaRd1
namespace Go.Proofs.Ytneefjegejlfeaa.G
open Go
set_option linter.unusedVariables false
set_option linter.unusedSimpArgs false
set_option maxRecDepth 10000
abbrev DB := Int × Int
abbrev DS := DB × Int
abbrev dS : DS := ((0, 0), 0)
theorem s_toBottle : laws_toBottle.S (tot fun x => x) := laws_toBottle.of_tot fun x k => rfl
theorem s_toStored : laws_toStored.S (tot fun x => x) := laws_toStored.of_tot s_toBottle fun x k => rfl
/-- A copy, element by element. -/
theorem copied {β : Type} {l o : List β} {k : Nat} {d : β} (h : k < l.length) (ho : o.length = l.length) (hp : o.take k = l.take k) : (o.set k l[k]).take (k + 1) = l.take (k + 1) ∧ (o.set k l[k]).length = l.length := by
  refine ⟨?_, by simpa using ho⟩
  rw [List.take_succ_eq_append_getElem (by simpa [ho] using h), List.take_succ_eq_append_getElem h, List.take_set_of_le (Nat.le_refl k), hp]
  simp
theorem toStoredS_pf {α : Type} (l : List DS) (h : l.length ≤ 1073741824) (k : List DS → Option α) : laws_toStoredS.pf (tot fun x => x) BIG l k = k l := by
  unfold laws_toStoredS.pf
  rw [inW_true (by omega) (by omega) (by unfold LIM; omega)]
  simp only [cond_true]
  refine (iter_list (B := laws_toStoredS.B1 (tot fun x => x) l fun x1 => k x1.2) l (fun i (c : List DS) => ((i : Int), c)) (fun _ _ => k l) (fun i c => c.length = l.length ∧ c.take i = l.take i) (c := List.replicate l.length dS) (by simp) (big_lt (by omega)) (by simp) ?_ ?_)
  · rintro i hi c rec ⟨h1, h2⟩ hrec
    unfold laws_toStoredS.B1
    simp only [decT (show (i : Int) < (l.length : Int) by omega), inB_nat hi, inB_nat (h1 ▸ hi : i < c.length), cond_true, Int.toNat_natCast, getD_lt hi, tot_eq, Option.bind_some, w64n (show i < 9223372036854775807 by omega)]
    have := copied (d := dS) hi h1 h2
    exact hrec _ ⟨this.2, this.1⟩
  · rintro c rec ⟨h1, h2⟩
    unfold laws_toStoredS.B1
    rw [decF (by omega)]
    rw [List.take_of_length_le (by omega), List.take_of_length_le (Nat.le_refl _)] at h2
    simp only [cond_false, h2]
theorem s_toStoredS : laws_toStoredS.S (cl PL fun l => l) := laws_toStoredS.of_cl s_toStored fun x h => toStoredS_pf x h
theorem toRack_pf {α : Type} (l : List (List DS)) (h : Bd l) (k : List (List DS) → Option α) : laws_toRack.pf (cl PL fun l => l) BIG l k = k l := by
  have hl := h.len
  unfold laws_toRack.pf
  rw [inW_true (by omega) (by omega) (by unfold LIM; omega)]
  simp only [cond_true]
  refine (iter_list (B := laws_toRack.B1 (cl PL fun l => l) l fun x1 => k x1.2) l (fun i (c : List (List DS)) => ((i : Int), c)) (fun _ _ => k l) (fun i c => c.length = l.length ∧ c.take i = l.take i) (c := List.replicate l.length []) (by simp) (big_lt (by omega)) (by simp) ?_ ?_)
  · rintro i hi c rec ⟨h1, h2⟩ hrec
    unfold laws_toRack.B1
    simp only [decT (show (i : Int) < (l.length : Int) by omega), inB_nat hi, inB_nat (h1 ▸ hi : i < c.length), cond_true, Int.toNat_natCast, getD_lt hi, cl_eq (h.pl hi), Option.bind_some, w64n (show i < 9223372036854775807 by omega)]
    have := copied (d := ([] : List DS)) hi h1 h2
    exact hrec _ ⟨this.2, this.1⟩
  · rintro c rec ⟨h1, h2⟩
    unfold laws_toRack.B1
    rw [decF (by omega)]
    rw [List.take_of_length_le (by omega), List.take_of_length_le (Nat.le_refl _)] at h2
    simp only [cond_false, h2]
theorem s_toRack : laws_toRack.S (cl Bd fun l => l) :=
  laws_toRack.of_cl s_toStoredS fun x h => toRack_pf x h
def Psz (x : List DS × Int) : Prop := x.1.length ≤ maxLen ∧ 0 ≤ x.2 ∧ x.2 ≤ 1048576
def vsz (x : List DS × Int) : Int := if x.2 < x.1.length then -1 else x.2 - x.1.length
theorem s_szStoredS : laws_szStoredS.S (cl Psz vsz) :=
  laws_szStoredS.of_cl fun x ⟨h1, h2, h3⟩ k => by
    unfold maxLen at h1
    unfold laws_szStoredS.pf vsz
    rw [w64 (by omega) (by omega)]
    by_cases c : x.2 < x.1.length
    · rw [decT (by omega), if_pos c]; rfl
    · rw [decF (by omega), if_neg c]; rfl
/-- What is left over. -/
def szL (n : Int) : List (List DS) → Int
  | [] => n
  | x :: l => if n < x.length then -1 else szL (n - x.length) l
theorem szRack_pf {α : Type} (l : List (List DS)) (n : Int) (h : l.length ≤ maxLen) (hr : ∀ x, x ∈ l → x.length ≤ maxLen) (h0 : 0 ≤ n) (h1 : n ≤ 1048576) (k : Int → Option α) :
    laws_szRack.pf (cl Psz vsz) BIG l n k = k (if n < l.length then -1 else szL (n - l.length) l) := by
  have hl := h
  unfold maxLen at hl
  unfold laws_szRack.pf
  rw [w64 (by omega) (by omega)]
  by_cases c : n < l.length
  · rw [decT (by omega), if_pos c]; rfl
  · rw [decF (by omega), if_neg c, cond_false]
    refine iter_list l (fun i (c : Int) => (c, (i : Int))) (fun r c => k (szL c r)) (fun i c => 0 ≤ c ∧ c ≤ 1048576) (c := n - l.length) rfl (big_lt (by omega)) (by omega) ?_ ?_
    · rintro i hi c rec ⟨h2, h3⟩ hrec
      unfold laws_szRack.B1
      simp only [decT (show (i : Int) < (l.length : Int) by omega), inB_nat hi, cond_true, Int.toNat_natCast, getD_lt hi, cl_eq (show Psz (l[i], c) from ⟨hr _ (List.getElem_mem hi), h2, h3⟩), vsz, Option.bind_some, w64n (show i < 9223372036854775807 by omega), szL]
      by_cases q : c < (l[i].length : Int)
      · simp only [if_pos q]; rfl
      · simp only [if_neg q, decF (show ¬ (c - (l[i].length : Int) < 0) by omega), cond_false]
        exact hrec _ (by omega)
    · rintro c rec _
      unfold laws_szRack.B1
      rw [decF (by omega)]
      rfl
def PszR (x : List (List DS) × Int) : Prop := x.1.length ≤ maxLen ∧ (∀ r, r ∈ x.1 → r.length ≤ maxLen) ∧ 0 ≤ x.2 ∧ x.2 ≤ 1048576
def vszR (x : List (List DS) × Int) : Int := if x.2 < x.1.length then -1 else szL (x.2 - x.1.length) x.1
theorem s_szRack : laws_szRack.S (cl PszR vszR) := laws_szRack.of_cl s_szStoredS fun x ⟨h1, h2, h3, h4⟩ => szRack_pf x.1 x.2 h1 h2 h3 h4
theorem szL_nn : ∀ (l : List (List DS)) (n : Int), 0 ≤ n → 0 ≤ szL n l → szL n l = n - ((l.map List.length).sum : Nat)
  | [], n, _, _ => by simp [szL]
  | x :: l, n, h, h1 => by
    unfold szL at h1 ⊢
    by_cases c : n < x.length
    · rw [if_pos c] at h1; omega
    · rw [if_neg c] at h1 ⊢
      rw [szL_nn l _ (by omega) h1]
      simp
      omega
/-- What went through is small. -/
theorem sz_bd {l : List (List DS)} {n : Int} (h0 : 0 ≤ n) (h1 : n ≤ 1048576) (h : ¬ vszR (l, n) < 0) : Bd l ∧ 0 ≤ vszR (l, n) ∧ vszR (l, n) ≤ 1048576 := by
  unfold vszR at h ⊢
  simp only at h ⊢
  by_cases c : n < l.length
  · rw [if_pos c] at h; omega
  · rw [if_neg c] at h ⊢
    have := szL_nn l (n - l.length) (by omega) (by omega)
    unfold Bd
    omega
theorem s_eqBottle : laws_eqBottle.S (tot fun x => decide (x.1 = x.2)) := laws_eqBottle.of_tot fun x k => by
  obtain ⟨⟨a1, a2⟩, b1, b2⟩ := x
  unfold laws_eqBottle.pf
  by_cases h1 : a1 = b1
  · by_cases h2 : a2 = b2
    · simp [h1, h2]
    · simp [h1, h2, bneT h2]
  · simp [h1, bneT h1]
theorem s_eqStored : laws_eqStored.S (tot fun x => decide (x.1 = x.2)) := laws_eqStored.of_tot s_eqBottle fun x k => by
  obtain ⟨⟨a1, a2⟩, b1, b2⟩ := x
  unfold laws_eqStored.pf
  by_cases h1 : a1 = b1
  · by_cases h2 : a2 = b2
    · simp [h1, h2, tot]
    · simp [h1, h2, tot, bneT h2]
  · simp [h1, tot]
/-- Lists of one length are alike where no pair of elements differs. -/
theorem any_eq {β : Type} [DecidableEq β] : ∀ (a b : List β), a.length = b.length → (a.zip b).any (fun p => !decide (p.1 = p.2)) = !decide (a = b)
  | [], [], _ => by simp
  | [], _ :: _, h => by simp at h
  | _ :: _, [], h => by simp at h
  | x :: a, y :: b, h => by
    rw [List.zip_cons_cons, List.any_cons, any_eq a b (by simpa using h)]
    by_cases c : x = y <;> by_cases c2 : a = b <;> simp [c, c2]
theorem zip_at {β γ : Type} {a : List β} {b : List γ} {k : Nat} (h : k < (a.zip b).length) : (a.zip b)[k] = (a[k]'(by simp at h; omega), b[k]'(by simp at h; omega)) := by simp
theorem eqStoredS_pf {α : Type} (a b : List DS) (h : a.length ≤ 1073741824) (k : Bool → Option α) : laws_eqStoredS.pf (tot fun x => decide (x.1 = x.2)) BIG a b k = k (decide (a = b)) := by
  unfold laws_eqStoredS.pf
  by_cases c : a.length = b.length
  · rw [show (((a.length : Nat) : Int) != ((b.length : Nat) : Int)) = false by simp [c], cond_false]
    have hz : (a.zip b).length = a.length := by simp [c]
    rw [iter_first (a.zip b) (fun i => (i : Int)) (fun p => !decide (p.1 = p.2)) (fun _ _ => k false) (k true) (x := 0) rfl (big_lt (by omega)) ?_ ?_, firstOr_const, any_eq a b c]
    · by_cases e : a = b <;> simp [e]
    · intro i hi rec
      have h1 : i < a.length := by omega
      have h2 : i < b.length := by omega
      unfold laws_eqStoredS.B1
      rw [zip_at hi]
      simp only [decT (show (i : Int) < (a.length : Int) by omega), inB_nat h1, inB_nat h2, cond_true, Int.toNat_natCast, getD_lt h1, getD_lt h2, tot_eq, Option.bind_some, w64n (show i < 9223372036854775807 by omega)]
    · intro rec
      unfold laws_eqStoredS.B1
      rw [decF (by omega)]
      rfl
  · rw [show (((a.length : Nat) : Int) != ((b.length : Nat) : Int)) = true by simpa using fun q => c (by omega), cond_true]
    rw [decF (fun e => c (by rw [e]))]
theorem s_eqStoredS : laws_eqStoredS.S (cl PL1 fun x => decide (x.1 = x.2)) := laws_eqStoredS.of_cl s_eqStored fun x h => eqStoredS_pf x.1 x.2 h
theorem eqRack_pf {α : Type} (a b : List (List DS)) (h : Bd a) (k : Bool → Option α) : laws_eqRack.pf (cl PL1 fun x => decide (x.1 = x.2)) BIG a b k = k (decide (a = b)) := by
  have hl := h.len
  unfold laws_eqRack.pf
  by_cases c : a.length = b.length
  · rw [show (((a.length : Nat) : Int) != ((b.length : Nat) : Int)) = false by simp [c], cond_false]
    have hz : (a.zip b).length = a.length := by simp [c]
    rw [iter_first (a.zip b) (fun i => (i : Int)) (fun p => !decide (p.1 = p.2)) (fun _ _ => k false) (k true) (x := 0) rfl (big_lt (by omega)) ?_ ?_, firstOr_const, any_eq a b c]
    · by_cases e : a = b <;> simp [e]
    · intro i hi rec
      have h1 : i < a.length := by omega
      have h2 : i < b.length := by omega
      unfold laws_eqRack.B1
      rw [zip_at hi]
      simp only [decT (show (i : Int) < (a.length : Int) by omega), inB_nat h1, inB_nat h2, cond_true, Int.toNat_natCast, getD_lt h1, getD_lt h2, cl_eq (show PL1 (a[i], b[i]) from h.at h1), Option.bind_some, w64n (show i < 9223372036854775807 by omega)]
    · intro rec
      unfold laws_eqRack.B1
      rw [decF (by omega)]
      rfl
  · rw [show (((a.length : Nat) : Int) != ((b.length : Nat) : Int)) = true by simpa using fun q => c (by omega), cond_true]
    rw [decF (fun e => c (by rw [e]))]
theorem s_eqRack : laws_eqRack.S (cl Bd1 fun x => decide (x.1 = x.2)) := laws_eqRack.of_cl s_eqStoredS fun x h => eqRack_pf x.1 x.2 h
def validB (b : DB) : Bool := decide (1 ≤ b.1) && decide (b.1 ≤ 20) && (decide (1900 ≤ b.2) && decide (b.2 ≤ 2099))
def validS (s : DS) : Bool := validB s.1 && (decide (0 ≤ s.2) && decide (s.2 ≤ 2000))
def validR (r : List (List DS)) : Bool := decide (r.length ≤ 8) && r.all fun l => decide (l.length ≤ 6) && l.all validS
/-- Whole numbers of their kinds. -/
def wB (b : DB) : Prop := 0 ≤ b.1 ∧ b.1 ≤ 255 ∧ -32768 ≤ b.2 ∧ b.2 ≤ 32767
def wS (s : DS) : Prop := wB s.1 ∧ -32768 ≤ s.2 ∧ s.2 ≤ 32767
def wL (l : List DS) : Prop := PL l ∧ ∀ s, s ∈ l → wS s
def wR (r : List (List DS)) : Prop := Bd r ∧ ∀ l, l ∈ r → ∀ s, s ∈ l → wS s
theorem wR.at {r : List (List DS)} (h : wR r) {k : Nat} (hk : k < r.length) : wL r[k] := ⟨h.1.pl hk, h.2 _ (List.getElem_mem hk)⟩
theorem wL.at {l : List DS} (h : wL l) {k : Nat} (hk : k < l.length) : wS l[k] := h.2 _ (List.getElem_mem hk)
theorem s_l00In : spec_l00In.S (tot fun x => decide (x.2.1 ≤ x.1) && decide (x.1 ≤ x.2.2)) := spec_l00In.of_tot fun x k => by
  unfold spec_l00In.pf
  by_cases c : x.2.1 ≤ x.1
  · rw [decT (show x.1 ≥ x.2.1 from c)]; rfl
  · rw [decF (show ¬ x.1 ≥ x.2.1 from c)]; rfl
theorem s_within : impl_within.S (tot fun x => decide (x.2.1 ≤ x.1) && decide (x.1 ≤ x.2.2)) := impl_within.of_tot fun x k => by
  unfold impl_within.pf
  by_cases c : x.2.1 ≤ x.1
  · rw [decT c]; rfl
  · rw [decF c]; rfl
theorem s_l01Bottle : spec_l01Bottle.S (cl wB validB) := spec_l01Bottle.of_cl s_l00In fun x ⟨h1, h2, h3, h4⟩ k => by
  unfold spec_l01Bottle.pf validB
  simp only [tot_eq, Option.bind_some, w64 (n := x.1) (by omega) (by omega), w64 (n := x.2) (by omega) (by omega)]
  cases decide (1 ≤ x.1) && decide (x.1 ≤ 20) <;> rfl
theorem s_ValidBottle : impl_ValidBottle.S (cl wB validB) := impl_ValidBottle.of_cl s_within fun x ⟨h1, h2, h3, h4⟩ k => by
  unfold impl_ValidBottle.pf validB
  simp only [tot_eq, Option.bind_some, w64 (n := x.1) (by omega) (by omega), w64 (n := x.2) (by omega) (by omega)]
  cases decide (1 ≤ x.1) && decide (x.1 ≤ 20) <;> rfl
theorem s_l04Stored : spec_l04Stored.S (cl wS validS) := spec_l04Stored.of_cl s_l01Bottle s_l00In fun x ⟨h1, h2, h3⟩ k => by
  unfold spec_l04Stored.pf validS
  rw [cl_eq h1, w64 (n := x.2) (by omega) (by omega)]
  simp only [tot_eq, Option.bind_some]
  cases validB x.1 <;> rfl
theorem s_validStored : impl_validStored.S (cl wS validS) := impl_validStored.of_cl s_ValidBottle s_within fun x ⟨h1, h2, h3⟩ k => by
  unfold impl_validStored.pf validS
  rw [cl_eq h1, w64 (n := x.2) (by omega) (by omega)]
  simp only [tot_eq, Option.bind_some]
  cases validB x.1 <;> rfl
theorem any_not {β : Type} (l : List β) (p : β → Bool) : (l.any fun x => !p x) = !l.all p := by
  induction l with
  | nil => rfl
  | cons x l ih => rw [List.any_cons, List.all_cons, ih, Bool.not_and]
theorem s_l04All : spec_l04All.S (cl wL fun l => l.all validS) := spec_l04All.of_cl s_l04Stored fun x h k => by
  have hl : x.length ≤ 1073741824 := h.1
  unfold spec_l04All.pf
  rw [iter_first x (fun i => (i : Int)) (fun s => !validS s) (fun _ _ => k false) (k true) (x := 0) rfl (big_lt (by omega)) ?_ ?_, firstOr_const, any_not]
  · cases x.all validS <;> rfl
  · intro i hi rec
    unfold spec_l04All.B1
    simp only [decT (show (i : Int) < (x.length : Int) by omega), inB_nat hi, cond_true, Int.toNat_natCast, getD_lt hi, cl_eq (h.at hi), Option.bind_some, w64n (show i < 9223372036854775807 by omega)]
  · intro rec
    unfold spec_l04All.B1
    rw [decF (by omega)]
    rfl
theorem s_l04Ok : spec_l04Ok.S (cl wR validR) := spec_l04Ok.of_cl s_l04All fun x h k => by
  have hl := h.1.len
  unfold spec_l04Ok.pf
  rw [iter_first x (fun i => (i : Int)) (fun l => !(decide (l.length ≤ 6) && l.all validS)) (fun _ _ => k false) (k (decide (x.length ≤ 8))) (x := 0) rfl (big_lt (by omega)) ?_ ?_, firstOr_const, any_not]
  · unfold validR
    cases x.all fun l => decide (l.length ≤ 6) && l.all validS
    · rw [Bool.and_false]; rfl
    · rw [Bool.and_true]; rfl
  · intro i hi rec
    have := h.1.at hi
    unfold spec_l04Ok.B1
    simp only [decT (show (i : Int) < (x.length : Int) by omega), inB_nat hi, cond_true, Int.toNat_natCast, getD_lt hi, cl_eq (h.at hi), Option.bind_some, w64n (show i < 9223372036854775807 by omega)]
    by_cases c : x[i].length ≤ 6
    · rw [decF (show ¬ ((x[i].length : Int) > 6) by omega), decT c]; rfl
    · rw [decT (show ((x[i].length : Int) > 6) by omega), decF c]; rfl
  · intro rec
    unfold spec_l04Ok.B1
    rw [decF (by omega)]
    simp only [cond_false]
    congr 1
    by_cases c : x.length ≤ 8
    · rw [decT c, decT (by omega)]
    · rw [decF c, decF (by omega)]
theorem s_ValidRack_1_1 : impl_ValidRack_1_1.S (cl wS fun s => !validS s) := impl_ValidRack_1_1.of_cl s_validStored fun x h k => by
  unfold impl_ValidRack_1_1.pf
  rw [cl_eq h]; rfl
/-- Where the first one is. -/
def indexI {β : Type} (p : β → Bool) (l : List β) : Int := match l.findIdx? p with
  | some i => i
  | none => -1
theorem firstOr_index {α β : Type} (p : β → Bool) (k : Int → Option α) : ∀ (l : List β) (j : Nat), firstOr p (fun i _ => k (i : Int)) (k (-1)) j l = k (match l.findIdx? p with | some i => ((j + i : Nat) : Int) | none => -1)
  | [], _ => rfl
  | x :: l, j => by
    rw [firstOr, List.findIdx?_cons]
    cases p x with
    | true => simp
    | false =>
      rw [cond_false, firstOr_index p k l]
      cases l.findIdx? p with
      | none => rfl
      | some i => simp [Nat.add_assoc, Nat.add_comm 1 i]
theorem indexI_nn {β : Type} (p : β → Bool) (l : List β) : decide (indexI p l ≥ 0) = l.any p := by
  unfold indexI
  cases h : l.findIdx? p with
  | none =>
    have := List.findIdx?_eq_none_iff.1 h
    simp only
    rw [decF (by omega)]
    symm
    rw [List.any_eq_false]
    intro x hx
    simpa using this x hx
  | some i =>
    simp only
    rw [decT (by omega)]
    symm
    obtain ⟨hi, hp, _⟩ := List.findIdx?_eq_some_iff_getElem.1 h
    exact List.any_eq_true.2 ⟨_, List.getElem_mem hi, hp⟩
theorem s_index_1_1 : slices_IndexFunc_impl_Stored_impl_Stored__impl_ValidRack_1_1.S (cl wL fun l => indexI (fun s => !validS s) l) :=
  slices_IndexFunc_impl_Stored_impl_Stored__impl_ValidRack_1_1.of_cl s_ValidRack_1_1 fun x h k => by
  have hl : x.length ≤ 1073741824 := h.1
  unfold slices_IndexFunc_impl_Stored_impl_Stored__impl_ValidRack_1_1.pf
  rw [iter_first x (fun i => (i : Int)) (fun s => !validS s) (fun i _ => k (i : Int)) (k (-1)) (x := 0) rfl (big_lt (by omega)) ?_ ?_, firstOr_index]
  · unfold indexI
    congr 1
    cases x.findIdx? fun s => !validS s <;> simp
  · intro i hi rec
    unfold slices_IndexFunc_impl_Stored_impl_Stored__impl_ValidRack_1_1.B1
    simp only [decT (show (i : Int) < (x.length : Int) by omega), inB_nat hi, cond_true, Int.toNat_natCast, getD_lt hi, cl_eq (h.at hi), Option.bind_some, w64n (show i < 9223372036854775807 by omega)]
  · intro rec
    unfold slices_IndexFunc_impl_Stored_impl_Stored__impl_ValidRack_1_1.B1
    rw [decF (by omega)]
    rfl
theorem s_contains_1_1 : slices_ContainsFunc_impl_Stored_impl_Stored__impl_ValidRack_1_1.S (cl wL fun l => !l.all validS) :=
  slices_ContainsFunc_impl_Stored_impl_Stored__impl_ValidRack_1_1.of_cl s_index_1_1 fun x h k => by
  unfold slices_ContainsFunc_impl_Stored_impl_Stored__impl_ValidRack_1_1.pf
  rw [cl_eq h, Option.bind_some, indexI_nn, any_not]
theorem s_ValidRack_1 : impl_ValidRack_1.S (cl wL fun l => !(decide (l.length ≤ 6) && l.all validS)) := impl_ValidRack_1.of_cl s_contains_1_1 fun x h k => by
  unfold impl_ValidRack_1.pf
  have hl : x.length ≤ 1073741824 := h.1
  by_cases c : x.length ≤ 6
  · rw [decF (show ¬ ((x.length : Int) > 6) by omega), decT c, cl_eq h]; rfl
  · rw [decT (show ((x.length : Int) > 6) by omega), decF c]; rfl
theorem s_index_1 : slices_IndexFunc_impl_Rack_impl_Stored__impl_ValidRack_1.S (cl wR fun r => indexI (fun l => !(decide (l.length ≤ 6) && l.all validS)) r) :=
  slices_IndexFunc_impl_Rack_impl_Stored__impl_ValidRack_1.of_cl s_ValidRack_1 fun x h k => by
  have hl := h.1.len
  unfold slices_IndexFunc_impl_Rack_impl_Stored__impl_ValidRack_1.pf
  rw [iter_first x (fun i => (i : Int)) (fun l => !(decide (l.length ≤ 6) && l.all validS)) (fun i _ => k (i : Int)) (k (-1)) (x := 0) rfl (big_lt (by omega)) ?_ ?_, firstOr_index]
  · unfold indexI
    congr 1
    cases x.findIdx? fun l => !(decide (l.length ≤ 6) && l.all validS) <;> simp
  · intro i hi rec
    unfold slices_IndexFunc_impl_Rack_impl_Stored__impl_ValidRack_1.B1
    simp only [decT (show (i : Int) < (x.length : Int) by omega), inB_nat hi, cond_true, Int.toNat_natCast, getD_lt hi, cl_eq (h.at hi), Option.bind_some, w64n (show i < 9223372036854775807 by omega)]
  · intro rec
    unfold slices_IndexFunc_impl_Rack_impl_Stored__impl_ValidRack_1.B1
    rw [decF (by omega)]
    rfl
theorem s_contains_1 : slices_ContainsFunc_impl_Rack_impl_Stored__impl_ValidRack_1.S (cl wR fun r => !r.all fun l => decide (l.length ≤ 6) && l.all validS) :=
  slices_ContainsFunc_impl_Rack_impl_Stored__impl_ValidRack_1.of_cl s_index_1 fun x h k => by
  unfold slices_ContainsFunc_impl_Rack_impl_Stored__impl_ValidRack_1.pf
  rw [cl_eq h, Option.bind_some, indexI_nn, any_not]
theorem s_impl_ValidRack : impl_ValidRack.S (cl wR validR) := impl_ValidRack.of_cl s_contains_1 fun x h k => by
  unfold impl_ValidRack.pf validR
  have hl := h.1.len
  by_cases c : x.length ≤ 8
  · rw [decT (show ((x.length : Int) ≤ 8) by omega), decT c, cl_eq h]; simp
  · rw [decF (show ¬ ((x.length : Int) ≤ 8) by omega), decF c]; rfl
theorem good_B {b : DB} (h : goodV (.st (.pair (.int .u8) (.int .i16))) b) : wB b := by
  obtain ⟨h1, h2⟩ := h
  simp only [goodV, Lit.wf, IntKind.min, IntKind.max, IntKind.bits, IntKind.signed] at h1 h2
  simp at h1 h2
  unfold wB
  omega
theorem good_S {s : DS} (h : goodV (.st (.pair (.st (.pair (.int .u8) (.int .i16))) (.int .i16))) s) : wS s := by
  obtain ⟨h1, h2⟩ := h
  refine ⟨good_B h1, ?_⟩
  simp only [goodV, Lit.wf, IntKind.min, IntKind.max, IntKind.bits, IntKind.signed] at h2
  simp at h2
  omega
/-- What comes in. -/
def gR (r : List (List DS)) : Prop := r.length ≤ maxLen ∧ (∀ l, l ∈ r → l.length ≤ maxLen) ∧ ∀ l, l ∈ r → ∀ s, s ∈ l → wS s
theorem good_rack {e e' : TypeId} {r : List (List DS)} (h : goodV (.row e (.row e' (.st (.pair (.st (.pair (.int .u8) (.int .i16))) (.int .i16))))) r) : gR r := by
  obtain ⟨h1, h2⟩ := h
  have h3 : ∀ l, l ∈ r → goodV (.row e' (.st (.pair (.st (.pair (.int .u8) (.int .i16))) (.int .i16)))) l := fun l hl => by
    obtain ⟨i, hi, rfl⟩ := List.mem_iff_getElem.1 hl
    have := h2 i hi
    rwa [getD_lt hi] at this
  refine ⟨h1, fun l hl => (h3 l hl).1, fun l hl s hs => ?_⟩
  obtain ⟨i, hi, rfl⟩ := List.mem_iff_getElem.1 hs
  have := (h3 l hl).2 i hi
  rw [getD_lt hi] at this
  exact good_S this
theorem gR.sz {r : List (List DS)} (h : gR r) : PszR (r, 1048576) := ⟨h.1, h.2.1, by simp, by simp⟩
theorem gR.w {r : List (List DS)} (h : gR r) (c : ¬ vszR (r, 1048576) < 0) : wR r := ⟨(sz_bd (by omega) (by omega) c).1, h.2.2⟩
theorem bneS (a : Int) : (a != a) = false := by simp
theorem valid_lane {r : List (List DS)} (hw : validR r = true) {n : Nat} (hn : n < r.length) : r[n].length ≤ 6 := by
  unfold validR at hw
  simp only [Bool.and_eq_true, List.all_eq_true, decide_eq_true_eq] at hw
  exact (hw.2 _ (List.getElem_mem hn)).1
def cnt (l : List DS) (d : Int) : Int := match l with
  | [] => 0
  | s :: l => (if s.2 < d then 1 else 0) + cnt l d
theorem cnt_bd : ∀ (l : List DS) (d : Int), 0 ≤ cnt l d ∧ cnt l d ≤ l.length
  | [], d => by simp [cnt]
  | s :: l, d => by
    have := cnt_bd l d
    unfold cnt
    simp only [List.length_cons]
    split <;> omega
/-- Of the rest of a lane, behind what came first. -/
def blkL (pre : List DS) : List DS → Int
  | [] => 0
  | s :: l => cnt pre s.2 + blkL (pre ++ [s]) l
theorem blkL_bd : ∀ (l pre : List DS), 0 ≤ blkL pre l ∧ blkL pre l ≤ (pre.length + l.length) * l.length
  | [], pre => by simp [blkL]
  | s :: l, pre => by
    have h1 := blkL_bd l (pre ++ [s])
    have h2 := cnt_bd pre s.2
    unfold blkL
    refine ⟨by omega, ?_⟩
    have e : ((pre.length + (s :: l).length : Nat) : Int) * ((s :: l).length : Nat) = ((pre.length + l.length + 1 : Nat) : Int) * (l.length : Nat) + (pre.length + l.length + 1 : Nat) := by
      simp only [List.length_cons]
      rw [show (pre.length + (l.length + 1)) = pre.length + l.length + 1 by omega]
      push_cast
      rw [Int.mul_add]
      omega
    simp only [List.length_append, List.length_cons, List.length_nil] at h1
    have h3 : ((pre.length + (0 + 1) + l.length : Nat) : Int) * (l.length : Nat) = ((pre.length + l.length + 1 : Nat) : Int) * (l.length : Nat) := by
      rw [show pre.length + (0 + 1) + l.length = pre.length + l.length + 1 by omega]
    push_cast at *
    omega
def blkR : List (List DS) → Int
  | [] => 0
  | l :: r => blkL [] l + blkR r
def blockedIn (r : List (List DS)) : Int × Int := if validR r = true then (blkR r, 0) else (0, 1)
theorem s_blocked : impl_blocked.S (cl PL1 fun x => cnt x.1 x.2) := impl_blocked.of_cl fun x h k => by
  obtain ⟨l, d⟩ := x
  have hl : l.length ≤ 1073741824 := h
  show impl_blocked.pf BIG l d k = k (cnt l d)
  unfold impl_blocked.pf
  refine (iter_list l (fun i (c : Int) => (c, (i : Int))) (fun q c => k (c + cnt q d)) (fun i c => 0 ≤ c ∧ c ≤ i) (c := 0) rfl (big_lt (by omega)) ⟨by omega, by omega⟩ ?_ ?_).trans (by rw [Int.zero_add])
  · rintro i hi c rec ⟨h1, h2⟩ hrec
    unfold impl_blocked.B1
    simp only [decT (show (i : Int) < (l.length : Int) by omega), inB_nat hi, cond_true, Int.toNat_natCast, getD_lt hi, w64n (show i < 9223372036854775807 by omega), w64 (show -9223372036854775808 ≤ c + 1 by omega) (by omega), cnt]
    by_cases q : l[i].2 < d
    · rw [decT q, if_pos q, cond_true]
      refine (hrec _ (by omega)).trans (by rw [Int.add_assoc])
    · rw [decF q, if_neg q, cond_false]
      refine (hrec _ (by omega)).trans (by rw [Int.zero_add])
  · rintro c rec _
    unfold impl_blocked.B1
    rw [decF (by simp only; omega)]
    simp [cnt]
theorem spec_blk3 {α : Type} (r : List (List DS)) (i j : Nat) (hi : i < r.length) (hj : j < r[i].length) (c0 : Int) (h0 : 0 ≤ c0) (h1 : c0 ≤ 1000000000) (hl : r[i].length ≤ 1073741824) (K : Int × Int → Option α) :
    iter (spec_BlockedIn.B3 (i : Int) (j : Int) r K) BIG (c0, 0) = K (c0 + cnt (r[i].take j) r[i][j].2, (j : Int)) := by
  have hlen : (r[i].take j).length = j := by rw [List.length_take]; omega
  refine iter_list (r[i].take j) (fun p (c : Int) => (c, (p : Int))) (fun q c => K (c + cnt q r[i][j].2, (j : Int))) (fun p c => 0 ≤ c ∧ c ≤ c0 + p) (c := c0) rfl (big_lt (by omega)) ⟨by omega, by omega⟩ ?_ ?_
  · rintro p hp c rec ⟨h2, h3⟩ hrec
    have hpj : p < j := by omega
    have hpl : p < r[i].length := by omega
    unfold spec_BlockedIn.B3
    simp only [decT (show (p : Int) < (j : Int) by omega), inB_nat hi, cond_true, Int.toNat_natCast, getD_lt hi, inB_nat hj, getD_lt hj, inB_nat hpl, getD_lt hpl, w64n (show p < 9223372036854775807 by omega), w64 (show -9223372036854775808 ≤ c + 1 by omega) (by omega), cnt, List.getElem_take]
    by_cases q : r[i][p].2 < r[i][j].2
    · rw [decT (show r[i][j].2 > r[i][p].2 from q), if_pos q, cond_true]
      refine (hrec _ (by omega)).trans (by rw [Int.add_assoc])
    · rw [decF (show ¬ r[i][j].2 > r[i][p].2 from q), if_neg q, cond_false]
      refine (hrec _ (by omega)).trans (by rw [Int.zero_add])
  · rintro c rec _
    unfold spec_BlockedIn.B3
    rw [decF (by simp only [hlen]; omega)]
    simp [cnt, hlen]
theorem take_app {β : Type} {l : List β} {k : Nat} (h : k < l.length) : l.take k ++ [l[k]] = l.take (k + 1) := by rw [List.take_succ_eq_append_getElem h]
theorem spec_blk2 {α : Type} (r : List (List DS)) (i : Nat) (hi : i < r.length) (c0 : Int) (h0 : 0 ≤ c0) (h1 : c0 ≤ 1000000) (hl : r[i].length ≤ 6) (K : Int × Int → Option α) :
    iter (spec_BlockedIn.B2 BIG (i : Int) r K) BIG (c0, 0) = K (c0 + blkL [] r[i], (r[i].length : Int)) := by
  refine (iter_list r[i] (fun p (c : Int) => (c, (p : Int))) (fun q c => K (c + blkL (r[i].take (r[i].length - q.length)) q, (r[i].length : Int))) (fun p c => 0 ≤ c ∧ c ≤ c0 + 6 * p) (c := c0) rfl (big_lt (by omega)) ⟨by omega, by omega⟩ ?_ ?_).trans (by simp)
  · rintro p hp c rec ⟨h2, h3⟩ hrec
    have e1 : r[i].length - (r[i].drop (p + 1)).length = p + 1 := by rw [List.length_drop]; omega
    have e2 : r[i].length - (r[i][p] :: r[i].drop (p + 1)).length = p := by rw [List.length_cons, List.length_drop]; omega
    unfold spec_BlockedIn.B2
    simp only [inB_nat hi, cond_true, Int.toNat_natCast, getD_lt hi, decT (show (p : Int) < (r[i].length : Int) by omega), spec_blk3 r i p hi hp c (by omega) (by omega) (by omega), w64n (show p < 9223372036854775807 by omega)]
    have hb := cnt_bd (r[i].take p) r[i][p].2
    rw [List.length_take] at hb
    refine (hrec _ (by omega)).trans ?_
    simp only [e1, e2, blkL, take_app hp, Int.add_assoc]
  · rintro c rec _
    unfold spec_BlockedIn.B2
    simp only [inB_nat hi, cond_true, Int.toNat_natCast, getD_lt hi]
    rw [decF (by omega)]
    simp [blkL]
theorem valid_len {r : List (List DS)} (hw : validR r = true) : r.length ≤ 8 := by
  unfold validR at hw
  simp only [Bool.and_eq_true, decide_eq_true_eq] at hw
  exact hw.1
theorem s_spec_BlockedIn : spec_BlockedIn.S (cl wR blockedIn) := spec_BlockedIn.of_cl s_l04Ok fun r h k => by
  have hl := h.1.len
  unfold spec_BlockedIn.pf blockedIn
  rw [cl_eq h, Option.bind_some]
  cases hv : validR r with
  | false => rfl
  | true =>
    simp only [Bool.not_true, cond_false, if_true]
    refine (iter_list r (fun p (c : Int) => (c, (p : Int))) (fun q c => k (c + blkR q, 0)) (fun p c => 0 ≤ c ∧ c ≤ 36 * p) (c := 0) rfl (big_lt (by omega)) ⟨by omega, by omega⟩ ?_ ?_).trans (by rw [Int.zero_add])
    · rintro p hp c rec ⟨h2, h3⟩ hrec
      have := valid_len hv
      have h6 := valid_lane hv hp
      unfold spec_BlockedIn.B1
      simp only [decT (show (p : Int) < (r.length : Int) by omega), cond_true, spec_blk2 r p hp c (by omega) (by omega) h6, w64n (show p < 9223372036854775807 by omega)]
      have hb := blkL_bd r[p] []
      have : ((r[p].length : Nat) : Int) * (r[p].length : Nat) ≤ 6 * 6 := Int.mul_le_mul (by omega) (by omega) (by omega) (by omega)
      simp only [List.length_nil, Nat.zero_add, Int.ofNat_zero, Int.zero_add] at hb
      refine (hrec _ (by push_cast at *; omega)).trans ?_
      simp only [blkR, Int.add_assoc]
    · rintro c rec _
      unfold spec_BlockedIn.B1
      rw [decF (by simp only; omega)]
      simp [blkR]
theorem impl_blk2 {α : Type} (r : List (List DS)) (i : Nat) (hi : i < r.length) (c0 : Int) (h0 : 0 ≤ c0) (h1 : c0 ≤ 1000000) (hl : r[i].length ≤ 6) (n : Int) (K : Int × Int → Option α) :
    iter (impl_BlockedIn.B2 (cl PL1 fun x => cnt x.1 x.2) i n (i : Int) i ((r[i].length : Nat) : Int) r K) BIG (c0, 0) = K (c0 + blkL [] r[i], (r[i].length : Int)) := by
  refine (iter_list r[i] (fun p (c : Int) => (c, (p : Int))) (fun q c => K (c + blkL (r[i].take (r[i].length - q.length)) q, (r[i].length : Int))) (fun p c => 0 ≤ c ∧ c ≤ c0 + 6 * p) (c := c0) rfl (big_lt (by omega)) ⟨by omega, by omega⟩ ?_ ?_).trans (by simp)
  · rintro p hp c rec ⟨h2, h3⟩ hrec
    have e1 : r[i].length - (r[i].drop (p + 1)).length = p + 1 := by rw [List.length_drop]; omega
    have e2 : r[i].length - (r[i][p] :: r[i].drop (p + 1)).length = p := by rw [List.length_cons, List.length_drop]; omega
    have hb := cnt_bd (r[i].take p) r[i][p].2
    rw [List.length_take] at hb
    unfold impl_BlockedIn.B2
    simp only [cond_true, Int.toNat_natCast, getD_lt hi, decT (show (p : Int) < (r[i].length : Int) by omega), inB_nat hp, getD_lt hp, inW_true (show (0 : Int) ≤ 0 by omega) (show (0 : Int) ≤ (p : Int) by omega) (show (p : Int) ≤ (r[i].length : Int) by omega), Int.sub_zero, List.drop_zero, w64n (show p < 9223372036854775807 by omega)]
    rw [cl_eq (show PL1 (r[i].take p, r[i][p].2) from by unfold PL1; simp only [List.length_take]; omega), Option.bind_some, w64 (by simp only; omega) (by simp only; omega)]
    refine (hrec _ (by simp only; omega)).trans ?_
    simp only [e1, e2, blkL, take_app hp, Int.add_assoc]
  · rintro c rec _
    unfold impl_BlockedIn.B2
    rw [decF (by simp only; omega)]
    simp [blkL]
theorem s_impl_BlockedIn : impl_BlockedIn.S (cl wR blockedIn) := impl_BlockedIn.of_cl s_impl_ValidRack s_blocked fun r h k => by
  have hl := h.1.len
  unfold impl_BlockedIn.pf blockedIn
  rw [cl_eq h, Option.bind_some]
  cases hv : validR r with
  | false => rfl
  | true =>
    simp only [Bool.not_true, cond_false, if_true]
    refine (iter_list r (fun p (c : Int) => (c, (p : Int))) (fun q c => k (c + blkR q, 0)) (fun p c => 0 ≤ c ∧ c ≤ 36 * p) (c := 0) rfl (big_lt (by omega)) ⟨by omega, by omega⟩ ?_ ?_).trans (by rw [Int.zero_add])
    · rintro p hp c rec ⟨h2, h3⟩ hrec
      have := valid_len hv
      have h6 := valid_lane hv hp
      unfold impl_BlockedIn.B1
      simp only [decT (show (p : Int) < (r.length : Int) by omega), inB_nat hp, cond_true, Int.toNat_natCast, getD_lt hp, impl_blk2 r p hp c (by omega) (by omega) h6, w64n (show p < 9223372036854775807 by omega)]
      have hb := blkL_bd r[p] []
      have : ((r[p].length : Nat) : Int) * (r[p].length : Nat) ≤ 6 * 6 := Int.mul_le_mul (by omega) (by omega) (by omega) (by omega)
      simp only [List.length_nil, Nat.zero_add, Int.ofNat_zero, Int.zero_add] at hb
      refine (hrec _ (by push_cast at *; omega)).trans ?_
      simp only [blkR, Int.add_assoc]
    · rintro c rec _
      unfold impl_BlockedIn.B1
      rw [decF (by simp only; omega)]
      simp [blkR]
theorem s_law_BlockedIn : laws_FnExactBlockedIn.S (cl gR fun _ => true) := laws_FnExactBlockedIn.of_cl s_szRack s_toRack s_spec_BlockedIn s_impl_BlockedIn s_eqRack fun r hg k => by
  unfold laws_FnExactBlockedIn.pf
  rw [cl_eq hg.sz, Option.bind_some]
  by_cases c : vszR (r, 1048576) < 0
  · rw [decT c]; rfl
  · have w := hg.w c
    rw [decF c, cond_false]
    simp only [cl_eq w.1, Option.bind_some, cl_eq w, cl_eq (show Bd1 (r, r) from w.1), bneS, cond_false]
    simp
end Go.Proofs.Ytneefjegejlfeaa.G
