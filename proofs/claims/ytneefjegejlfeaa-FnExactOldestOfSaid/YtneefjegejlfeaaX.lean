/- Plain proofs: what the functions answer, in plain lists and numbers. -/
import Derived.Test.YtneefjegejlfeaaRd0
import Derived.Test.YtneefjegejlfeaaRd1
namespace Go.Proofs.Ytneefjegejlfeaa.G
open Go
set_option linter.unusedVariables false
set_option linter.unusedSimpArgs false
set_option maxRecDepth 10000
abbrev DB := Int × Int
abbrev DS := DB × Int
abbrev dS : DS := ((0, 0), 0)
theorem s_toBottle : laws_toBottle.S (tot fun x => x) := laws_toBottle.of_tot fun x k => rfl
theorem s_toStored : laws_toStored.S (tot fun x => x) := laws_toStored.of_tot s_toBottle fun x k => rfl
/-- A copy, element by element. -/
theorem copied {β : Type} {l o : List β} {k : Nat} {d : β} (h : k < l.length) (ho : o.length = l.length) (hp : o.take k = l.take k) : (o.set k l[k]).take (k + 1) = l.take (k + 1) ∧ (o.set k l[k]).length = l.length := by
  refine ⟨?_, by simpa using ho⟩
  rw [List.take_succ_eq_append_getElem (by simpa [ho] using h), List.take_succ_eq_append_getElem h, List.take_set_of_le (Nat.le_refl k), hp]
  simp
theorem toStoredS_pf {α : Type} (l : List DS) (h : l.length ≤ 1073741824) (k : List DS → Option α) : laws_toStoredS.pf (tot fun x => x) BIG l k = k l := by
  unfold laws_toStoredS.pf
  rw [inW_true (by omega) (by omega) (by unfold LIM; omega)]
  simp only [cond_true]
  refine (iter_list (B := laws_toStoredS.B1 (tot fun x => x) l fun x1 => k x1.2) l (fun i (c : List DS) => ((i : Int), c)) (fun _ _ => k l) (fun i c => c.length = l.length ∧ c.take i = l.take i) (c := List.replicate l.length dS) (by simp) (big_lt (by omega)) (by simp) ?_ ?_)
  · rintro i hi c rec ⟨h1, h2⟩ hrec
    unfold laws_toStoredS.B1
    simp only [decT (show (i : Int) < (l.length : Int) by omega), inB_nat hi, inB_nat (h1 ▸ hi : i < c.length), cond_true, Int.toNat_natCast, getD_lt hi, tot_eq, Option.bind_some, w64n (show i < 9223372036854775807 by omega)]
    have := copied (d := dS) hi h1 h2
    exact hrec _ ⟨this.2, this.1⟩
  · rintro c rec ⟨h1, h2⟩
    unfold laws_toStoredS.B1
    rw [decF (by omega)]
    rw [List.take_of_length_le (by omega), List.take_of_length_le (Nat.le_refl _)] at h2
    simp only [cond_false, h2]
theorem s_toStoredS : laws_toStoredS.S (cl PL fun l => l) := laws_toStoredS.of_cl s_toStored fun x h => toStoredS_pf x h
theorem toRack_pf {α : Type} (l : List (List DS)) (h : Bd l) (k : List (List DS) → Option α) : laws_toRack.pf (cl PL fun l => l) BIG l k = k l := by
  have hl := h.len
  unfold laws_toRack.pf
  rw [inW_true (by omega) (by omega) (by unfold LIM; omega)]
  simp only [cond_true]
  refine (iter_list (B := laws_toRack.B1 (cl PL fun l => l) l fun x1 => k x1.2) l (fun i (c : List (List DS)) => ((i : Int), c)) (fun _ _ => k l) (fun i c => c.length = l.length ∧ c.take i = l.take i) (c := List.replicate l.length []) (by simp) (big_lt (by omega)) (by simp) ?_ ?_)
  · rintro i hi c rec ⟨h1, h2⟩ hrec
    unfold laws_toRack.B1
    simp only [decT (show (i : Int) < (l.length : Int) by omega), inB_nat hi, inB_nat (h1 ▸ hi : i < c.length), cond_true, Int.toNat_natCast, getD_lt hi, cl_eq (h.pl hi), Option.bind_some, w64n (show i < 9223372036854775807 by omega)]
    have := copied (d := ([] : List DS)) hi h1 h2
    exact hrec _ ⟨this.2, this.1⟩
  · rintro c rec ⟨h1, h2⟩
    unfold laws_toRack.B1
    rw [decF (by omega)]
    rw [List.take_of_length_le (by omega), List.take_of_length_le (Nat.le_refl _)] at h2
    simp only [cond_false, h2]
theorem s_toRack : laws_toRack.S (cl Bd fun l => l) :=
  laws_toRack.of_cl s_toStoredS fun x h => toRack_pf x h
def Psz (x : List DS × Int) : Prop := x.1.length ≤ maxLen ∧ 0 ≤ x.2 ∧ x.2 ≤ 1048576
def vsz (x : List DS × Int) : Int := if x.2 < x.1.length then -1 else x.2 - x.1.length
theorem s_szStoredS : laws_szStoredS.S (cl Psz vsz) :=
  laws_szStoredS.of_cl fun x ⟨h1, h2, h3⟩ k => by
    unfold maxLen at h1
    unfold laws_szStoredS.pf vsz
    rw [w64 (by omega) (by omega)]
    by_cases c : x.2 < x.1.length
    · rw [decT (by omega), if_pos c]; rfl
    · rw [decF (by omega), if_neg c]; rfl
/-- What is left over. -/
def szL (n : Int) : List (List DS) → Int
  | [] => n
  | x :: l => if n < x.length then -1 else szL (n - x.length) l
theorem szRack_pf {α : Type} (l : List (List DS)) (n : Int) (h : l.length ≤ maxLen) (hr : ∀ x, x ∈ l → x.length ≤ maxLen) (h0 : 0 ≤ n) (h1 : n ≤ 1048576) (k : Int → Option α) :
    laws_szRack.pf (cl Psz vsz) BIG l n k = k (if n < l.length then -1 else szL (n - l.length) l) := by
  have hl := h
  unfold maxLen at hl
  unfold laws_szRack.pf
  rw [w64 (by omega) (by omega)]
  by_cases c : n < l.length
  · rw [decT (by omega), if_pos c]; rfl
  · rw [decF (by omega), if_neg c, cond_false]
    refine iter_list l (fun i (c : Int) => (c, (i : Int))) (fun r c => k (szL c r)) (fun i c => 0 ≤ c ∧ c ≤ 1048576) (c := n - l.length) rfl (big_lt (by omega)) (by omega) ?_ ?_
    · rintro i hi c rec ⟨h2, h3⟩ hrec
      unfold laws_szRack.B1
      simp only [decT (show (i : Int) < (l.length : Int) by omega), inB_nat hi, cond_true, Int.toNat_natCast, getD_lt hi, cl_eq (show Psz (l[i], c) from ⟨hr _ (List.getElem_mem hi), h2, h3⟩), vsz, Option.bind_some, w64n (show i < 9223372036854775807 by omega), szL]
      by_cases q : c < (l[i].length : Int)
      · simp only [if_pos q]; rfl
      · simp only [if_neg q, decF (show ¬ (c - (l[i].length : Int) < 0) by omega), cond_false]
        exact hrec _ (by omega)
    · rintro c rec _
      unfold laws_szRack.B1
      rw [decF (by omega)]
      rfl
def PszR (x : List (List DS) × Int) : Prop := x.1.length ≤ maxLen ∧ (∀ r, r ∈ x.1 → r.length ≤ maxLen) ∧ 0 ≤ x.2 ∧ x.2 ≤ 1048576
def vszR (x : List (List DS) × Int) : Int := if x.2 < x.1.length then -1 else szL (x.2 - x.1.length) x.1
theorem s_szRack : laws_szRack.S (cl PszR vszR) := laws_szRack.of_cl s_szStoredS fun x ⟨h1, h2, h3, h4⟩ => szRack_pf x.1 x.2 h1 h2 h3 h4
theorem szL_nn : ∀ (l : List (List DS)) (n : Int), 0 ≤ n → 0 ≤ szL n l → szL n l = n - ((l.map List.length).sum : Nat)
  | [], n, _, _ => by simp [szL]
  | x :: l, n, h, h1 => by
    unfold szL at h1 ⊢
    by_cases c : n < x.length
    · rw [if_pos c] at h1; omega
    · rw [if_neg c] at h1 ⊢
      rw [szL_nn l _ (by omega) h1]
      simp
      omega
/-- What went through is small. -/
theorem sz_bd {l : List (List DS)} {n : Int} (h0 : 0 ≤ n) (h1 : n ≤ 1048576) (h : ¬ vszR (l, n) < 0) : Bd l ∧ 0 ≤ vszR (l, n) ∧ vszR (l, n) ≤ 1048576 := by
  unfold vszR at h ⊢
  simp only at h ⊢
  by_cases c : n < l.length
  · rw [if_pos c] at h; omega
  · rw [if_neg c] at h ⊢
    have := szL_nn l (n - l.length) (by omega) (by omega)
    unfold Bd
    omega
theorem eqB (a b : DB) : eqV (.st (.pair (.int .u8) (.int .i16))) a b = decide (a = b) := by
  obtain ⟨a1, a2⟩ := a
  obtain ⟨b1, b2⟩ := b
  simp only [eqV]
  rw [Bool.eq_iff_iff]
  simp
theorem s_eqBottle : laws_eqBottle.S (tot fun x => decide (x.1 = x.2)) := laws_eqBottle.of_tot fun x k => by
  obtain ⟨⟨a1, a2⟩, b1, b2⟩ := x
  unfold laws_eqBottle.pf
  by_cases h1 : a1 = b1
  · by_cases h2 : a2 = b2
    · simp [h1, h2]
    · simp [h1, h2, bneT h2]
  · simp [h1, bneT h1]
theorem s_eqStored : laws_eqStored.S (tot fun x => decide (x.1 = x.2)) := laws_eqStored.of_tot s_eqBottle fun x k => by
  obtain ⟨⟨a1, a2⟩, b1, b2⟩ := x
  unfold laws_eqStored.pf
  by_cases h1 : a1 = b1
  · by_cases h2 : a2 = b2
    · simp [h1, h2, tot]
    · simp [h1, h2, tot, bneT h2]
  · simp [h1, tot]
/-- Lists of one length are alike where no pair of elements differs. -/
theorem any_eq {β : Type} [DecidableEq β] : ∀ (a b : List β), a.length = b.length → (a.zip b).any (fun p => !decide (p.1 = p.2)) = !decide (a = b)
  | [], [], _ => by simp
  | [], _ :: _, h => by simp at h
  | _ :: _, [], h => by simp at h
  | x :: a, y :: b, h => by
    rw [List.zip_cons_cons, List.any_cons, any_eq a b (by simpa using h)]
    by_cases c : x = y <;> by_cases c2 : a = b <;> simp [c, c2]
theorem zip_at {β γ : Type} {a : List β} {b : List γ} {k : Nat} (h : k < (a.zip b).length) : (a.zip b)[k] = (a[k]'(by simp at h; omega), b[k]'(by simp at h; omega)) := by simp
theorem eqStoredS_pf {α : Type} (a b : List DS) (h : a.length ≤ 1073741824) (k : Bool → Option α) : laws_eqStoredS.pf (tot fun x => decide (x.1 = x.2)) BIG a b k = k (decide (a = b)) := by
  unfold laws_eqStoredS.pf
  by_cases c : a.length = b.length
  · rw [show (((a.length : Nat) : Int) != ((b.length : Nat) : Int)) = false by simp [c], cond_false]
    have hz : (a.zip b).length = a.length := by simp [c]
    rw [iter_first (a.zip b) (fun i => (i : Int)) (fun p => !decide (p.1 = p.2)) (fun _ _ => k false) (k true) (x := 0) rfl (big_lt (by omega)) ?_ ?_, firstOr_const, any_eq a b c]
    · by_cases e : a = b <;> simp [e]
    · intro i hi rec
      have h1 : i < a.length := by omega
      have h2 : i < b.length := by omega
      unfold laws_eqStoredS.B1
      rw [zip_at hi]
      simp only [decT (show (i : Int) < (a.length : Int) by omega), inB_nat h1, inB_nat h2, cond_true, Int.toNat_natCast, getD_lt h1, getD_lt h2, tot_eq, Option.bind_some, w64n (show i < 9223372036854775807 by omega)]
    · intro rec
      unfold laws_eqStoredS.B1
      rw [decF (by omega)]
      rfl
  · rw [show (((a.length : Nat) : Int) != ((b.length : Nat) : Int)) = true by simpa using fun q => c (by omega), cond_true]
    rw [decF (fun e => c (by rw [e]))]
theorem s_eqStoredS : laws_eqStoredS.S (cl PL1 fun x => decide (x.1 = x.2)) := laws_eqStoredS.of_cl s_eqStored fun x h => eqStoredS_pf x.1 x.2 h
theorem eqRack_pf {α : Type} (a b : List (List DS)) (h : Bd a) (k : Bool → Option α) : laws_eqRack.pf (cl PL1 fun x => decide (x.1 = x.2)) BIG a b k = k (decide (a = b)) := by
  have hl := h.len
  unfold laws_eqRack.pf
  by_cases c : a.length = b.length
  · rw [show (((a.length : Nat) : Int) != ((b.length : Nat) : Int)) = false by simp [c], cond_false]
    have hz : (a.zip b).length = a.length := by simp [c]
    rw [iter_first (a.zip b) (fun i => (i : Int)) (fun p => !decide (p.1 = p.2)) (fun _ _ => k false) (k true) (x := 0) rfl (big_lt (by omega)) ?_ ?_, firstOr_const, any_eq a b c]
    · by_cases e : a = b <;> simp [e]
    · intro i hi rec
      have h1 : i < a.length := by omega
      have h2 : i < b.length := by omega
      unfold laws_eqRack.B1
      rw [zip_at hi]
      simp only [decT (show (i : Int) < (a.length : Int) by omega), inB_nat h1, inB_nat h2, cond_true, Int.toNat_natCast, getD_lt h1, getD_lt h2, cl_eq (show PL1 (a[i], b[i]) from h.at h1), Option.bind_some, w64n (show i < 9223372036854775807 by omega)]
    · intro rec
      unfold laws_eqRack.B1
      rw [decF (by omega)]
      rfl
  · rw [show (((a.length : Nat) : Int) != ((b.length : Nat) : Int)) = true by simpa using fun q => c (by omega), cond_true]
    rw [decF (fun e => c (by rw [e]))]
theorem s_eqRack : laws_eqRack.S (cl Bd1 fun x => decide (x.1 = x.2)) := laws_eqRack.of_cl s_eqStoredS fun x h => eqRack_pf x.1 x.2 h
def validB (b : DB) : Bool := decide (1 ≤ b.1) && decide (b.1 ≤ 20) && (decide (1900 ≤ b.2) && decide (b.2 ≤ 2099))
def validS (s : DS) : Bool := validB s.1 && (decide (0 ≤ s.2) && decide (s.2 ≤ 2000))
def validR (r : List (List DS)) : Bool := decide (r.length ≤ 8) && r.all fun l => decide (l.length ≤ 6) && l.all validS
/-- Whole numbers of their kinds. -/
def wB (b : DB) : Prop := 0 ≤ b.1 ∧ b.1 ≤ 255 ∧ -32768 ≤ b.2 ∧ b.2 ≤ 32767
def wS (s : DS) : Prop := wB s.1 ∧ -32768 ≤ s.2 ∧ s.2 ≤ 32767
def wL (l : List DS) : Prop := PL l ∧ ∀ s, s ∈ l → wS s
def wR (r : List (List DS)) : Prop := Bd r ∧ ∀ l, l ∈ r → ∀ s, s ∈ l → wS s
theorem wR.at {r : List (List DS)} (h : wR r) {k : Nat} (hk : k < r.length) : wL r[k] := ⟨h.1.pl hk, h.2 _ (List.getElem_mem hk)⟩
theorem wL.at {l : List DS} (h : wL l) {k : Nat} (hk : k < l.length) : wS l[k] := h.2 _ (List.getElem_mem hk)
theorem s_l00In : spec_l00In.S (tot fun x => decide (x.2.1 ≤ x.1) && decide (x.1 ≤ x.2.2)) := spec_l00In.of_tot fun x k => by
  unfold spec_l00In.pf
  by_cases c : x.2.1 ≤ x.1
  · rw [decT (show x.1 ≥ x.2.1 from c)]; rfl
  · rw [decF (show ¬ x.1 ≥ x.2.1 from c)]; rfl
theorem s_within : impl_within.S (tot fun x => decide (x.2.1 ≤ x.1) && decide (x.1 ≤ x.2.2)) := impl_within.of_tot fun x k => by
  unfold impl_within.pf
  by_cases c : x.2.1 ≤ x.1
  · rw [decT c]; rfl
  · rw [decF c]; rfl
theorem s_l01Bottle : spec_l01Bottle.S (cl wB validB) := spec_l01Bottle.of_cl s_l00In fun x ⟨h1, h2, h3, h4⟩ k => by
  unfold spec_l01Bottle.pf validB
  simp only [tot_eq, Option.bind_some, w64 (n := x.1) (by omega) (by omega), w64 (n := x.2) (by omega) (by omega)]
  cases decide (1 ≤ x.1) && decide (x.1 ≤ 20) <;> rfl
theorem s_ValidBottle : impl_ValidBottle.S (cl wB validB) := impl_ValidBottle.of_cl s_within fun x ⟨h1, h2, h3, h4⟩ k => by
  unfold impl_ValidBottle.pf validB
  simp only [tot_eq, Option.bind_some, w64 (n := x.1) (by omega) (by omega), w64 (n := x.2) (by omega) (by omega)]
  cases decide (1 ≤ x.1) && decide (x.1 ≤ 20) <;> rfl
theorem s_l04Stored : spec_l04Stored.S (cl wS validS) := spec_l04Stored.of_cl s_l01Bottle s_l00In fun x ⟨h1, h2, h3⟩ k => by
  unfold spec_l04Stored.pf validS
  rw [cl_eq h1, w64 (n := x.2) (by omega) (by omega)]
  simp only [tot_eq, Option.bind_some]
  cases validB x.1 <;> rfl
theorem s_validStored : impl_validStored.S (cl wS validS) := impl_validStored.of_cl s_ValidBottle s_within fun x ⟨h1, h2, h3⟩ k => by
  unfold impl_validStored.pf validS
  rw [cl_eq h1, w64 (n := x.2) (by omega) (by omega)]
  simp only [tot_eq, Option.bind_some]
  cases validB x.1 <;> rfl
theorem any_not {β : Type} (l : List β) (p : β → Bool) : (l.any fun x => !p x) = !l.all p := by
  induction l with
  | nil => rfl
  | cons x l ih => rw [List.any_cons, List.all_cons, ih, Bool.not_and]
theorem s_l04All : spec_l04All.S (cl wL fun l => l.all validS) := spec_l04All.of_cl s_l04Stored fun x h k => by
  have hl : x.length ≤ 1073741824 := h.1
  unfold spec_l04All.pf
  rw [iter_first x (fun i => (i : Int)) (fun s => !validS s) (fun _ _ => k false) (k true) (x := 0) rfl (big_lt (by omega)) ?_ ?_, firstOr_const, any_not]
  · cases x.all validS <;> rfl
  · intro i hi rec
    unfold spec_l04All.B1
    simp only [decT (show (i : Int) < (x.length : Int) by omega), inB_nat hi, cond_true, Int.toNat_natCast, getD_lt hi, cl_eq (h.at hi), Option.bind_some, w64n (show i < 9223372036854775807 by omega)]
  · intro rec
    unfold spec_l04All.B1
    rw [decF (by omega)]
    rfl
theorem s_l04Ok : spec_l04Ok.S (cl wR validR) := spec_l04Ok.of_cl s_l04All fun x h k => by
  have hl := h.1.len
  unfold spec_l04Ok.pf
  rw [iter_first x (fun i => (i : Int)) (fun l => !(decide (l.length ≤ 6) && l.all validS)) (fun _ _ => k false) (k (decide (x.length ≤ 8))) (x := 0) rfl (big_lt (by omega)) ?_ ?_, firstOr_const, any_not]
  · unfold validR
    cases x.all fun l => decide (l.length ≤ 6) && l.all validS
    · rw [Bool.and_false]; rfl
    · rw [Bool.and_true]; rfl
  · intro i hi rec
    have := h.1.at hi
    unfold spec_l04Ok.B1
    simp only [decT (show (i : Int) < (x.length : Int) by omega), inB_nat hi, cond_true, Int.toNat_natCast, getD_lt hi, cl_eq (h.at hi), Option.bind_some, w64n (show i < 9223372036854775807 by omega)]
    by_cases c : x[i].length ≤ 6
    · rw [decF (show ¬ ((x[i].length : Int) > 6) by omega), decT c]; rfl
    · rw [decT (show ((x[i].length : Int) > 6) by omega), decF c]; rfl
  · intro rec
    unfold spec_l04Ok.B1
    rw [decF (by omega)]
    simp only [cond_false]
    congr 1
    by_cases c : x.length ≤ 8
    · rw [decT c, decT (by omega)]
    · rw [decF c, decF (by omega)]
theorem s_ValidRack_1_1 : impl_ValidRack_1_1.S (cl wS fun s => !validS s) := impl_ValidRack_1_1.of_cl s_validStored fun x h k => by
  unfold impl_ValidRack_1_1.pf
  rw [cl_eq h]; rfl
/-- Where the first one is. -/
def indexI {β : Type} (p : β → Bool) (l : List β) : Int := match l.findIdx? p with
  | some i => i
  | none => -1
theorem firstOr_index {α β : Type} (p : β → Bool) (k : Int → Option α) : ∀ (l : List β) (j : Nat), firstOr p (fun i _ => k (i : Int)) (k (-1)) j l = k (match l.findIdx? p with | some i => ((j + i : Nat) : Int) | none => -1)
  | [], _ => rfl
  | x :: l, j => by
    rw [firstOr, List.findIdx?_cons]
    cases p x with
    | true => simp
    | false =>
      rw [cond_false, firstOr_index p k l]
      cases l.findIdx? p with
      | none => rfl
      | some i => simp [Nat.add_assoc, Nat.add_comm 1 i]
theorem indexI_nn {β : Type} (p : β → Bool) (l : List β) : decide (indexI p l ≥ 0) = l.any p := by
  unfold indexI
  cases h : l.findIdx? p with
  | none =>
    have := List.findIdx?_eq_none_iff.1 h
    simp only
    rw [decF (by omega)]
    symm
    rw [List.any_eq_false]
    intro x hx
    simpa using this x hx
  | some i =>
    simp only
    rw [decT (by omega)]
    symm
    obtain ⟨hi, hp, _⟩ := List.findIdx?_eq_some_iff_getElem.1 h
    exact List.any_eq_true.2 ⟨_, List.getElem_mem hi, hp⟩
theorem s_index_1_1 : slices_IndexFunc_impl_Stored_impl_Stored__impl_ValidRack_1_1.S (cl wL fun l => indexI (fun s => !validS s) l) :=
  slices_IndexFunc_impl_Stored_impl_Stored__impl_ValidRack_1_1.of_cl s_ValidRack_1_1 fun x h k => by
  have hl : x.length ≤ 1073741824 := h.1
  unfold slices_IndexFunc_impl_Stored_impl_Stored__impl_ValidRack_1_1.pf
  rw [iter_first x (fun i => (i : Int)) (fun s => !validS s) (fun i _ => k (i : Int)) (k (-1)) (x := 0) rfl (big_lt (by omega)) ?_ ?_, firstOr_index]
  · unfold indexI
    congr 1
    cases x.findIdx? fun s => !validS s <;> simp
  · intro i hi rec
    unfold slices_IndexFunc_impl_Stored_impl_Stored__impl_ValidRack_1_1.B1
    simp only [decT (show (i : Int) < (x.length : Int) by omega), inB_nat hi, cond_true, Int.toNat_natCast, getD_lt hi, cl_eq (h.at hi), Option.bind_some, w64n (show i < 9223372036854775807 by omega)]
  · intro rec
    unfold slices_IndexFunc_impl_Stored_impl_Stored__impl_ValidRack_1_1.B1
    rw [decF (by omega)]
    rfl
theorem s_contains_1_1 : slices_ContainsFunc_impl_Stored_impl_Stored__impl_ValidRack_1_1.S (cl wL fun l => !l.all validS) :=
  slices_ContainsFunc_impl_Stored_impl_Stored__impl_ValidRack_1_1.of_cl s_index_1_1 fun x h k => by
  unfold slices_ContainsFunc_impl_Stored_impl_Stored__impl_ValidRack_1_1.pf
  rw [cl_eq h, Option.bind_some, indexI_nn, any_not]
theorem s_ValidRack_1 : impl_ValidRack_1.S (cl wL fun l => !(decide (l.length ≤ 6) && l.all validS)) := impl_ValidRack_1.of_cl s_contains_1_1 fun x h k => by
  unfold impl_ValidRack_1.pf
  have hl : x.length ≤ 1073741824 := h.1
  by_cases c : x.length ≤ 6
  · rw [decF (show ¬ ((x.length : Int) > 6) by omega), decT c, cl_eq h]; rfl
  · rw [decT (show ((x.length : Int) > 6) by omega), decF c]; rfl
theorem s_index_1 : slices_IndexFunc_impl_Rack_impl_Stored__impl_ValidRack_1.S (cl wR fun r => indexI (fun l => !(decide (l.length ≤ 6) && l.all validS)) r) :=
  slices_IndexFunc_impl_Rack_impl_Stored__impl_ValidRack_1.of_cl s_ValidRack_1 fun x h k => by
  have hl := h.1.len
  unfold slices_IndexFunc_impl_Rack_impl_Stored__impl_ValidRack_1.pf
  rw [iter_first x (fun i => (i : Int)) (fun l => !(decide (l.length ≤ 6) && l.all validS)) (fun i _ => k (i : Int)) (k (-1)) (x := 0) rfl (big_lt (by omega)) ?_ ?_, firstOr_index]
  · unfold indexI
    congr 1
    cases x.findIdx? fun l => !(decide (l.length ≤ 6) && l.all validS) <;> simp
  · intro i hi rec
    unfold slices_IndexFunc_impl_Rack_impl_Stored__impl_ValidRack_1.B1
    simp only [decT (show (i : Int) < (x.length : Int) by omega), inB_nat hi, cond_true, Int.toNat_natCast, getD_lt hi, cl_eq (h.at hi), Option.bind_some, w64n (show i < 9223372036854775807 by omega)]
  · intro rec
    unfold slices_IndexFunc_impl_Rack_impl_Stored__impl_ValidRack_1.B1
    rw [decF (by omega)]
    rfl
theorem s_contains_1 : slices_ContainsFunc_impl_Rack_impl_Stored__impl_ValidRack_1.S (cl wR fun r => !r.all fun l => decide (l.length ≤ 6) && l.all validS) :=
  slices_ContainsFunc_impl_Rack_impl_Stored__impl_ValidRack_1.of_cl s_index_1 fun x h k => by
  unfold slices_ContainsFunc_impl_Rack_impl_Stored__impl_ValidRack_1.pf
  rw [cl_eq h, Option.bind_some, indexI_nn, any_not]
theorem s_impl_ValidRack : impl_ValidRack.S (cl wR validR) := impl_ValidRack.of_cl s_contains_1 fun x h k => by
  unfold impl_ValidRack.pf validR
  have hl := h.1.len
  by_cases c : x.length ≤ 8
  · rw [decT (show ((x.length : Int) ≤ 8) by omega), decT c, cl_eq h]; simp
  · rw [decF (show ¬ ((x.length : Int) ≤ 8) by omega), decF c]; rfl
theorem good_B {b : DB} (h : goodV (.st (.pair (.int .u8) (.int .i16))) b) : wB b := by
  obtain ⟨h1, h2⟩ := h
  simp only [goodV, Lit.wf, IntKind.min, IntKind.max, IntKind.bits, IntKind.signed] at h1 h2
  simp at h1 h2
  unfold wB
  omega
theorem good_S {s : DS} (h : goodV (.st (.pair (.st (.pair (.int .u8) (.int .i16))) (.int .i16))) s) : wS s := by
  obtain ⟨h1, h2⟩ := h
  refine ⟨good_B h1, ?_⟩
  simp only [goodV, Lit.wf, IntKind.min, IntKind.max, IntKind.bits, IntKind.signed] at h2
  simp at h2
  omega
/-- What comes in. -/
def gR (r : List (List DS)) : Prop := r.length ≤ maxLen ∧ (∀ l, l ∈ r → l.length ≤ maxLen) ∧ ∀ l, l ∈ r → ∀ s, s ∈ l → wS s
theorem good_rack {e e' : TypeId} {r : List (List DS)} (h : goodV (.row e (.row e' (.st (.pair (.st (.pair (.int .u8) (.int .i16))) (.int .i16))))) r) : gR r := by
  obtain ⟨h1, h2⟩ := h
  have h3 : ∀ l, l ∈ r → goodV (.row e' (.st (.pair (.st (.pair (.int .u8) (.int .i16))) (.int .i16)))) l := fun l hl => by
    obtain ⟨i, hi, rfl⟩ := List.mem_iff_getElem.1 hl
    have := h2 i hi
    rwa [getD_lt hi] at this
  refine ⟨h1, fun l hl => (h3 l hl).1, fun l hl s hs => ?_⟩
  obtain ⟨i, hi, rfl⟩ := List.mem_iff_getElem.1 hs
  have := (h3 l hl).2 i hi
  rw [getD_lt hi] at this
  exact good_S this
theorem gR.sz {r : List (List DS)} (h : gR r) : PszR (r, 1048576) := ⟨h.1, h.2.1, by simp, by simp⟩
theorem gR.w {r : List (List DS)} (h : gR r) (c : ¬ vszR (r, 1048576) < 0) : wR r := ⟨(sz_bd (by omega) (by omega) c).1, h.2.2⟩
abbrev Spot := Int × Int × DS
theorem bneS (a : Int) : (a != a) = false := by simp
theorem okS {n : Nat} (h : n ≤ 4294967296) : okL n = true := okL_true h
/-- Where what is alike lies. -/
def spotsL (b : DB) (i : Int) : Nat → List DS → List Spot
  | _, [] => []
  | j, s :: l => if s.1 = b then (i, (j : Int), s) :: spotsL b i (j + 1) l else spotsL b i (j + 1) l
def spotsR (b : DB) : Nat → List (List DS) → List Spot
  | _, [] => []
  | i, l :: r => spotsL b (i : Int) 0 l ++ spotsR b (i + 1) r
theorem spotsL_len (b : DB) (i : Int) : ∀ (l : List DS) (j : Nat), (spotsL b i j l).length ≤ l.length
  | [], j => by simp [spotsL]
  | s :: l, j => by
    have := spotsL_len b i l (j + 1)
    unfold spotsL
    split <;> simp <;> omega
theorem spotsR_len (b : DB) : ∀ (r : List (List DS)) (i : Nat), (spotsR b i r).length ≤ (r.map List.length).sum
  | [], i => by simp [spotsR]
  | l :: r, i => by
    have h1 := spotsL_len b (i : Int) l 0
    have h2 := spotsR_len b r (i + 1)
    unfold spotsR
    simp
    omega
/-- What lies where a spot says. -/
def SpotIn (r : List (List DS)) (s : Spot) : Prop := ∃ (i j : Nat) (hi : i < r.length) (hj : j < r[i].length), s = ((i : Int), (j : Int), r[i][j])
theorem impl_spots2 {α : Type} (r : List (List DS)) (b : DB) (i : Nat) (hi : i < r.length) (hl : r[i].length ≤ 1073741824) (n : Int) (acc : List Spot) (ha : acc.length ≤ 1073741824) (K : Int × List Spot → Option α) :
    iter (impl_Rack_spots.B2 (i : Int) n (i : Int) i ((r[i].length : Nat) : Int) r b K) BIG (0, acc) = K ((r[i].length : Int), acc ++ spotsL b (i : Int) 0 r[i]) := by
  refine (iter_list r[i] (fun p (c : List Spot) => ((p : Int), c)) (fun q c => K ((r[i].length : Int), c ++ spotsL b (i : Int) (r[i].length - q.length) q)) (fun p c => c.length ≤ acc.length + p) (c := acc) rfl (big_lt (by omega)) (by simp) ?_ ?_).trans (by simp)
  · rintro p hp c rec h2 hrec
    have e1 : r[i].length - (r[i].drop (p + 1)).length = p + 1 := by rw [List.length_drop]; omega
    have e2 : r[i].length - (r[i][p] :: r[i].drop (p + 1)).length = p := by rw [List.length_cons, List.length_drop]; omega
    unfold impl_Rack_spots.B2
    simp only [decT (show (p : Int) < (r[i].length : Int) by omega), cond_true, Int.toNat_natCast, getD_lt hi, inB_nat hp, getD_lt hp, eqB, w64n (show p < 9223372036854775807 by omega), e2, spotsL]
    by_cases q : r[i][p].1 = b
    · rw [decT q, if_pos q, cond_true, okS (by simp; omega), cond_true]
      refine (hrec _ (by simp; omega)).trans ?_
      simp only [e1, List.append_assoc, List.cons_append, List.nil_append]
    · rw [decF q, if_neg q, cond_false]
      refine (hrec _ (by omega)).trans ?_
      simp only [e1]
  · rintro c rec _
    unfold impl_Rack_spots.B2
    rw [decF (by simp only; omega)]
    simp [spotsL]
theorem s_spots : impl_Rack_spots.S (cl Bd1 fun x => spotsR x.2 0 x.1) := impl_Rack_spots.of_cl fun x h k => by
  obtain ⟨r, b⟩ := x
  have hb : Bd r := h
  have hl := hb.len
  have hbs : r.length + (r.map List.length).sum ≤ 1073741824 := hb
  show impl_Rack_spots.pf BIG r b k = k (spotsR b 0 r)
  unfold impl_Rack_spots.pf
  refine (iter_list r (fun p (c : List Spot) => ((p : Int), c)) (fun q c => k (c ++ spotsR b (r.length - q.length) q)) (fun p c => c.length + ((r.drop p).map List.length).sum ≤ 1073741824) (c := []) rfl (big_lt (by omega)) (by simp; omega) ?_ ?_).trans (by simp)
  · rintro p hp c rec h2 hrec
    have e1 : r.length - (r.drop (p + 1)).length = p + 1 := by rw [List.length_drop]; omega
    have e2 : r.length - (r[p] :: r.drop (p + 1)).length = p := by rw [List.length_cons, List.length_drop]; omega
    rw [drop_cons hp] at h2
    simp only [List.map_cons, List.sum_cons] at h2
    have hs := spotsL_len b (p : Int) r[p] 0
    unfold impl_Rack_spots.B1
    simp only [decT (show (p : Int) < (r.length : Int) by omega), cond_true, Int.toNat_natCast, getD_lt hp, inB_nat hp, impl_spots2 r b p hp (hb.at hp) _ c (by omega), w64n (show p < 9223372036854775807 by omega), e2, spotsR]
    refine (hrec _ (by simp only [List.length_append]; omega)).trans ?_
    simp only [e1, List.append_assoc]
  · rintro c rec _
    unfold impl_Rack_spots.B1
    rw [decF (by simp only; omega)]
    simp [spotsR]
/-- The first of the least. -/
def minBy {β : Type} (c : β → β → Bool) (m : β) : List β → β
  | [] => m
  | x :: l => minBy c (if c x m = true then x else m) l
def wSp (s : Spot) : Prop := -32768 ≤ s.2.2.2 ∧ s.2.2.2 ≤ 32767
def wSp2 (x : Spot × Spot) : Prop := wSp x.1 ∧ wSp x.2
theorem s_oldest_1 : impl_oldest_1.S (cl wSp2 fun x => x.1.2.2.2 - x.2.2.2.2) := impl_oldest_1.of_cl fun x ⟨h1, h2⟩ k => by
  obtain ⟨x, y⟩ := x
  unfold wSp at h1 h2
  simp only at h1 h2
  show impl_oldest_1.pf BIG x y k = _
  unfold impl_oldest_1.pf
  rw [w64 (n := x.2.2.2) (by omega) (by omega), w64 (n := y.2.2.2) (by omega) (by omega), w64 (by omega) (by omega)]
def older (x y : Spot) : Bool := decide (x.2.2.2 < y.2.2.2)
def PSps (l : List Spot) : Prop := l ≠ [] ∧ l.length ≤ 1073741824 ∧ ∀ s, s ∈ l → wSp s
/-- The least of some, that are some. -/
def minOf (c : Spot → Spot → Bool) (l : List Spot) : Spot := minBy c (l.getD 0 (0, 0, dS)) (l.drop 1)
theorem s_minOldest : slices_MinFunc_impl_spot_impl_spot__impl_oldest_1.S (cl PSps (minOf older)) := slices_MinFunc_impl_spot_impl_spot__impl_oldest_1.of_cl s_oldest_1 fun l h k => by
  obtain ⟨h0, h1, h2⟩ := h
  have hl : 0 < l.length := List.length_pos_iff.2 h0
  unfold slices_MinFunc_impl_spot_impl_spot__impl_oldest_1.pf minOf
  rw [decF (by omega), cond_false, inB_true (by omega) (by omega), cond_true]
  refine (iter_list (l.drop 1) (fun p (c : Spot) => ((p : Int) + 1, c)) (fun q c => k (minBy older c q)) (fun p c => c ∈ l) (c := l.getD 0 (0, 0, dS)) (by simp) (big_lt (by simp; omega)) (by rw [getD_lt hl]; exact List.getElem_mem _) ?_ ?_)
  · rintro p hp c rec hc hrec
    have hp' : p + 1 < l.length := by simp at hp; omega
    unfold slices_MinFunc_impl_spot_impl_spot__impl_oldest_1.B1
    have ei : ((p : Int) + 1) = ((p + 1 : Nat) : Int) := rfl
    have eg : (l.drop 1)[p] = l[p + 1] := by simp [Nat.add_comm]
    simp only [eg, ei, decT (show ((p + 1 : Nat) : Int) < (l.length : Int) by omega), inB_nat hp', cond_true, Int.toNat_natCast, getD_lt hp', w64n (show p + 1 < 9223372036854775807 by omega), minBy]
    rw [cl_eq (show wSp2 (l[p + 1], c) from ⟨h2 _ (List.getElem_mem _), h2 _ hc⟩), Option.bind_some]
    simp only [older, decide_eq_true_eq]
    by_cases q : l[p + 1].2.2.2 < c.2.2.2
    · rw [decT (show l[p + 1].2.2.2 - c.2.2.2 < 0 by omega), if_pos q, cond_true]
      exact hrec _ (List.getElem_mem _)
    · rw [decF (show ¬ l[p + 1].2.2.2 - c.2.2.2 < 0 by omega), if_neg q, cond_false]
      exact hrec _ hc
  · rintro c rec _
    unfold slices_MinFunc_impl_spot_impl_spot__impl_oldest_1.B1
    rw [decF (by simp; omega)]
    simp [minBy]
theorem s_oldest : impl_oldest.S (cl PSps (minOf older)) := impl_oldest.of_cl s_minOldest fun l h k => by
  unfold impl_oldest.pf
  rw [cl_eq h]
  rfl
/-- The oldest seen so far, behind one more. -/
def updO (o : Option Spot) (s : Spot) : Option Spot := match o with
  | none => some s
  | some p => if s.2.2.2 < p.2.2.2 then some s else some p
def encO : Option Spot → Int × Int
  | none => (-1, 0)
  | some p => (p.1, p.2.1)
theorem encO_some (p : Spot) : encO (some p) = (p.1, p.2.1) := rfl
theorem updO_some : ∀ (l : List Spot) (m : Spot), l.foldl updO (some m) = some (minBy older m l)
  | [], m => rfl
  | s :: l, m => by
    rw [List.foldl_cons, minBy]
    show l.foldl updO (if s.2.2.2 < m.2.2.2 then some s else some m) = _
    unfold older
    by_cases c : s.2.2.2 < m.2.2.2
    · rw [if_pos c, if_pos (decide_eq_true c)]; exact updO_some l s
    · rw [if_neg c, if_neg (by simpa using c)]; exact updO_some l m
theorem updO_min (l : List Spot) (h : l ≠ []) : l.foldl updO none = some (minOf older l) := by
  match l, h with
  | s :: l, _ => rw [List.foldl_cons]; exact updO_some l s
theorem spotsL_in (b : DB) (i : Int) : ∀ (l : List DS) (j : Nat) (s : Spot), s ∈ spotsL b i j l → ∃ (n : Nat) (h : n < l.length), s = (i, ((j + n : Nat) : Int), l[n])
  | [], j, s, h => by simp [spotsL] at h
  | x :: l, j, s, h => by
    have rest : s ∈ spotsL b i (j + 1) l → ∃ (n : Nat) (h : n < (x :: l).length), s = (i, ((j + n : Nat) : Int), (x :: l)[n]) := fun h => by
      obtain ⟨n, hn, e⟩ := spotsL_in b i l (j + 1) s h
      exact ⟨n + 1, by simpa using hn, by rw [e]; simp [Nat.add_comm, Nat.add_left_comm]⟩
    unfold spotsL at h
    split at h
    · rcases List.mem_cons.1 h with rfl | h
      · exact ⟨0, by simp, by simp⟩
      · exact rest h
    · exact rest h
theorem spotsR_in (b : DB) : ∀ (r : List (List DS)) (i : Nat) (s : Spot), s ∈ spotsR b i r → ∃ (n m : Nat) (hn : n < r.length) (hm : m < r[n].length), s = (((i + n : Nat) : Int), (m : Int), r[n][m])
  | [], i, s, h => by simp [spotsR] at h
  | l :: r, i, s, h => by
    unfold spotsR at h
    rcases List.mem_append.1 h with h | h
    · obtain ⟨m, hm, e⟩ := spotsL_in b _ l 0 s h
      exact ⟨0, m, by simp, by simpa using hm, by rw [e]; simp⟩
    · obtain ⟨n, m, hn, hm, e⟩ := spotsR_in b r (i + 1) s h
      exact ⟨n + 1, m, by simpa using hn, by simpa using hm, by rw [e]; simp [Nat.add_comm, Nat.add_left_comm]⟩
theorem spots_in {b : DB} {r : List (List DS)} {s : Spot} (h : s ∈ spotsR b 0 r) : SpotIn r s := by
  obtain ⟨n, m, hn, hm, e⟩ := spotsR_in b r 0 s h
  exact ⟨n, m, hn, hm, by rw [e]; simp⟩
theorem spot_w {r : List (List DS)} (h : wR r) {s : Spot} (hs : SpotIn r s) : wSp s := by
  obtain ⟨i, j, hi, hj, rfl⟩ := hs
  exact ((h.at hi).at hj).2
def InO (r : List (List DS)) (o : Option Spot) : Prop := ∀ p, o = some p → SpotIn r p
theorem updO_in {r : List (List DS)} {o : Option Spot} {s : Spot} (ho : InO r o) (hs : SpotIn r s) : InO r (updO o s) := by
  intro p hp
  unfold updO at hp
  split at hp
  · obtain rfl := Option.some.inj hp; exact hs
  · split at hp
    · obtain rfl := Option.some.inj hp; exact hs
    · exact ho p hp
theorem fold_in {r : List (List DS)} : ∀ (l : List Spot) (o : Option Spot), InO r o → (∀ s, s ∈ l → SpotIn r s) → InO r (l.foldl updO o)
  | [], o, h, _ => h
  | s :: l, o, h, hs => fold_in l _ (updO_in h (hs s (by simp))) (fun x hx => hs x (List.mem_cons_of_mem _ hx))
theorem spec_old2 {α : Type} (r : List (List DS)) (b : DB) (i : Nat) (hi : i < r.length) (hl : r[i].length ≤ 1073741824) (o : Option Spot) (ho : InO r o) (K : Int × Int × Int → Option α) :
    iter (spec_l04Oldest.B2 (i : Int) r b K) BIG ((encO o).1, (encO o).2, 0) = K ((encO ((spotsL b i 0 r[i]).foldl updO o)).1, (encO ((spotsL b i 0 r[i]).foldl updO o)).2, (r[i].length : Int)) := by
  refine (iter_list r[i] (fun p (c : Option Spot) => ((encO c).1, (encO c).2, (p : Int))) (fun q c => K ((encO ((spotsL b i (r[i].length - q.length) q).foldl updO c)).1, (encO ((spotsL b i (r[i].length - q.length) q).foldl updO c)).2, (r[i].length : Int))) (fun p c => InO r c) (c := o) rfl (big_lt (by omega)) ho ?_ ?_).trans (by simp)
  · rintro p hp c rec hc hrec
    have e1 : r[i].length - (r[i].drop (p + 1)).length = p + 1 := by rw [List.length_drop]; omega
    have e2 : r[i].length - (r[i][p] :: r[i].drop (p + 1)).length = p := by rw [List.length_cons, List.length_drop]; omega
    have hs : SpotIn r ((i : Int), (p : Int), r[i][p]) := ⟨i, p, hi, hp, rfl⟩
    unfold spec_l04Oldest.B2
    simp only [inB_nat hi, decT (show (p : Int) < (r[i].length : Int) by omega), cond_true, Int.toNat_natCast, getD_lt hi, inB_nat hp, getD_lt hp, eqB, w64n (show p < 9223372036854775807 by omega), e2, spotsL]
    by_cases q : r[i][p].1 = b
    · rw [decT q, if_pos q, cond_true, List.foldl_cons]
      cases c with
      | none =>
        rw [decT (show (encO none).1 < 0 by simp [encO]), cond_true]
        refine (hrec (some _) (updO_in hc hs)).trans ?_
        simp only [e1]
        rfl
      | some m =>
        obtain ⟨i', j', hi', hj', rfl⟩ := hc m rfl
        simp only [encO_some, decF (show ¬ ((i' : Int) < 0) by omega), cond_false, inB_nat hi', Int.toNat_natCast, getD_lt hi', inB_nat hj', getD_lt hj', cond_true]
        by_cases d : r[i][p].2 < r[i'][j'].2
        · rw [decT d, cond_true]
          refine (hrec (some ((i : Int), (p : Int), r[i][p])) (fun z hz => by obtain rfl := Option.some.inj hz; exact hs)).trans ?_
          simp only [e1, updO, if_pos d]
        · rw [decF d, cond_false]
          refine (hrec (some ((i' : Int), (j' : Int), r[i'][j'])) hc).trans ?_
          simp only [e1, updO, if_neg d]
    · rw [decF q, if_neg q, cond_false]
      refine (hrec _ hc).trans ?_
      simp only [e1]
  · rintro c rec _
    unfold spec_l04Oldest.B2
    simp only [inB_nat hi, cond_true, Int.toNat_natCast, getD_lt hi]
    rw [decF (by omega)]
    simp [spotsL]
theorem s_l04Oldest : spec_l04Oldest.S (cl Bd1 fun x => encO ((spotsR x.2 0 x.1).foldl updO none)) := spec_l04Oldest.of_cl fun x h k => by
  obtain ⟨r, b⟩ := x
  have hb : Bd r := h
  have hl := hb.len
  show spec_l04Oldest.pf BIG r b k = k (encO ((spotsR b 0 r).foldl updO none))
  unfold spec_l04Oldest.pf
  refine (iter_list r (fun p (c : Option Spot) => ((encO c).1, (encO c).2, (p : Int))) (fun q c => k (encO ((spotsR b (r.length - q.length) q).foldl updO c))) (fun p c => InO r c) (c := none) rfl (big_lt (by omega)) (fun p hp => by cases hp) ?_ ?_).trans (by simp)
  · rintro p hp c rec hc hrec
    have e1 : r.length - (r.drop (p + 1)).length = p + 1 := by rw [List.length_drop]; omega
    have e2 : r.length - (r[p] :: r.drop (p + 1)).length = p := by rw [List.length_cons, List.length_drop]; omega
    unfold spec_l04Oldest.B1
    simp only [decT (show (p : Int) < (r.length : Int) by omega), cond_true, spec_old2 r b p hp (hb.at hp) c hc, w64n (show p < 9223372036854775807 by omega), e2, spotsR, List.foldl_append]
    refine (hrec _ (fold_in _ _ hc (fun s hs => ?_))).trans ?_
    · obtain ⟨n, hn, e⟩ := spotsL_in b _ _ _ s hs
      exact ⟨p, n, hp, hn, by rw [e]; simp⟩
    · simp only [e1]
  · rintro c rec _
    unfold spec_l04Oldest.B1
    rw [decF (by simp only; omega)]
    simp [spotsR]
def oldestOf (r : List (List DS)) (b : DB) : Int × Int × Int := if (validR r && validB b) = true then (match (spotsR b 0 r).foldl updO none with
  | none => (0, 0, 6)
  | some p => (p.1, p.2.1, 0)) else (0, 0, 1)
def PRB (x : List (List DS) × DB) : Prop := wR x.1 ∧ wB x.2
theorem s_spec_OldestOf : spec_OldestOf.S (cl PRB fun x => oldestOf x.1 x.2) := spec_OldestOf.of_cl s_l04Ok s_l01Bottle s_l04Oldest fun x h k => by
  obtain ⟨r, b⟩ := x
  obtain ⟨hw, hb⟩ := h
  simp only at hw hb
  show spec_OldestOf.pf _ _ _ BIG r b k = k (oldestOf r b)
  unfold spec_OldestOf.pf oldestOf
  rw [cl_eq hw, Option.bind_some, cl_eq hb]
  simp only [Option.bind_some, cl_eq (show Bd1 (r, b) from hw.1)]
  cases validR r with
  | false => rfl
  | true =>
    cases validB b with
    | false => rfl
    | true =>
      simp only [Bool.not_true, cond_false, Bool.and_self, if_true]
      have hin := fold_in (spotsR b 0 r) none (fun p hp => by cases hp) (fun s hs => spots_in hs)
      cases e : (spotsR b 0 r).foldl updO none with
      | none => rfl
      | some p =>
        obtain ⟨i, j, hi, hj, rfl⟩ := hin p e
        rw [decF (show ¬ (encO (some ((i : Int), (j : Int), r[i][j]))).1 < 0 by rw [encO_some]; simp only; omega)]
        rfl
theorem s_impl_OldestOf : impl_OldestOf.S (cl PRB fun x => oldestOf x.1 x.2) := impl_OldestOf.of_cl s_impl_ValidRack s_ValidBottle s_spots s_oldest fun x h k => by
  obtain ⟨r, b⟩ := x
  obtain ⟨hw, hb⟩ := h
  simp only at hw hb
  show impl_OldestOf.pf _ _ _ _ BIG r b k = k (oldestOf r b)
  unfold impl_OldestOf.pf oldestOf
  rw [cl_eq hw, Option.bind_some, cl_eq hb]
  simp only [Option.bind_some, cl_eq (show Bd1 (r, b) from hw.1)]
  cases validR r with
  | false => rfl
  | true =>
    cases validB b with
    | false => rfl
    | true =>
      simp only [Bool.not_true, cond_false, Bool.and_self, if_true]
      by_cases c : spotsR b 0 r = []
      · rw [c]; rfl
      · have h1 := List.length_pos_iff.2 c
        have h2 := spotsR_len b r 0
        have h3 := hw.1
        unfold Bd at h3
        rw [beqF (by omega), cond_false, cl_eq (show PSps (spotsR b 0 r) from ⟨c, by omega, fun s hs => spot_w hw (spots_in hs)⟩), updO_min _ c]
        rfl
theorem s_law_OldestOf : laws_FnExactOldestOf.S (cl (fun x => gR x.1 ∧ wB x.2) fun _ => true) := laws_FnExactOldestOf.of_cl s_szRack s_toRack s_toBottle s_spec_OldestOf s_impl_OldestOf s_eqRack fun x ⟨h, hb⟩ k => by
  obtain ⟨r, b⟩ := x
  have hg : gR r := h
  show laws_FnExactOldestOf.pf _ _ _ _ _ _ BIG r b k = k true
  unfold laws_FnExactOldestOf.pf
  rw [cl_eq hg.sz, Option.bind_some]
  by_cases c : vszR (r, 1048576) < 0
  · rw [decT c]; rfl
  · have w := hg.w c
    rw [decF c, cond_false]
    simp only [cl_eq w.1, Option.bind_some, tot_eq, cl_eq (show PRB (r, b) from ⟨w, hb⟩), cl_eq (show Bd1 (r, r) from w.1), bneS, cond_false]
    simp
end Go.Proofs.Ytneefjegejlfeaa.G
