/- Plain proofs: what the functions answer, in plain lists and numbers. -/
import Derived.Test.YtneefjegejlfeaaRd0
namespace Go.Proofs.Ytneefjegejlfeaa.G
open Go
set_option linter.unusedVariables false
set_option linter.unusedSimpArgs false
set_option maxRecDepth 10000
abbrev DB := Int × Int
abbrev DS := DB × Int
abbrev dS : DS := ((0, 0), 0)
theorem s_toBottle : laws_toBottle.S (tot fun x => x) := laws_toBottle.of_tot fun x k => rfl
theorem s_toStored : laws_toStored.S (tot fun x => x) := laws_toStored.of_tot s_toBottle fun x k => rfl
/-- A copy, element by element. -/
theorem copied {β : Type} {l o : List β} {k : Nat} {d : β} (h : k < l.length) (ho : o.length = l.length) (hp : o.take k = l.take k) : (o.set k l[k]).take (k + 1) = l.take (k + 1) ∧ (o.set k l[k]).length = l.length := by
  refine ⟨?_, by simpa using ho⟩
  rw [List.take_succ_eq_append_getElem (by simpa [ho] using h), List.take_succ_eq_append_getElem h, List.take_set_of_le (Nat.le_refl k), hp]
  simp
theorem toStoredS_pf {α : Type} (l : List DS) (h : l.length ≤ 1073741824) (k : List DS → Option α) : laws_toStoredS.pf (tot fun x => x) BIG l k = k l := by
  unfold laws_toStoredS.pf
  rw [inW_true (by omega) (by omega) (by unfold LIM; omega)]
  simp only [cond_true]
  refine (iter_list (B := laws_toStoredS.B1 (tot fun x => x) l fun x1 => k x1.2) l (fun i (c : List DS) => ((i : Int), c)) (fun _ _ => k l) (fun i c => c.length = l.length ∧ c.take i = l.take i) (c := List.replicate l.length dS) (by simp) (big_lt (by omega)) (by simp) ?_ ?_)
  · rintro i hi c rec ⟨h1, h2⟩ hrec
    unfold laws_toStoredS.B1
    simp only [decT (show (i : Int) < (l.length : Int) by omega), inB_nat hi, inB_nat (h1 ▸ hi : i < c.length), cond_true, Int.toNat_natCast, getD_lt hi, tot_eq, Option.bind_some, w64n (show i < 9223372036854775807 by omega)]
    have := copied (d := dS) hi h1 h2
    exact hrec _ ⟨this.2, this.1⟩
  · rintro c rec ⟨h1, h2⟩
    unfold laws_toStoredS.B1
    rw [decF (by omega)]
    rw [List.take_of_length_le (by omega), List.take_of_length_le (Nat.le_refl _)] at h2
    simp only [cond_false, h2]
theorem s_toStoredS : laws_toStoredS.S (cl PL fun l => l) := laws_toStoredS.of_cl s_toStored fun x h => toStoredS_pf x h
theorem toRack_pf {α : Type} (l : List (List DS)) (h : Bd l) (k : List (List DS) → Option α) : laws_toRack.pf (cl PL fun l => l) BIG l k = k l := by
  have hl := h.len
  unfold laws_toRack.pf
  rw [inW_true (by omega) (by omega) (by unfold LIM; omega)]
  simp only [cond_true]
  refine (iter_list (B := laws_toRack.B1 (cl PL fun l => l) l fun x1 => k x1.2) l (fun i (c : List (List DS)) => ((i : Int), c)) (fun _ _ => k l) (fun i c => c.length = l.length ∧ c.take i = l.take i) (c := List.replicate l.length []) (by simp) (big_lt (by omega)) (by simp) ?_ ?_)
  · rintro i hi c rec ⟨h1, h2⟩ hrec
    unfold laws_toRack.B1
    simp only [decT (show (i : Int) < (l.length : Int) by omega), inB_nat hi, inB_nat (h1 ▸ hi : i < c.length), cond_true, Int.toNat_natCast, getD_lt hi, cl_eq (h.pl hi), Option.bind_some, w64n (show i < 9223372036854775807 by omega)]
    have := copied (d := ([] : List DS)) hi h1 h2
    exact hrec _ ⟨this.2, this.1⟩
  · rintro c rec ⟨h1, h2⟩
    unfold laws_toRack.B1
    rw [decF (by omega)]
    rw [List.take_of_length_le (by omega), List.take_of_length_le (Nat.le_refl _)] at h2
    simp only [cond_false, h2]
theorem s_toRack : laws_toRack.S (cl Bd fun l => l) :=
  laws_toRack.of_cl s_toStoredS fun x h => toRack_pf x h
def Psz (x : List DS × Int) : Prop := x.1.length ≤ maxLen ∧ 0 ≤ x.2 ∧ x.2 ≤ 1048576
def vsz (x : List DS × Int) : Int := if x.2 < x.1.length then -1 else x.2 - x.1.length
theorem s_szStoredS : laws_szStoredS.S (cl Psz vsz) :=
  laws_szStoredS.of_cl fun x ⟨h1, h2, h3⟩ k => by
    unfold maxLen at h1
    unfold laws_szStoredS.pf vsz
    rw [w64 (by omega) (by omega)]
    by_cases c : x.2 < x.1.length
    · rw [decT (by omega), if_pos c]; rfl
    · rw [decF (by omega), if_neg c]; rfl
/-- What is left over. -/
def szL (n : Int) : List (List DS) → Int
  | [] => n
  | x :: l => if n < x.length then -1 else szL (n - x.length) l
theorem szRack_pf {α : Type} (l : List (List DS)) (n : Int) (h : l.length ≤ maxLen) (hr : ∀ x, x ∈ l → x.length ≤ maxLen) (h0 : 0 ≤ n) (h1 : n ≤ 1048576) (k : Int → Option α) :
    laws_szRack.pf (cl Psz vsz) BIG l n k = k (if n < l.length then -1 else szL (n - l.length) l) := by
  have hl := h
  unfold maxLen at hl
  unfold laws_szRack.pf
  rw [w64 (by omega) (by omega)]
  by_cases c : n < l.length
  · rw [decT (by omega), if_pos c]; rfl
  · rw [decF (by omega), if_neg c, cond_false]
    refine iter_list l (fun i (c : Int) => (c, (i : Int))) (fun r c => k (szL c r)) (fun i c => 0 ≤ c ∧ c ≤ 1048576) (c := n - l.length) rfl (big_lt (by omega)) (by omega) ?_ ?_
    · rintro i hi c rec ⟨h2, h3⟩ hrec
      unfold laws_szRack.B1
      simp only [decT (show (i : Int) < (l.length : Int) by omega), inB_nat hi, cond_true, Int.toNat_natCast, getD_lt hi, cl_eq (show Psz (l[i], c) from ⟨hr _ (List.getElem_mem hi), h2, h3⟩), vsz, Option.bind_some, w64n (show i < 9223372036854775807 by omega), szL]
      by_cases q : c < (l[i].length : Int)
      · simp only [if_pos q]; rfl
      · simp only [if_neg q, decF (show ¬ (c - (l[i].length : Int) < 0) by omega), cond_false]
        exact hrec _ (by omega)
    · rintro c rec _
      unfold laws_szRack.B1
      rw [decF (by omega)]
      rfl
def PszR (x : List (List DS) × Int) : Prop := x.1.length ≤ maxLen ∧ (∀ r, r ∈ x.1 → r.length ≤ maxLen) ∧ 0 ≤ x.2 ∧ x.2 ≤ 1048576
def vszR (x : List (List DS) × Int) : Int := if x.2 < x.1.length then -1 else szL (x.2 - x.1.length) x.1
theorem s_szRack : laws_szRack.S (cl PszR vszR) := laws_szRack.of_cl s_szStoredS fun x ⟨h1, h2, h3, h4⟩ => szRack_pf x.1 x.2 h1 h2 h3 h4
theorem szL_nn : ∀ (l : List (List DS)) (n : Int), 0 ≤ n → 0 ≤ szL n l → szL n l = n - ((l.map List.length).sum : Nat)
  | [], n, _, _ => by simp [szL]
  | x :: l, n, h, h1 => by
    unfold szL at h1 ⊢
    by_cases c : n < x.length
    · rw [if_pos c] at h1; omega
    · rw [if_neg c] at h1 ⊢
      rw [szL_nn l _ (by omega) h1]
      simp
      omega
/-- What went through is small. -/
theorem sz_bd {l : List (List DS)} {n : Int} (h0 : 0 ≤ n) (h1 : n ≤ 1048576) (h : ¬ vszR (l, n) < 0) : Bd l ∧ 0 ≤ vszR (l, n) ∧ vszR (l, n) ≤ 1048576 := by
  unfold vszR at h ⊢
  simp only at h ⊢
  by_cases c : n < l.length
  · rw [if_pos c] at h; omega
  · rw [if_neg c] at h ⊢
    have := szL_nn l (n - l.length) (by omega) (by omega)
    unfold Bd
    omega
theorem eqS (a b : DS) : eqV (.st (.pair (.st (.pair (.int .u8) (.int .i16))) (.int .i16))) a b = decide (a = b) := by
  obtain ⟨⟨a1, a2⟩, a3⟩ := a
  obtain ⟨⟨b1, b2⟩, b3⟩ := b
  simp only [eqV]
  rw [Bool.eq_iff_iff]
  simp [and_assoc]
theorem s_eqBottle : laws_eqBottle.S (tot fun x => decide (x.1 = x.2)) := laws_eqBottle.of_tot fun x k => by
  obtain ⟨⟨a1, a2⟩, b1, b2⟩ := x
  unfold laws_eqBottle.pf
  by_cases h1 : a1 = b1
  · by_cases h2 : a2 = b2
    · simp [h1, h2]
    · simp [h1, h2, bneT h2]
  · simp [h1, bneT h1]
theorem s_eqStored : laws_eqStored.S (tot fun x => decide (x.1 = x.2)) := laws_eqStored.of_tot s_eqBottle fun x k => by
  obtain ⟨⟨a1, a2⟩, b1, b2⟩ := x
  unfold laws_eqStored.pf
  by_cases h1 : a1 = b1
  · by_cases h2 : a2 = b2
    · simp [h1, h2, tot]
    · simp [h1, h2, tot, bneT h2]
  · simp [h1, tot]
/-- Lists of one length are alike where no pair of elements differs. -/
theorem any_eq {β : Type} [DecidableEq β] : ∀ (a b : List β), a.length = b.length → (a.zip b).any (fun p => !decide (p.1 = p.2)) = !decide (a = b)
  | [], [], _ => by simp
  | [], _ :: _, h => by simp at h
  | _ :: _, [], h => by simp at h
  | x :: a, y :: b, h => by
    rw [List.zip_cons_cons, List.any_cons, any_eq a b (by simpa using h)]
    by_cases c : x = y <;> by_cases c2 : a = b <;> simp [c, c2]
theorem zip_at {β γ : Type} {a : List β} {b : List γ} {k : Nat} (h : k < (a.zip b).length) : (a.zip b)[k] = (a[k]'(by simp at h; omega), b[k]'(by simp at h; omega)) := by simp
theorem eqStoredS_pf {α : Type} (a b : List DS) (h : a.length ≤ 1073741824) (k : Bool → Option α) : laws_eqStoredS.pf (tot fun x => decide (x.1 = x.2)) BIG a b k = k (decide (a = b)) := by
  unfold laws_eqStoredS.pf
  by_cases c : a.length = b.length
  · rw [show (((a.length : Nat) : Int) != ((b.length : Nat) : Int)) = false by simp [c], cond_false]
    have hz : (a.zip b).length = a.length := by simp [c]
    rw [iter_first (a.zip b) (fun i => (i : Int)) (fun p => !decide (p.1 = p.2)) (fun _ _ => k false) (k true) (x := 0) rfl (big_lt (by omega)) ?_ ?_, firstOr_const, any_eq a b c]
    · by_cases e : a = b <;> simp [e]
    · intro i hi rec
      have h1 : i < a.length := by omega
      have h2 : i < b.length := by omega
      unfold laws_eqStoredS.B1
      rw [zip_at hi]
      simp only [decT (show (i : Int) < (a.length : Int) by omega), inB_nat h1, inB_nat h2, cond_true, Int.toNat_natCast, getD_lt h1, getD_lt h2, tot_eq, Option.bind_some, w64n (show i < 9223372036854775807 by omega)]
    · intro rec
      unfold laws_eqStoredS.B1
      rw [decF (by omega)]
      rfl
  · rw [show (((a.length : Nat) : Int) != ((b.length : Nat) : Int)) = true by simpa using fun q => c (by omega), cond_true]
    rw [decF (fun e => c (by rw [e]))]
theorem s_eqStoredS : laws_eqStoredS.S (cl PL1 fun x => decide (x.1 = x.2)) := laws_eqStoredS.of_cl s_eqStored fun x h => eqStoredS_pf x.1 x.2 h
theorem eqRack_pf {α : Type} (a b : List (List DS)) (h : Bd a) (k : Bool → Option α) : laws_eqRack.pf (cl PL1 fun x => decide (x.1 = x.2)) BIG a b k = k (decide (a = b)) := by
  have hl := h.len
  unfold laws_eqRack.pf
  by_cases c : a.length = b.length
  · rw [show (((a.length : Nat) : Int) != ((b.length : Nat) : Int)) = false by simp [c], cond_false]
    have hz : (a.zip b).length = a.length := by simp [c]
    rw [iter_first (a.zip b) (fun i => (i : Int)) (fun p => !decide (p.1 = p.2)) (fun _ _ => k false) (k true) (x := 0) rfl (big_lt (by omega)) ?_ ?_, firstOr_const, any_eq a b c]
    · by_cases e : a = b <;> simp [e]
    · intro i hi rec
      have h1 : i < a.length := by omega
      have h2 : i < b.length := by omega
      unfold laws_eqRack.B1
      rw [zip_at hi]
      simp only [decT (show (i : Int) < (a.length : Int) by omega), inB_nat h1, inB_nat h2, cond_true, Int.toNat_natCast, getD_lt h1, getD_lt h2, cl_eq (show PL1 (a[i], b[i]) from h.at h1), Option.bind_some, w64n (show i < 9223372036854775807 by omega)]
    · intro rec
      unfold laws_eqRack.B1
      rw [decF (by omega)]
      rfl
  · rw [show (((a.length : Nat) : Int) != ((b.length : Nat) : Int)) = true by simpa using fun q => c (by omega), cond_true]
    rw [decF (fun e => c (by rw [e]))]
theorem s_eqRack : laws_eqRack.S (cl Bd1 fun x => decide (x.1 = x.2)) := laws_eqRack.of_cl s_eqStoredS fun x h => eqRack_pf x.1 x.2 h
theorem sSame2 {α : Type} (a b : List DS) (p q : List (List DS)) (j : Nat) (hj : j < p.length) (hq : j < q.length) (ea : p[j] = a) (eb : q[j] = b) (c : a.length = b.length) (h : a.length ≤ 1073741824) (no yes : Option α) :
    iter (spec_SameRack.B2 (j : Int) p q (fun _ => no) (fun _ => yes)) BIG 0 = cond (decide (a = b)) yes no := by
  subst ea eb
  have hz : (p[j].zip q[j]).length = p[j].length := by simp [c]
  rw [iter_first (p[j].zip q[j]) (fun i => (i : Int)) (fun p => !decide (p.1 = p.2)) (fun _ _ => no) yes (x := 0) rfl (big_lt (by omega)) ?_ ?_, firstOr_const, any_eq p[j] q[j] c]
  · by_cases e : p[j] = q[j] <;> simp [e]
  · intro i hi rec
    have h1 : i < p[j].length := by omega
    have h2 : i < q[j].length := by omega
    unfold spec_SameRack.B2
    rw [zip_at hi]
    simp only [inB_nat hj, inB_nat hq, cond_true, Int.toNat_natCast, getD_lt hj, getD_lt hq, decT (show (i : Int) < (p[j].length : Int) by omega), inB_nat h1, inB_nat h2, getD_lt h1, getD_lt h2, eqS, w64n (show i < 9223372036854775807 by omega)]
  · intro rec
    unfold spec_SameRack.B2
    simp only [inB_nat hj, cond_true, Int.toNat_natCast, getD_lt hj, hz, decF (show ¬ ((p[j].length : Int) < (p[j].length : Int)) by omega), cond_false]
theorem zip_len {β γ : Type} {a : List β} {b : List γ} (h : a.length = b.length) : (a.zip b).length = a.length := by simp [h]
theorem spec_SameRack_pf {α : Type} (a b : List (List DS)) (ha : Bd a) (k : Bool → Option α) : spec_SameRack.pf BIG a b k = k (decide (a = b)) := by
  have hl := ha.len
  unfold spec_SameRack.pf
  by_cases c : a.length = b.length
  · rw [bneF (by omega), cond_false]
    have hz := zip_len c
    rw [iter_first (a.zip b) (fun i => (i : Int)) (fun p => !decide (p.1 = p.2)) (fun _ _ => k false) (k true) (x := 0) rfl (big_lt (by omega)) ?_ ?_, firstOr_const, any_eq a b c]
    · by_cases e : a = b <;> simp [e]
    · intro i hi rec
      have h1 : i < a.length := by omega
      have h2 : i < b.length := by omega
      unfold spec_SameRack.B1
      rw [zip_at hi]
      simp only [decT (show (i : Int) < (a.length : Int) by omega), inB_nat h1, inB_nat h2, cond_true, Int.toNat_natCast, getD_lt h1, getD_lt h2, w64n (show i < 9223372036854775807 by omega)]
      by_cases e : a[i].length = b[i].length
      · rw [bneF (by omega), cond_false, sSame2 a[i] b[i] a b i h1 h2 rfl rfl e (ha.at h1)]
        by_cases e2 : a[i] = b[i] <;> simp [e2]
      · rw [bneT (by omega), cond_true, decF (fun q => e (by rw [q]))]; rfl
    · intro rec
      unfold spec_SameRack.B1
      rw [decF (by omega)]
      rfl
  · rw [bneT (by omega), cond_true, decF (fun e => c (by rw [e]))]
theorem s_spec_SameRack : spec_SameRack.S (cl Bd1 fun x => decide (x.1 = x.2)) := spec_SameRack.of_cl fun x h => spec_SameRack_pf x.1 x.2 h
theorem equal_pf {α : Type} (a b : List DS) (h : PL a) (k : Bool → Option α) : slices_Equal_impl_Stored_impl_Stored.pf BIG a b k = k (decide (a = b)) := by
  unfold PL at h
  unfold slices_Equal_impl_Stored_impl_Stored.pf
  by_cases c : a.length = b.length
  · rw [bneF (by omega), cond_false]
    have hz := zip_len c
    rw [iter_first (a.zip b) (fun i => (i : Int)) (fun p => !decide (p.1 = p.2)) (fun _ _ => k false) (k true) (x := 0) rfl (big_lt (by omega)) ?_ ?_, firstOr_const, any_eq a b c]
    · by_cases e : a = b <;> simp [e]
    · intro i hi rec
      have h1 : i < a.length := by omega
      have h2 : i < b.length := by omega
      unfold slices_Equal_impl_Stored_impl_Stored.B1
      rw [zip_at hi]
      simp only [decT (show (i : Int) < (a.length : Int) by omega), inB_nat h1, inB_nat h2, cond_true, Int.toNat_natCast, getD_lt h1, getD_lt h2, eqS, w64n (show i < 9223372036854775807 by omega)]
    · intro rec
      unfold slices_Equal_impl_Stored_impl_Stored.B1
      rw [decF (by omega)]
      rfl
  · rw [bneT (by omega), cond_true, decF (fun e => c (by rw [e]))]
theorem s_equal : slices_Equal_impl_Stored_impl_Stored.S (cl PL1 fun x => decide (x.1 = x.2)) := slices_Equal_impl_Stored_impl_Stored.of_cl fun x h => equal_pf x.1 x.2 h
theorem s_equalFunc : slices_EqualFunc_impl_Rack_impl_Rack_impl_Stored_impl_Stored__slices_Equal_impl_Stored_impl_Stored.S (cl Bd1 fun x => decide (x.1 = x.2)) :=
  slices_EqualFunc_impl_Rack_impl_Rack_impl_Stored_impl_Stored__slices_Equal_impl_Stored_impl_Stored.of_cl s_equal fun x h k => by
  obtain ⟨a, b⟩ := x
  have ha : Bd a := h
  have hl := ha.len
  show slices_EqualFunc_impl_Rack_impl_Rack_impl_Stored_impl_Stored__slices_Equal_impl_Stored_impl_Stored.pf _ BIG a b k = k (decide (a = b))
  unfold slices_EqualFunc_impl_Rack_impl_Rack_impl_Stored_impl_Stored__slices_Equal_impl_Stored_impl_Stored.pf
  by_cases c : a.length = b.length
  · rw [bneF (by omega), cond_false]
    have hz := zip_len c
    rw [iter_first (a.zip b) (fun i => (i : Int)) (fun p => !decide (p.1 = p.2)) (fun _ _ => k false) (k true) (x := 0) rfl (big_lt (by omega)) ?_ ?_, firstOr_const, any_eq a b c]
    · by_cases e : a = b <;> simp [e]
    · intro i hi rec
      have h1 : i < a.length := by omega
      have h2 : i < b.length := by omega
      unfold slices_EqualFunc_impl_Rack_impl_Rack_impl_Stored_impl_Stored__slices_Equal_impl_Stored_impl_Stored.B1
      rw [zip_at hi]
      simp only [decT (show (i : Int) < (a.length : Int) by omega), inB_nat h1, inB_nat h2, cond_true, Int.toNat_natCast, getD_lt h1, getD_lt h2, cl_eq (show PL1 (a[i], b[i]) from ha.at h1), Option.bind_some, w64n (show i < 9223372036854775807 by omega)]
    · intro rec
      unfold slices_EqualFunc_impl_Rack_impl_Rack_impl_Stored_impl_Stored__slices_Equal_impl_Stored_impl_Stored.B1
      rw [decF (by omega)]
      rfl
  · rw [bneT (by omega), cond_true, decF (fun e => c (by rw [e]))]
theorem s_impl_SameRack : impl_SameRack.S (cl Bd1 fun x => decide (x.1 = x.2)) := impl_SameRack.of_cl s_equalFunc fun x h k => by
  unfold impl_SameRack.pf
  rw [show (x.1, x.2) = x from rfl, cl_eq h]
  rfl
/-- Whole numbers of their kinds. -/
def wB (b : DB) : Prop := 0 ≤ b.1 ∧ b.1 ≤ 255 ∧ -32768 ≤ b.2 ∧ b.2 ≤ 32767
def wS (s : DS) : Prop := wB s.1 ∧ -32768 ≤ s.2 ∧ s.2 ≤ 32767
def wL (l : List DS) : Prop := PL l ∧ ∀ s, s ∈ l → wS s
def wR (r : List (List DS)) : Prop := Bd r ∧ ∀ l, l ∈ r → ∀ s, s ∈ l → wS s
theorem wR.at {r : List (List DS)} (h : wR r) {k : Nat} (hk : k < r.length) : wL r[k] := ⟨h.1.pl hk, h.2 _ (List.getElem_mem hk)⟩
theorem wL.at {l : List DS} (h : wL l) {k : Nat} (hk : k < l.length) : wS l[k] := h.2 _ (List.getElem_mem hk)
theorem good_B {b : DB} (h : goodV (.st (.pair (.int .u8) (.int .i16))) b) : wB b := by
  obtain ⟨h1, h2⟩ := h
  simp only [goodV, Lit.wf, IntKind.min, IntKind.max, IntKind.bits, IntKind.signed] at h1 h2
  simp at h1 h2
  unfold wB
  omega
theorem good_S {s : DS} (h : goodV (.st (.pair (.st (.pair (.int .u8) (.int .i16))) (.int .i16))) s) : wS s := by
  obtain ⟨h1, h2⟩ := h
  refine ⟨good_B h1, ?_⟩
  simp only [goodV, Lit.wf, IntKind.min, IntKind.max, IntKind.bits, IntKind.signed] at h2
  simp at h2
  omega
/-- What comes in. -/
def gR (r : List (List DS)) : Prop := r.length ≤ maxLen ∧ (∀ l, l ∈ r → l.length ≤ maxLen) ∧ ∀ l, l ∈ r → ∀ s, s ∈ l → wS s
theorem good_rack {e e' : TypeId} {r : List (List DS)} (h : goodV (.row e (.row e' (.st (.pair (.st (.pair (.int .u8) (.int .i16))) (.int .i16))))) r) : gR r := by
  obtain ⟨h1, h2⟩ := h
  have h3 : ∀ l, l ∈ r → goodV (.row e' (.st (.pair (.st (.pair (.int .u8) (.int .i16))) (.int .i16)))) l := fun l hl => by
    obtain ⟨i, hi, rfl⟩ := List.mem_iff_getElem.1 hl
    have := h2 i hi
    rwa [getD_lt hi] at this
  refine ⟨h1, fun l hl => (h3 l hl).1, fun l hl s hs => ?_⟩
  obtain ⟨i, hi, rfl⟩ := List.mem_iff_getElem.1 hs
  have := (h3 l hl).2 i hi
  rw [getD_lt hi] at this
  exact good_S this
theorem s_law_SameRack : laws_FnExactSameRack.S (cl (fun x => gR x.1 ∧ gR x.2) fun _ => true) :=
  laws_FnExactSameRack.of_cl s_szRack s_toRack s_spec_SameRack s_impl_SameRack s_eqRack fun x ⟨⟨h1, h2, _⟩, h3, h4, _⟩ k => by
  obtain ⟨a, b⟩ := x
  simp only at h1 h2 h3 h4
  show laws_FnExactSameRack.pf _ _ _ _ _ BIG a b k = k true
  unfold laws_FnExactSameRack.pf
  rw [cl_eq (show PszR (a, 1048576) from ⟨h1, h2, by simp, by simp⟩), Option.bind_some]
  by_cases c : vszR (a, 1048576) < 0
  · rw [decT c]; rfl
  · obtain ⟨ba, n0, n1⟩ := sz_bd (by omega) (by omega) c
    rw [decF c, cond_false, cl_eq (show PszR (b, vszR (a, 1048576)) from ⟨h3, h4, n0, n1⟩), Option.bind_some]
    by_cases c2 : vszR (b, vszR (a, 1048576)) < 0
    · rw [decT c2]; rfl
    · obtain ⟨bb, _, _⟩ := sz_bd n0 n1 c2
      rw [decF c2, cond_false]
      simp only [cl_eq ba, cl_eq bb, Option.bind_some, cl_eq (show Bd1 (a, b) from ba), cl_eq (show Bd1 (a, a) from ba), cl_eq (show Bd1 (b, b) from bb)]
      simp
end Go.Proofs.Ytneefjegejlfeaa.G
