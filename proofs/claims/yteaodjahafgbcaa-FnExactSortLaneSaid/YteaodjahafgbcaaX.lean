/- Plain proofs: what the functions answer, in plain lists and numbers. -/
import Derived.Test.YteaodjahafgbcaaRd0
import Derived.Test.YteaodjahafgbcaaRd1
import Derived.Test.YteaodjahafgbcaaRd2
namespace Go.Proofs.Yteaodjahafgbcaa.G
open Go
set_option linter.unusedVariables false
set_option linter.unusedSimpArgs false
set_option maxRecDepth 10000
abbrev DB := Int × Int
abbrev DS := DB × Int
abbrev dS : DS := ((0, 0), 0)
theorem s_toBottle : laws_toBottle.S (tot fun x => x) := laws_toBottle.of_tot fun x k => rfl
theorem s_toStored : laws_toStored.S (tot fun x => x) := laws_toStored.of_tot s_toBottle fun x k => rfl
/-- A copy, element by element. -/
theorem copied {β : Type} {l o : List β} {k : Nat} {d : β} (h : k < l.length) (ho : o.length = l.length) (hp : o.take k = l.take k) : (o.set k l[k]).take (k + 1) = l.take (k + 1) ∧ (o.set k l[k]).length = l.length := by
  refine ⟨?_, by simpa using ho⟩
  rw [List.take_succ_eq_append_getElem (by simpa [ho] using h), List.take_succ_eq_append_getElem h, List.take_set_of_le (Nat.le_refl k), hp]
  simp
theorem toStoredS_pf {α : Type} (l : List DS) (h : l.length ≤ 1073741824) (k : List DS → Option α) : laws_toStoredS.pf (tot fun x => x) BIG l k = k l := by
  unfold laws_toStoredS.pf
  rw [inW_true (by omega) (by omega) (by unfold LIM; omega)]
  simp only [cond_true]
  refine (iter_list (B := laws_toStoredS.B1 (tot fun x => x) l fun x1 => k x1.2) l (fun i (c : List DS) => ((i : Int), c)) (fun _ _ => k l) (fun i c => c.length = l.length ∧ c.take i = l.take i) (c := List.replicate l.length dS) (by simp) (big_lt (by omega)) (by simp) ?_ ?_)
  · rintro i hi c rec ⟨h1, h2⟩ hrec
    unfold laws_toStoredS.B1
    simp only [decT (show (i : Int) < (l.length : Int) by omega), inB_nat hi, inB_nat (h1 ▸ hi : i < c.length), cond_true, Int.toNat_natCast, getD_lt hi, tot_eq, Option.bind_some, w64n (show i < 9223372036854775807 by omega)]
    have := copied (d := dS) hi h1 h2
    exact hrec _ ⟨this.2, this.1⟩
  · rintro c rec ⟨h1, h2⟩
    unfold laws_toStoredS.B1
    rw [decF (by omega)]
    rw [List.take_of_length_le (by omega), List.take_of_length_le (Nat.le_refl _)] at h2
    simp only [cond_false, h2]
theorem s_toStoredS : laws_toStoredS.S (cl PL fun l => l) := laws_toStoredS.of_cl s_toStored fun x h => toStoredS_pf x h
theorem toRack_pf {α : Type} (l : List (List DS)) (h : Bd l) (k : List (List DS) → Option α) : laws_toRack.pf (cl PL fun l => l) BIG l k = k l := by
  have hl := h.len
  unfold laws_toRack.pf
  rw [inW_true (by omega) (by omega) (by unfold LIM; omega)]
  simp only [cond_true]
  refine (iter_list (B := laws_toRack.B1 (cl PL fun l => l) l fun x1 => k x1.2) l (fun i (c : List (List DS)) => ((i : Int), c)) (fun _ _ => k l) (fun i c => c.length = l.length ∧ c.take i = l.take i) (c := List.replicate l.length []) (by simp) (big_lt (by omega)) (by simp) ?_ ?_)
  · rintro i hi c rec ⟨h1, h2⟩ hrec
    unfold laws_toRack.B1
    simp only [decT (show (i : Int) < (l.length : Int) by omega), inB_nat hi, inB_nat (h1 ▸ hi : i < c.length), cond_true, Int.toNat_natCast, getD_lt hi, cl_eq (h.pl hi), Option.bind_some, w64n (show i < 9223372036854775807 by omega)]
    have := copied (d := ([] : List DS)) hi h1 h2
    exact hrec _ ⟨this.2, this.1⟩
  · rintro c rec ⟨h1, h2⟩
    unfold laws_toRack.B1
    rw [decF (by omega)]
    rw [List.take_of_length_le (by omega), List.take_of_length_le (Nat.le_refl _)] at h2
    simp only [cond_false, h2]
theorem s_toRack : laws_toRack.S (cl Bd fun l => l) :=
  laws_toRack.of_cl s_toStoredS fun x h => toRack_pf x h
def Psz (x : List DS × Int) : Prop := x.1.length ≤ maxLen ∧ 0 ≤ x.2 ∧ x.2 ≤ 1048576
def vsz (x : List DS × Int) : Int := if x.2 < x.1.length then -1 else x.2 - x.1.length
theorem s_szStoredS : laws_szStoredS.S (cl Psz vsz) :=
  laws_szStoredS.of_cl fun x ⟨h1, h2, h3⟩ k => by
    unfold maxLen at h1
    unfold laws_szStoredS.pf vsz
    rw [w64 (by omega) (by omega)]
    by_cases c : x.2 < x.1.length
    · rw [decT (by omega), if_pos c]; rfl
    · rw [decF (by omega), if_neg c]; rfl
/-- What is left over. -/
def szL (n : Int) : List (List DS) → Int
  | [] => n
  | x :: l => if n < x.length then -1 else szL (n - x.length) l
theorem szRack_pf {α : Type} (l : List (List DS)) (n : Int) (h : l.length ≤ maxLen) (hr : ∀ x, x ∈ l → x.length ≤ maxLen) (h0 : 0 ≤ n) (h1 : n ≤ 1048576) (k : Int → Option α) :
    laws_szRack.pf (cl Psz vsz) BIG l n k = k (if n < l.length then -1 else szL (n - l.length) l) := by
  have hl := h
  unfold maxLen at hl
  unfold laws_szRack.pf
  rw [w64 (by omega) (by omega)]
  by_cases c : n < l.length
  · rw [decT (by omega), if_pos c]; rfl
  · rw [decF (by omega), if_neg c, cond_false]
    refine iter_list l (fun i (c : Int) => (c, (i : Int))) (fun r c => k (szL c r)) (fun i c => 0 ≤ c ∧ c ≤ 1048576) (c := n - l.length) rfl (big_lt (by omega)) (by omega) ?_ ?_
    · rintro i hi c rec ⟨h2, h3⟩ hrec
      unfold laws_szRack.B1
      simp only [decT (show (i : Int) < (l.length : Int) by omega), inB_nat hi, cond_true, Int.toNat_natCast, getD_lt hi, cl_eq (show Psz (l[i], c) from ⟨hr _ (List.getElem_mem hi), h2, h3⟩), vsz, Option.bind_some, w64n (show i < 9223372036854775807 by omega), szL]
      by_cases q : c < (l[i].length : Int)
      · simp only [if_pos q]; rfl
      · simp only [if_neg q, decF (show ¬ (c - (l[i].length : Int) < 0) by omega), cond_false]
        exact hrec _ (by omega)
    · rintro c rec _
      unfold laws_szRack.B1
      rw [decF (by omega)]
      rfl
def PszR (x : List (List DS) × Int) : Prop := x.1.length ≤ maxLen ∧ (∀ r, r ∈ x.1 → r.length ≤ maxLen) ∧ 0 ≤ x.2 ∧ x.2 ≤ 1048576
def vszR (x : List (List DS) × Int) : Int := if x.2 < x.1.length then -1 else szL (x.2 - x.1.length) x.1
theorem s_szRack : laws_szRack.S (cl PszR vszR) := laws_szRack.of_cl s_szStoredS fun x ⟨h1, h2, h3, h4⟩ => szRack_pf x.1 x.2 h1 h2 h3 h4
theorem szL_nn : ∀ (l : List (List DS)) (n : Int), 0 ≤ n → 0 ≤ szL n l → szL n l = n - ((l.map List.length).sum : Nat)
  | [], n, _, _ => by simp [szL]
  | x :: l, n, h, h1 => by
    unfold szL at h1 ⊢
    by_cases c : n < x.length
    · rw [if_pos c] at h1; omega
    · rw [if_neg c] at h1 ⊢
      rw [szL_nn l _ (by omega) h1]
      simp
      omega
/-- What went through is small. -/
theorem sz_bd {l : List (List DS)} {n : Int} (h0 : 0 ≤ n) (h1 : n ≤ 1048576) (h : ¬ vszR (l, n) < 0) : Bd l ∧ 0 ≤ vszR (l, n) ∧ vszR (l, n) ≤ 1048576 := by
  unfold vszR at h ⊢
  simp only at h ⊢
  by_cases c : n < l.length
  · rw [if_pos c] at h; omega
  · rw [if_neg c] at h ⊢
    have := szL_nn l (n - l.length) (by omega) (by omega)
    unfold Bd
    omega
theorem s_eqBottle : laws_eqBottle.S (tot fun x => decide (x.1 = x.2)) := laws_eqBottle.of_tot fun x k => by
  obtain ⟨⟨a1, a2⟩, b1, b2⟩ := x
  unfold laws_eqBottle.pf
  by_cases h1 : a1 = b1
  · by_cases h2 : a2 = b2
    · simp [h1, h2]
    · simp [h1, h2, bneT h2]
  · simp [h1, bneT h1]
theorem s_eqStored : laws_eqStored.S (tot fun x => decide (x.1 = x.2)) := laws_eqStored.of_tot s_eqBottle fun x k => by
  obtain ⟨⟨a1, a2⟩, b1, b2⟩ := x
  unfold laws_eqStored.pf
  by_cases h1 : a1 = b1
  · by_cases h2 : a2 = b2
    · simp [h1, h2, tot]
    · simp [h1, h2, tot, bneT h2]
  · simp [h1, tot]
/-- Lists of one length are alike where no pair of elements differs. -/
theorem any_eq {β : Type} [DecidableEq β] : ∀ (a b : List β), a.length = b.length → (a.zip b).any (fun p => !decide (p.1 = p.2)) = !decide (a = b)
  | [], [], _ => by simp
  | [], _ :: _, h => by simp at h
  | _ :: _, [], h => by simp at h
  | x :: a, y :: b, h => by
    rw [List.zip_cons_cons, List.any_cons, any_eq a b (by simpa using h)]
    by_cases c : x = y <;> by_cases c2 : a = b <;> simp [c, c2]
theorem zip_at {β γ : Type} {a : List β} {b : List γ} {k : Nat} (h : k < (a.zip b).length) : (a.zip b)[k] = (a[k]'(by simp at h; omega), b[k]'(by simp at h; omega)) := by simp
theorem eqStoredS_pf {α : Type} (a b : List DS) (h : a.length ≤ 1073741824) (k : Bool → Option α) : laws_eqStoredS.pf (tot fun x => decide (x.1 = x.2)) BIG a b k = k (decide (a = b)) := by
  unfold laws_eqStoredS.pf
  by_cases c : a.length = b.length
  · rw [show (((a.length : Nat) : Int) != ((b.length : Nat) : Int)) = false by simp [c], cond_false]
    have hz : (a.zip b).length = a.length := by simp [c]
    rw [iter_first (a.zip b) (fun i => (i : Int)) (fun p => !decide (p.1 = p.2)) (fun _ _ => k false) (k true) (x := 0) rfl (big_lt (by omega)) ?_ ?_, firstOr_const, any_eq a b c]
    · by_cases e : a = b <;> simp [e]
    · intro i hi rec
      have h1 : i < a.length := by omega
      have h2 : i < b.length := by omega
      unfold laws_eqStoredS.B1
      rw [zip_at hi]
      simp only [decT (show (i : Int) < (a.length : Int) by omega), inB_nat h1, inB_nat h2, cond_true, Int.toNat_natCast, getD_lt h1, getD_lt h2, tot_eq, Option.bind_some, w64n (show i < 9223372036854775807 by omega)]
    · intro rec
      unfold laws_eqStoredS.B1
      rw [decF (by omega)]
      rfl
  · rw [show (((a.length : Nat) : Int) != ((b.length : Nat) : Int)) = true by simpa using fun q => c (by omega), cond_true]
    rw [decF (fun e => c (by rw [e]))]
theorem s_eqStoredS : laws_eqStoredS.S (cl PL1 fun x => decide (x.1 = x.2)) := laws_eqStoredS.of_cl s_eqStored fun x h => eqStoredS_pf x.1 x.2 h
theorem eqRack_pf {α : Type} (a b : List (List DS)) (h : Bd a) (k : Bool → Option α) : laws_eqRack.pf (cl PL1 fun x => decide (x.1 = x.2)) BIG a b k = k (decide (a = b)) := by
  have hl := h.len
  unfold laws_eqRack.pf
  by_cases c : a.length = b.length
  · rw [show (((a.length : Nat) : Int) != ((b.length : Nat) : Int)) = false by simp [c], cond_false]
    have hz : (a.zip b).length = a.length := by simp [c]
    rw [iter_first (a.zip b) (fun i => (i : Int)) (fun p => !decide (p.1 = p.2)) (fun _ _ => k false) (k true) (x := 0) rfl (big_lt (by omega)) ?_ ?_, firstOr_const, any_eq a b c]
    · by_cases e : a = b <;> simp [e]
    · intro i hi rec
      have h1 : i < a.length := by omega
      have h2 : i < b.length := by omega
      unfold laws_eqRack.B1
      rw [zip_at hi]
      simp only [decT (show (i : Int) < (a.length : Int) by omega), inB_nat h1, inB_nat h2, cond_true, Int.toNat_natCast, getD_lt h1, getD_lt h2, cl_eq (show PL1 (a[i], b[i]) from h.at h1), Option.bind_some, w64n (show i < 9223372036854775807 by omega)]
    · intro rec
      unfold laws_eqRack.B1
      rw [decF (by omega)]
      rfl
  · rw [show (((a.length : Nat) : Int) != ((b.length : Nat) : Int)) = true by simpa using fun q => c (by omega), cond_true]
    rw [decF (fun e => c (by rw [e]))]
theorem s_eqRack : laws_eqRack.S (cl Bd1 fun x => decide (x.1 = x.2)) := laws_eqRack.of_cl s_eqStoredS fun x h => eqRack_pf x.1 x.2 h
/-- What is written, and the number behind it. -/
def markL : Int → List DS → Int × List DS
  | k, [] => (k, [])
  | k, _ :: l => ((markL (IntKind.i64.wrap (IntKind.i64.wrap (IntKind.i64.wrap (k + 1) + 1) + 1)) l).1, ((IntKind.u8.wrap k, IntKind.i16.wrap (IntKind.i64.wrap (k + 1))), IntKind.i16.wrap (IntKind.i64.wrap (IntKind.i64.wrap (k + 1) + 1))) :: (markL (IntKind.i64.wrap (IntKind.i64.wrap (IntKind.i64.wrap (k + 1) + 1) + 1)) l).2)
def heldL : Int → List DS → Int
  | k, [] => k
  | k, x :: l => if x = ((IntKind.u8.wrap k, IntKind.i16.wrap (IntKind.i64.wrap (k + 1))), IntKind.i16.wrap (IntKind.i64.wrap (IntKind.i64.wrap (k + 1) + 1))) then heldL (IntKind.i64.wrap (IntKind.i64.wrap (IntKind.i64.wrap (k + 1) + 1) + 1)) l else -1
theorem held_markL : ∀ (l : List DS) (k : Int), heldL k (markL k l).2 = (markL k l).1
  | [], _ => rfl
  | x :: l, k => by
    unfold markL heldL
    rw [if_pos rfl]
    exact held_markL l _
theorem markL_len : ∀ (l : List DS) (k : Int), (markL k l).2.length = l.length
  | [], _ => rfl
  | x :: l, k => by unfold markL; simp [markL_len l]
theorem markL_fst : ∀ (l : List DS) (k : Int), 0 ≤ k → k + 3 * l.length ≤ 9223372036854775807 → (markL k l).1 = k + 3 * l.length
  | [], k, _, _ => by simp [markL]
  | x :: l, k, h0, h => by
    simp only [List.length_cons] at h ⊢
    unfold markL
    rw [w64 (n := k + 1) (by omega) (by omega), w64 (n := k + 1 + 1) (by omega) (by omega), w64 (n := k + 1 + 1 + 1) (by omega) (by omega)]
    simp only
    rw [markL_fst l _ (by omega) (by omega)]
    omega
theorem setD_same {β : Type} {l : List β} {k : Nat} {x d : β} (h : k < l.length) : (l.set k x).getD k d = x := by
  rw [List.getD_eq_getElem?_getD, List.getElem?_set_self h]; rfl
theorem take_set {β : Type} {l : List β} {k : Nat} {x : β} (h : k < l.length) : (l.set k x).take (k + 1) = l.take k ++ [x] := by
  rw [List.take_succ_eq_append_getElem (by simpa using h), List.take_set_of_le (Nat.le_refl k)]
  simp
theorem markStoredS_pf {α : Type} (l : List DS) (n : Int) (h : l.length ≤ 1073741824) (k : Int × List DS → Option α) : laws_markStoredS.pf BIG l n k = k (markL n l) := by
  unfold laws_markStoredS.pf
  refine (iter_list l (fun i (c : Int × List DS) => (c.1, (i : Int), c.2)) (fun r c => k ((markL c.1 r).1, c.2.take (l.length - r.length) ++ (markL c.1 r).2)) (fun i c => c.2.length = l.length) (c := (n, l)) rfl (big_lt (by omega)) rfl ?_ ?_).trans (by simp)
  · rintro i hi ⟨m, c⟩ rec h1 hrec
    simp only at h1
    have hc : i < c.length := by omega
    unfold laws_markStoredS.B1
    have e1 : l.length - (l.drop (i + 1)).length = i + 1 := by rw [List.length_drop]; omega
    have e2 : l.length - (l[i] :: l.drop (i + 1)).length = i := by rw [List.length_cons, List.length_drop]; omega
    simp only [decT (show (i : Int) < (c.length : Int) by omega), inB_nat hc, cond_true, Int.toNat_natCast, List.length_set, List.set_set, setD_same hc, w64n (show i < 9223372036854775807 by omega)]
    refine (hrec (IntKind.i64.wrap (IntKind.i64.wrap (IntKind.i64.wrap (m + 1) + 1) + 1), c.set i ((IntKind.u8.wrap m, IntKind.i16.wrap (IntKind.i64.wrap (m + 1))), IntKind.i16.wrap (IntKind.i64.wrap (IntKind.i64.wrap (m + 1) + 1)))) (by simpa using h1)).trans ?_
    simp only [e1, e2, take_set hc, markL, List.append_assoc, List.cons_append, List.nil_append]
  · rintro ⟨m, c⟩ rec h1
    simp only at h1
    unfold laws_markStoredS.B1
    rw [decF (by simp only; omega)]
    simp only [cond_false, markL, List.length_nil, Nat.sub_zero, List.append_nil]
    rw [List.take_of_length_le (by omega)]
theorem s_markStoredS : laws_markStoredS.S (cl PL1 fun x => markL x.2 x.1) := laws_markStoredS.of_cl fun x h => markStoredS_pf x.1 x.2 h
theorem heldStoredS_pf {α : Type} (l : List DS) (n : Int) (h : l.length ≤ 1073741824) (k : Int → Option α) : laws_heldStoredS.pf BIG l n k = k (heldL n l) := by
  unfold laws_heldStoredS.pf
  refine iter_list l (fun i (c : Int) => (c, (i : Int))) (fun r c => k (heldL c r)) (fun i c => True) (c := n) rfl (big_lt (by omega)) trivial ?_ ?_
  · rintro i hi c rec _ hrec
    unfold laws_heldStoredS.B1
    simp only [decT (show (i : Int) < (l.length : Int) by omega), inB_nat hi, cond_true, Int.toNat_natCast, getD_lt hi, w64n (show i < 9223372036854775807 by omega), heldL]
    generalize l[i] = x
    obtain ⟨⟨x1, x2⟩, x3⟩ := x
    simp only [Prod.mk.injEq]
    by_cases c1 : x1 = IntKind.u8.wrap c
    · rw [bneF c1, cond_false]
      by_cases c2 : x2 = IntKind.i16.wrap (IntKind.i64.wrap (c + 1))
      · rw [bneF c2, cond_false]
        by_cases c3 : x3 = IntKind.i16.wrap (IntKind.i64.wrap (IntKind.i64.wrap (c + 1) + 1))
        · rw [bneF c3, cond_false, if_pos ⟨⟨c1, c2⟩, c3⟩]
          exact hrec _ trivial
        · rw [bneT c3, if_neg (fun q => c3 q.2)]; rfl
      · rw [bneT c2, if_neg (fun q => c2 q.1.2)]; rfl
    · rw [bneT c1, if_neg (fun q => c1 q.1.1)]; rfl
  · rintro c rec _
    unfold laws_heldStoredS.B1
    rw [decF (by simp only; omega)]
    rfl
theorem s_heldStoredS : laws_heldStoredS.S (cl PL1 fun x => heldL x.2 x.1) := laws_heldStoredS.of_cl fun x h => heldStoredS_pf x.1 x.2 h
def markR : Int → List (List DS) → Int × List (List DS)
  | k, [] => (k, [])
  | k, x :: l => ((markR (markL k x).1 l).1, (markL k x).2 :: (markR (markL k x).1 l).2)
def heldR : Int → List (List DS) → Int
  | k, [] => k
  | k, x :: l => if heldL k x < 0 then -1 else heldR (heldL k x) l
theorem markRack_pf {α : Type} (l : List (List DS)) (n : Int) (h : Bd l) (k : Int × List (List DS) → Option α) : laws_markRack.pf (cl PL1 fun x => markL x.2 x.1) BIG l n k = k (markR n l) := by
  have hl := h.len
  unfold laws_markRack.pf
  refine (iter_list l (fun i (c : Int × List (List DS)) => (c.1, (i : Int), c.2)) (fun r c => k ((markR c.1 r).1, c.2.take (l.length - r.length) ++ (markR c.1 r).2)) (fun i c => c.2.length = l.length ∧ c.2.drop i = l.drop i) (c := (n, l)) rfl (big_lt (by omega)) ⟨rfl, rfl⟩ ?_ ?_).trans (by simp)
  · rintro i hi ⟨m, c⟩ rec ⟨h1, h2⟩ hrec
    simp only at h1 h2
    have hc : i < c.length := by omega
    have hci : c[i] = l[i] := by
      have := congrArg (fun z => z[0]?) h2
      simpa [hc, hi] using this
    unfold laws_markRack.B1
    have e1 : l.length - (l.drop (i + 1)).length = i + 1 := by rw [List.length_drop]; omega
    have e2 : l.length - (l[i] :: l.drop (i + 1)).length = i := by rw [List.length_cons, List.length_drop]; omega
    simp only [decT (show (i : Int) < (c.length : Int) by omega), inB_nat hc, cond_true, Int.toNat_natCast, getD_lt hc, hci, cl_eq (show PL1 (l[i], m) from h.at hi), Option.bind_some, w64n (show i < 9223372036854775807 by omega)]
    refine (hrec (_, _) ⟨by simpa using h1, ?_⟩).trans ?_
    · rw [List.drop_set_of_lt (by omega)]
      have := congrArg (List.drop 1) h2
      simpa [List.drop_drop, Nat.add_comm] using this
    · simp only [e1, e2, take_set hc, markR, List.append_assoc, List.cons_append, List.nil_append]
  · rintro ⟨m, c⟩ rec ⟨h1, h2⟩
    simp only at h1
    unfold laws_markRack.B1
    rw [decF (by simp only; omega)]
    simp only [cond_false, markR, List.length_nil, Nat.sub_zero, List.append_nil]
    rw [List.take_of_length_le (by omega)]
theorem s_markRack : laws_markRack.S (cl Bd1 fun x => markR x.2 x.1) := laws_markRack.of_cl s_markStoredS fun x h => markRack_pf x.1 x.2 h
theorem heldRack_pf {α : Type} (l : List (List DS)) (n : Int) (h : Bd l) (k : Int → Option α) : laws_heldRack.pf (cl PL1 fun x => heldL x.2 x.1) BIG l n k = k (heldR n l) := by
  have hl := h.len
  unfold laws_heldRack.pf
  refine iter_list l (fun i (c : Int) => (c, (i : Int))) (fun r c => k (heldR c r)) (fun i c => True) (c := n) rfl (big_lt (by omega)) trivial ?_ ?_
  · rintro i hi c rec _ hrec
    unfold laws_heldRack.B1
    simp only [decT (show (i : Int) < (l.length : Int) by omega), inB_nat hi, cond_true, Int.toNat_natCast, getD_lt hi, cl_eq (show PL1 (l[i], c) from h.at hi), Option.bind_some, w64n (show i < 9223372036854775807 by omega), heldR]
    by_cases q : heldL c l[i] < 0
    · rw [decT q, if_pos q]; rfl
    · rw [decF q, if_neg q]; exact hrec _ trivial
  · rintro c rec _
    unfold laws_heldRack.B1
    rw [decF (by simp only; omega)]
    rfl
theorem s_heldRack : laws_heldRack.S (cl Bd1 fun x => heldR x.2 x.1) := laws_heldRack.of_cl s_heldStoredS fun x h => heldRack_pf x.1 x.2 h
theorem held_markR : ∀ (l : List (List DS)) (k : Int), 0 ≤ k → k + 3 * (l.map List.length).sum ≤ 9223372036854775807 → heldR k (markR k l).2 = (markR k l).1 ∧ 0 ≤ (markR k l).1
  | [], k, h0, _ => ⟨rfl, h0⟩
  | x :: l, k, h0, h => by
    simp only [List.map_cons, List.sum_cons] at h
    have e := markL_fst x k h0 (by omega)
    unfold markR heldR
    simp only [held_markL]
    rw [if_neg (by omega)]
    exact held_markR l _ (by omega) (by omega)
theorem markR_bd (l : List (List DS)) (k : Int) (h : Bd l) : Bd (markR k l).2 := by
  have : ∀ (l : List (List DS)) (k : Int), (markR k l).2.map List.length = l.map List.length := by
    intro l
    induction l with
    | nil => intro k; rfl
    | cons x l ih => intro k; unfold markR; simp [markL_len, ih]
  have h2 := congrArg List.length (this l k)
  simp only [List.length_map] at h2
  unfold Bd at h ⊢
  rw [this, h2]
  exact h
def validB (b : DB) : Bool := decide (1 ≤ b.1) && decide (b.1 ≤ 20) && (decide (1900 ≤ b.2) && decide (b.2 ≤ 2099))
def validS (s : DS) : Bool := validB s.1 && (decide (0 ≤ s.2) && decide (s.2 ≤ 2000))
def validR (r : List (List DS)) : Bool := decide (r.length ≤ 8) && r.all fun l => decide (l.length ≤ 6) && l.all validS
/-- Whole numbers of their kinds. -/
def wB (b : DB) : Prop := 0 ≤ b.1 ∧ b.1 ≤ 255 ∧ -32768 ≤ b.2 ∧ b.2 ≤ 32767
def wS (s : DS) : Prop := wB s.1 ∧ -32768 ≤ s.2 ∧ s.2 ≤ 32767
def wL (l : List DS) : Prop := PL l ∧ ∀ s, s ∈ l → wS s
def wR (r : List (List DS)) : Prop := Bd r ∧ ∀ l, l ∈ r → ∀ s, s ∈ l → wS s
theorem wR.at {r : List (List DS)} (h : wR r) {k : Nat} (hk : k < r.length) : wL r[k] := ⟨h.1.pl hk, h.2 _ (List.getElem_mem hk)⟩
theorem wL.at {l : List DS} (h : wL l) {k : Nat} (hk : k < l.length) : wS l[k] := h.2 _ (List.getElem_mem hk)
theorem s_l00In : spec_l00In.S (tot fun x => decide (x.2.1 ≤ x.1) && decide (x.1 ≤ x.2.2)) := spec_l00In.of_tot fun x k => by
  unfold spec_l00In.pf
  by_cases c : x.2.1 ≤ x.1
  · rw [decT (show x.1 ≥ x.2.1 from c)]; rfl
  · rw [decF (show ¬ x.1 ≥ x.2.1 from c)]; rfl
theorem s_within : impl_within.S (tot fun x => decide (x.2.1 ≤ x.1) && decide (x.1 ≤ x.2.2)) := impl_within.of_tot fun x k => by
  unfold impl_within.pf
  by_cases c : x.2.1 ≤ x.1
  · rw [decT c]; rfl
  · rw [decF c]; rfl
theorem s_l01Bottle : spec_l01Bottle.S (cl wB validB) := spec_l01Bottle.of_cl s_l00In fun x ⟨h1, h2, h3, h4⟩ k => by
  unfold spec_l01Bottle.pf validB
  simp only [tot_eq, Option.bind_some, w64 (n := x.1) (by omega) (by omega), w64 (n := x.2) (by omega) (by omega)]
  cases decide (1 ≤ x.1) && decide (x.1 ≤ 20) <;> rfl
theorem s_ValidBottle : impl_ValidBottle.S (cl wB validB) := impl_ValidBottle.of_cl s_within fun x ⟨h1, h2, h3, h4⟩ k => by
  unfold impl_ValidBottle.pf validB
  simp only [tot_eq, Option.bind_some, w64 (n := x.1) (by omega) (by omega), w64 (n := x.2) (by omega) (by omega)]
  cases decide (1 ≤ x.1) && decide (x.1 ≤ 20) <;> rfl
theorem s_l04Stored : spec_l04Stored.S (cl wS validS) := spec_l04Stored.of_cl s_l01Bottle s_l00In fun x ⟨h1, h2, h3⟩ k => by
  unfold spec_l04Stored.pf validS
  rw [cl_eq h1, w64 (n := x.2) (by omega) (by omega)]
  simp only [tot_eq, Option.bind_some]
  cases validB x.1 <;> rfl
theorem s_validStored : impl_validStored.S (cl wS validS) := impl_validStored.of_cl s_ValidBottle s_within fun x ⟨h1, h2, h3⟩ k => by
  unfold impl_validStored.pf validS
  rw [cl_eq h1, w64 (n := x.2) (by omega) (by omega)]
  simp only [tot_eq, Option.bind_some]
  cases validB x.1 <;> rfl
theorem any_not {β : Type} (l : List β) (p : β → Bool) : (l.any fun x => !p x) = !l.all p := by
  induction l with
  | nil => rfl
  | cons x l ih => rw [List.any_cons, List.all_cons, ih, Bool.not_and]
theorem s_l04All : spec_l04All.S (cl wL fun l => l.all validS) := spec_l04All.of_cl s_l04Stored fun x h k => by
  have hl : x.length ≤ 1073741824 := h.1
  unfold spec_l04All.pf
  rw [iter_first x (fun i => (i : Int)) (fun s => !validS s) (fun _ _ => k false) (k true) (x := 0) rfl (big_lt (by omega)) ?_ ?_, firstOr_const, any_not]
  · cases x.all validS <;> rfl
  · intro i hi rec
    unfold spec_l04All.B1
    simp only [decT (show (i : Int) < (x.length : Int) by omega), inB_nat hi, cond_true, Int.toNat_natCast, getD_lt hi, cl_eq (h.at hi), Option.bind_some, w64n (show i < 9223372036854775807 by omega)]
  · intro rec
    unfold spec_l04All.B1
    rw [decF (by omega)]
    rfl
theorem s_l04Ok : spec_l04Ok.S (cl wR validR) := spec_l04Ok.of_cl s_l04All fun x h k => by
  have hl := h.1.len
  unfold spec_l04Ok.pf
  rw [iter_first x (fun i => (i : Int)) (fun l => !(decide (l.length ≤ 6) && l.all validS)) (fun _ _ => k false) (k (decide (x.length ≤ 8))) (x := 0) rfl (big_lt (by omega)) ?_ ?_, firstOr_const, any_not]
  · unfold validR
    cases x.all fun l => decide (l.length ≤ 6) && l.all validS
    · rw [Bool.and_false]; rfl
    · rw [Bool.and_true]; rfl
  · intro i hi rec
    have := h.1.at hi
    unfold spec_l04Ok.B1
    simp only [decT (show (i : Int) < (x.length : Int) by omega), inB_nat hi, cond_true, Int.toNat_natCast, getD_lt hi, cl_eq (h.at hi), Option.bind_some, w64n (show i < 9223372036854775807 by omega)]
    by_cases c : x[i].length ≤ 6
    · rw [decF (show ¬ ((x[i].length : Int) > 6) by omega), decT c]; rfl
    · rw [decT (show ((x[i].length : Int) > 6) by omega), decF c]; rfl
  · intro rec
    unfold spec_l04Ok.B1
    rw [decF (by omega)]
    simp only [cond_false]
    congr 1
    by_cases c : x.length ≤ 8
    · rw [decT c, decT (by omega)]
    · rw [decF c, decF (by omega)]
theorem s_ValidRack_1_1 : impl_ValidRack_1_1.S (cl wS fun s => !validS s) := impl_ValidRack_1_1.of_cl s_validStored fun x h k => by
  unfold impl_ValidRack_1_1.pf
  rw [cl_eq h]; rfl
/-- Where the first one is. -/
def indexI {β : Type} (p : β → Bool) (l : List β) : Int := match l.findIdx? p with
  | some i => i
  | none => -1
theorem firstOr_index {α β : Type} (p : β → Bool) (k : Int → Option α) : ∀ (l : List β) (j : Nat), firstOr p (fun i _ => k (i : Int)) (k (-1)) j l = k (match l.findIdx? p with | some i => ((j + i : Nat) : Int) | none => -1)
  | [], _ => rfl
  | x :: l, j => by
    rw [firstOr, List.findIdx?_cons]
    cases p x with
    | true => simp
    | false =>
      rw [cond_false, firstOr_index p k l]
      cases l.findIdx? p with
      | none => rfl
      | some i => simp [Nat.add_assoc, Nat.add_comm 1 i]
theorem indexI_nn {β : Type} (p : β → Bool) (l : List β) : decide (indexI p l ≥ 0) = l.any p := by
  unfold indexI
  cases h : l.findIdx? p with
  | none =>
    have := List.findIdx?_eq_none_iff.1 h
    simp only
    rw [decF (by omega)]
    symm
    rw [List.any_eq_false]
    intro x hx
    simpa using this x hx
  | some i =>
    simp only
    rw [decT (by omega)]
    symm
    obtain ⟨hi, hp, _⟩ := List.findIdx?_eq_some_iff_getElem.1 h
    exact List.any_eq_true.2 ⟨_, List.getElem_mem hi, hp⟩
theorem s_index_1_1 : slices_IndexFunc_impl_Stored_impl_Stored__impl_ValidRack_1_1.S (cl wL fun l => indexI (fun s => !validS s) l) :=
  slices_IndexFunc_impl_Stored_impl_Stored__impl_ValidRack_1_1.of_cl s_ValidRack_1_1 fun x h k => by
  have hl : x.length ≤ 1073741824 := h.1
  unfold slices_IndexFunc_impl_Stored_impl_Stored__impl_ValidRack_1_1.pf
  rw [iter_first x (fun i => (i : Int)) (fun s => !validS s) (fun i _ => k (i : Int)) (k (-1)) (x := 0) rfl (big_lt (by omega)) ?_ ?_, firstOr_index]
  · unfold indexI
    congr 1
    cases x.findIdx? fun s => !validS s <;> simp
  · intro i hi rec
    unfold slices_IndexFunc_impl_Stored_impl_Stored__impl_ValidRack_1_1.B1
    simp only [decT (show (i : Int) < (x.length : Int) by omega), inB_nat hi, cond_true, Int.toNat_natCast, getD_lt hi, cl_eq (h.at hi), Option.bind_some, w64n (show i < 9223372036854775807 by omega)]
  · intro rec
    unfold slices_IndexFunc_impl_Stored_impl_Stored__impl_ValidRack_1_1.B1
    rw [decF (by omega)]
    rfl
theorem s_contains_1_1 : slices_ContainsFunc_impl_Stored_impl_Stored__impl_ValidRack_1_1.S (cl wL fun l => !l.all validS) :=
  slices_ContainsFunc_impl_Stored_impl_Stored__impl_ValidRack_1_1.of_cl s_index_1_1 fun x h k => by
  unfold slices_ContainsFunc_impl_Stored_impl_Stored__impl_ValidRack_1_1.pf
  rw [cl_eq h, Option.bind_some, indexI_nn, any_not]
theorem s_ValidRack_1 : impl_ValidRack_1.S (cl wL fun l => !(decide (l.length ≤ 6) && l.all validS)) := impl_ValidRack_1.of_cl s_contains_1_1 fun x h k => by
  unfold impl_ValidRack_1.pf
  have hl : x.length ≤ 1073741824 := h.1
  by_cases c : x.length ≤ 6
  · rw [decF (show ¬ ((x.length : Int) > 6) by omega), decT c, cl_eq h]; rfl
  · rw [decT (show ((x.length : Int) > 6) by omega), decF c]; rfl
theorem s_index_1 : slices_IndexFunc_impl_Rack_impl_Stored__impl_ValidRack_1.S (cl wR fun r => indexI (fun l => !(decide (l.length ≤ 6) && l.all validS)) r) :=
  slices_IndexFunc_impl_Rack_impl_Stored__impl_ValidRack_1.of_cl s_ValidRack_1 fun x h k => by
  have hl := h.1.len
  unfold slices_IndexFunc_impl_Rack_impl_Stored__impl_ValidRack_1.pf
  rw [iter_first x (fun i => (i : Int)) (fun l => !(decide (l.length ≤ 6) && l.all validS)) (fun i _ => k (i : Int)) (k (-1)) (x := 0) rfl (big_lt (by omega)) ?_ ?_, firstOr_index]
  · unfold indexI
    congr 1
    cases x.findIdx? fun l => !(decide (l.length ≤ 6) && l.all validS) <;> simp
  · intro i hi rec
    unfold slices_IndexFunc_impl_Rack_impl_Stored__impl_ValidRack_1.B1
    simp only [decT (show (i : Int) < (x.length : Int) by omega), inB_nat hi, cond_true, Int.toNat_natCast, getD_lt hi, cl_eq (h.at hi), Option.bind_some, w64n (show i < 9223372036854775807 by omega)]
  · intro rec
    unfold slices_IndexFunc_impl_Rack_impl_Stored__impl_ValidRack_1.B1
    rw [decF (by omega)]
    rfl
theorem s_contains_1 : slices_ContainsFunc_impl_Rack_impl_Stored__impl_ValidRack_1.S (cl wR fun r => !r.all fun l => decide (l.length ≤ 6) && l.all validS) :=
  slices_ContainsFunc_impl_Rack_impl_Stored__impl_ValidRack_1.of_cl s_index_1 fun x h k => by
  unfold slices_ContainsFunc_impl_Rack_impl_Stored__impl_ValidRack_1.pf
  rw [cl_eq h, Option.bind_some, indexI_nn, any_not]
theorem s_impl_ValidRack : impl_ValidRack.S (cl wR validR) := impl_ValidRack.of_cl s_contains_1 fun x h k => by
  unfold impl_ValidRack.pf validR
  have hl := h.1.len
  by_cases c : x.length ≤ 8
  · rw [decT (show ((x.length : Int) ≤ 8) by omega), decT c, cl_eq h]; simp
  · rw [decF (show ¬ ((x.length : Int) ≤ 8) by omega), decF c]; rfl
theorem good_I {n : Int} (h : (Lit.int .i64 n).wf = true) : -9223372036854775808 ≤ n ∧ n ≤ 9223372036854775807 := by
  simp only [Lit.wf, IntKind.min, IntKind.max, IntKind.bits, IntKind.signed] at h
  simp at h
  omega
theorem good_B {b : DB} (h : goodV (.st (.pair (.int .u8) (.int .i16))) b) : wB b := by
  obtain ⟨h1, h2⟩ := h
  simp only [goodV, Lit.wf, IntKind.min, IntKind.max, IntKind.bits, IntKind.signed] at h1 h2
  simp at h1 h2
  unfold wB
  omega
theorem good_S {s : DS} (h : goodV (.st (.pair (.st (.pair (.int .u8) (.int .i16))) (.int .i16))) s) : wS s := by
  obtain ⟨h1, h2⟩ := h
  refine ⟨good_B h1, ?_⟩
  simp only [goodV, Lit.wf, IntKind.min, IntKind.max, IntKind.bits, IntKind.signed] at h2
  simp at h2
  omega
/-- What comes in. -/
def gR (r : List (List DS)) : Prop := r.length ≤ maxLen ∧ (∀ l, l ∈ r → l.length ≤ maxLen) ∧ ∀ l, l ∈ r → ∀ s, s ∈ l → wS s
theorem good_rack {e e' : TypeId} {r : List (List DS)} (h : goodV (.row e (.row e' (.st (.pair (.st (.pair (.int .u8) (.int .i16))) (.int .i16))))) r) : gR r := by
  obtain ⟨h1, h2⟩ := h
  have h3 : ∀ l, l ∈ r → goodV (.row e' (.st (.pair (.st (.pair (.int .u8) (.int .i16))) (.int .i16)))) l := fun l hl => by
    obtain ⟨i, hi, rfl⟩ := List.mem_iff_getElem.1 hl
    have := h2 i hi
    rwa [getD_lt hi] at this
  refine ⟨h1, fun l hl => (h3 l hl).1, fun l hl s hs => ?_⟩
  obtain ⟨i, hi, rfl⟩ := List.mem_iff_getElem.1 hs
  have := (h3 l hl).2 i hi
  rw [getD_lt hi] at this
  exact good_S this
theorem gR.sz {r : List (List DS)} (h : gR r) : PszR (r, 1048576) := ⟨h.1, h.2.1, by simp, by simp⟩
theorem gR.w {r : List (List DS)} (h : gR r) (c : ¬ vszR (r, 1048576) < 0) : wR r := ⟨(sz_bd (by omega) (by omega) c).1, h.2.2⟩
/-- A number told as a place of n. -/
def isIn (n : Nat) (i : Int) : Bool := decide (0 ≤ i) && decide (i ≤ (n : Int) - 1)
theorem isIn_true {n : Nat} {i : Int} (h : isIn n i = true) : ∃ j : Nat, i = (j : Int) ∧ j < n := by
  simp only [isIn, Bool.and_eq_true, decide_eq_true_eq] at h
  exact ⟨i.toNat, by omega, by omega⟩
def wI (i : Int) : Prop := -9223372036854775808 ≤ i ∧ i ≤ 9223372036854775807
theorem s_l04Lane : spec_l04Lane.S (cl Bd1 fun x => isIn x.1.length x.2) := spec_l04Lane.of_cl s_l00In fun x h k => by
  have := Bd.len h
  unfold spec_l04Lane.pf
  rw [w64 (by omega) (by omega)]
  rfl
theorem s_hasLane : impl_Rack_hasLane.S (cl Bd1 fun x => isIn x.1.length x.2) := impl_Rack_hasLane.of_cl s_within fun x h k => by
  have := Bd.len h
  unfold impl_Rack_hasLane.pf
  rw [w64 (by omega) (by omega)]
  rfl
def codeOf (a b : Bool) : Int := cond a (cond b 0 2) 1
theorem s_codeOf : impl_codeOf.S (tot fun x => codeOf x.1 x.2) := impl_codeOf.of_tot fun x k => by
  obtain ⟨a, b⟩ := x
  unfold impl_codeOf.pf codeOf
  cases a <;> cases b <;> rfl
def wR1 {β : Type} (x : List (List DS) × β) : Prop := wR x.1
theorem bneS (a : Int) : (a != a) = false := by simp
theorem okS {n : Nat} (h : n ≤ 4294967296) : okL n = true := okL_true h
theorem own_pf {α : Type} (r : List (List DS)) (h : Bd r) (k : List (List DS) → Option α) : spec_l04Own.pf BIG r k = k r := by
  have hl := h.len
  unfold spec_l04Own.pf
  refine (iter_list r (fun i (c : List (List DS)) => ((i : Int), c)) (fun q c => k (c ++ q)) (fun i c => c.length = i) (c := []) (by rfl) (big_lt (by omega)) rfl ?_ ?_)
  · rintro i hi c rec h1 hrec
    have := h.at hi
    unfold spec_l04Own.B1
    simp only [decT (show (i : Int) < (r.length : Int) by omega), inB_nat hi, cond_true, Int.toNat_natCast, getD_lt hi, okS (show List.length ([] : List DS) + r[i].length ≤ 4294967296 by simp; omega), okS (show c.length + List.length [[] ++ r[i]] ≤ 4294967296 by simp; omega), w64n (show i < 9223372036854775807 by omega)]
    refine (hrec _ (by simp [h1])).trans ?_
    simp
  · rintro c rec h1
    unfold spec_l04Own.B1
    rw [decF (by simp only; omega)]
    simp
theorem s_l04Own : spec_l04Own.S (cl Bd fun r => r) := spec_l04Own.of_cl fun r h => own_pf r h
theorem cloned_pf {α : Type} (r : List (List DS)) (h : Bd r) (k : List (List DS) → Option α) : impl_Rack_cloned.pf BIG r k = k r := by
  have hl := h.len
  unfold impl_Rack_cloned.pf
  refine (iter_list r (fun i (c : List (List DS)) => ((i : Int), c)) (fun q c => k (c ++ q)) (fun i c => c.length = i) (c := []) (by rfl) (big_lt (by omega)) rfl ?_ ?_)
  · rintro i hi c rec h1 hrec
    have := h.at hi
    unfold impl_Rack_cloned.B1
    simp only [decT (show (i : Int) < (r.length : Int) by omega), inB_nat hi, cond_true, Int.toNat_natCast, getD_lt hi, okS (show List.length ([] : List DS) + r[i].length ≤ 4294967296 by simp; omega), okS (show c.length + List.length [[] ++ r[i]] ≤ 4294967296 by simp; omega), w64n (show i < 9223372036854775807 by omega)]
    refine (hrec _ (by simp [h1])).trans ?_
    simp
  · rintro c rec h1
    unfold impl_Rack_cloned.B1
    rw [decF (by simp only; omega)]
    simp
theorem s_cloned : impl_Rack_cloned.S (cl Bd fun r => r) := impl_Rack_cloned.of_cl fun r h => cloned_pf r h
theorem codeOf_cases (a b : Bool) : (codeOf a b = 0 ∧ a = true ∧ b = true) ∨ codeOf a b ≠ 0 := by cases a <;> cases b <;> simp [codeOf]
theorem bd_set {r : List (List DS)} {n : Nat} {l : List DS} (h : Bd r) (hw : validR r = true) (hl : l.length ≤ 100) : Bd (r.set n l) := by
  have h8 : r.length ≤ 8 := by unfold validR at hw; simp at hw; exact hw.1
  have h6 : ∀ x, x ∈ r → x.length ≤ 6 := fun x hx => by
    unfold validR at hw
    simp only [Bool.and_eq_true, List.all_eq_true, decide_eq_true_eq] at hw
    exact (hw.2 x hx).1
  have key : ∀ (q : List (List DS)), (∀ x, x ∈ q → x.length ≤ 100) → (q.map List.length).sum ≤ 100 * q.length := by
    intro q
    induction q with
    | nil => intro _; simp
    | cons x q ih =>
      intro hq
      have := ih (fun y hy => hq y (List.mem_cons_of_mem _ hy))
      have := hq x (by simp)
      simp only [List.map_cons, List.sum_cons, List.length_cons]
      omega
  have := key (r.set n l) (fun x hx => by
    rcases List.mem_or_eq_of_mem_set hx with h | rfl
    · have := h6 x h; omega
    · exact hl)
  unfold Bd
  rw [List.length_set] at this ⊢
  omega
theorem bd_nil : Bd ([] : List (List DS)) := by simp [Bd]
theorem valid_lane {r : List (List DS)} (hw : validR r = true) {n : Nat} (hn : n < r.length) : r[n].length ≤ 6 := by
  unfold validR at hw
  simp only [Bool.and_eq_true, List.all_eq_true, decide_eq_true_eq] at hw
  exact (hw.2 _ (List.getElem_mem hn)).1
/-- What the harness asks of a rack that came back. -/
theorem held_ok (q : List (List DS)) (h : Bd q) : heldR 1 (markR 1 q).2 = (markR 1 q).1 ∧ 0 ≤ (markR 1 q).1 := held_markR q 1 (by omega) (by unfold Bd at h; omega)
/-- Few lanes, each of them short. -/
def Few (o : List (List DS)) : Prop := o.length ≤ 8 ∧ ∀ x, x ∈ o → x.length ≤ 6
theorem Few.at {o : List (List DS)} (h : Few o) {n : Nat} (hn : n < o.length) : o[n].length ≤ 6 := h.2 _ (List.getElem_mem hn)
theorem Few.set {o : List (List DS)} (h : Few o) {n : Nat} {x : List DS} (hx : x.length ≤ 6) : Few (o.set n x) := ⟨by rw [List.length_set]; exact h.1, fun y hy => by
  rcases List.mem_or_eq_of_mem_set hy with q | rfl
  · exact h.2 y q
  · exact hx⟩
/-- Where one goes that comes behind those that are no newer: counted from behind. -/
def spotOf (o : List DS) (d : Int) : Nat → Nat
  | 0 => 0
  | i + 1 => if (o.getD i dS).2 < d then spotOf o d i else i + 1
def putIn (o : List DS) (x : DS) : List DS := o.take (spotOf o x.2 o.length) ++ x :: o.drop (spotOf o x.2 o.length)
def sorted (l : List DS) : List DS := l.foldl putIn []
theorem spotOf_le (o : List DS) (d : Int) : ∀ i, spotOf o d i ≤ i
  | 0 => Nat.le_refl 0
  | i + 1 => by
    have := spotOf_le o d i
    unfold spotOf
    split <;> omega
theorem putIn_len (o : List DS) (x : DS) : (putIn o x).length = o.length + 1 := by
  have := spotOf_le o x.2 o.length
  unfold putIn
  simp
  omega
theorem sorted_len (l : List DS) : (sorted l).length = l.length := by
  have key : ∀ (l o : List DS), (l.foldl putIn o).length = o.length + l.length := by
    intro l
    induction l with
    | nil => intro o; rfl
    | cons x l ih => intro o; rw [List.foldl_cons, ih, putIn_len, List.length_cons]; omega
  unfold sorted
  simpa using key l []
theorem sorted_take (l : List DS) {p : Nat} (h : p < l.length) : sorted (l.take (p + 1)) = putIn (sorted (l.take p)) l[p] := by
  unfold sorted
  rw [List.take_succ_eq_append_getElem h, List.foldl_append]
  rfl
theorem spec_sort2 {α : Type} (r : List (List DS)) (n p : Nat) (hn : n < r.length) (hp : p < r[n].length) (q : List (List DS)) (o : List DS) (ho : o.length ≤ 1073741824) (K : Int → Option α) :
    iter (spec_SortLane.B2 (n : Int) (p : Int) r q o K K) BIG (o.length : Int) = K ((spotOf o (r[n][p]).2 o.length : Nat) : Int) := by
  have key : ∀ (j fuel : Nat), j < fuel → j ≤ o.length → iter (spec_SortLane.B2 (n : Int) (p : Int) r q o K K) fuel (j : Int) = K ((spotOf o (r[n][p]).2 j : Nat) : Int) := by
    intro j
    induction j with
    | zero =>
      intro fuel hf _
      match fuel, hf with
      | f + 1, _ =>
        show spec_SortLane.B2 (n : Int) (p : Int) r q o K K _ ((0 : Nat) : Int) = _
        unfold spec_SortLane.B2
        rw [decF (by omega)]
        rfl
    | succ j ih =>
      intro fuel hf hj
      match fuel, hf with
      | f + 1, hf =>
        show spec_SortLane.B2 (n : Int) (p : Int) r q o K K (iter (spec_SortLane.B2 (n : Int) (p : Int) r q o K K) f) ((j + 1 : Nat) : Int) = _
        generalize hR : iter (spec_SortLane.B2 (n : Int) (p : Int) r q o K K) f = R
        unfold spec_SortLane.B2
        have e : IntKind.i64.wrap (((j + 1 : Nat) : Int) - 1) = (j : Int) := by rw [w64 (by omega) (by omega)]; omega
        have hjo : j < o.length := by omega
        simp only [e, decT (show ((j + 1 : Nat) : Int) > 0 by omega), inB_nat hjo, inB_nat hn, Int.toNat_natCast, getD_lt hn, inB_nat hp, cond_true, getD_lt hjo, getD_lt hp]
        unfold spotOf
        rw [getD_lt hjo]
        by_cases c : o[j].2 < (r[n][p]).2
        · rw [decT c, if_pos c, cond_true, ← hR]; exact ih f (by omega) (by omega)
        · rw [decF c, if_neg c]; rfl
  exact key _ _ (big_lt (by omega)) (Nat.le_refl _)
def sortLane (r : List (List DS)) (i : Int) : List (List DS) × Int :=
  if codeOf (validR r) (isIn r.length i) ≠ 0 then ([], codeOf (validR r) (isIn r.length i)) else (r.set i.toNat (sorted (r.getD i.toNat [])), 0)
theorem s_spec_SortLane : spec_SortLane.S (cl wR1 fun x => sortLane x.1 x.2) := spec_SortLane.of_cl s_l04Ok s_l04Lane s_l04Own fun x h k => by
  obtain ⟨r, i⟩ := x
  have hw : wR r := h
  show spec_SortLane.pf _ _ _ BIG r i k = k (sortLane r i)
  unfold spec_SortLane.pf sortLane
  rw [cl_eq hw, Option.bind_some]
  cases c : validR r with
  | false => rfl
  | true =>
    simp only [Bool.not_true, cond_false]
    rw [cl_eq (show Bd1 (r, i) from hw.1), Option.bind_some]
    cases c2 : isIn r.length i with
    | false => rfl
    | true =>
      simp only [Bool.not_true, cond_false]
      rw [cl_eq hw.1, if_neg (by simp [codeOf]), Option.bind_some]
      obtain ⟨n, rfl, hn⟩ := isIn_true c2
      have hl := valid_lane c hn
      rw [Int.toNat_natCast, getD_lt hn]
      refine iter_list (r[n]) (fun p (c : List DS) => ((p : Int), c)) (fun q c => k (r.set n (q.foldl putIn c), 0)) (fun p c => c.length = p) (c := []) rfl (big_lt (by omega)) rfl ?_ ?_
      · rintro p hp o rec ho hrec
        unfold spec_SortLane.B1
        have hs := spotOf_le o (r[n][p]).2 o.length
        simp only [inB_nat hn, cond_true, Int.toNat_natCast, getD_lt hn, decT (show (p : Int) < (r[n].length : Int) by omega)]
        rw [spec_sort2 r n p hn hp r o (by omega)]
        rw [inW_true (by omega) (by omega) (by omega), inW_true (by omega) (by omega) (by omega)]
        simp only [cond_true, Int.toNat_natCast, inB_nat hn, getD_lt hn, inB_nat hp, getD_lt hp, List.nil_append, Int.sub_zero, List.drop_zero, w64n (show p < 9223372036854775807 by omega), List.length_nil]
        rw [okS (by simp; omega), okS (by simp; omega), okS (by simp; omega)]
        have e : (((o.length : Nat) : Int) - ((spotOf o (r[n][p]).2 o.length : Nat) : Int)).toNat = (o.drop (spotOf o (r[n][p]).2 o.length)).length := by rw [List.length_drop]; omega
        rw [e, List.take_length]
        simp only [cond_true, List.append_assoc, List.cons_append, List.nil_append]
        exact hrec _ (by rw [List.length_append, List.length_cons, List.length_take, List.length_drop]; omega)
      · rintro o rec ho
        unfold spec_SortLane.B1
        simp only [inB_nat hn, cond_true, Int.toNat_natCast, getD_lt hn]
        rw [decF (by omega)]
        rfl
def wSS (x : DS × DS) : Prop := wS x.1 ∧ wS x.2
theorem s_SortLane_1 : impl_SortLane_1.S (cl wSS fun x => x.2.2 - x.1.2) := impl_SortLane_1.of_cl fun x ⟨h1, h2⟩ k => by
  obtain ⟨_, h1⟩ := h1
  obtain ⟨_, h2⟩ := h2
  unfold impl_SortLane_1.pf
  rw [w64 (n := x.2.2) (by omega) (by omega), w64 (n := x.1.2) (by omega) (by omega), w64 (by omega) (by omega)]
/-- One stands at a place, the others around it. -/
def amid (o : List DS) (x : DS) (j : Nat) (q : List DS) : List DS := o.take j ++ x :: (o.drop j ++ q)
theorem amid_len (o : List DS) (x : DS) (j : Nat) (q : List DS) (h : j ≤ o.length) : (amid o x j q).length = o.length + 1 + q.length := by
  unfold amid
  simp
  omega
theorem amid_at (o : List DS) (x : DS) (j : Nat) (q : List DS) (h : j ≤ o.length) : (amid o x j q).getD j dS = x := by
  unfold amid
  rw [List.getD_eq_getElem?_getD, List.getElem?_append_right (by simp; omega)]
  simp [Nat.min_eq_left h]
theorem amid_below (o : List DS) (x : DS) (j : Nat) (q : List DS) (h : j < o.length) : (amid o x (j + 1) q).getD j dS = o[j] := by
  unfold amid
  rw [List.getD_eq_getElem?_getD, List.getElem?_append_left (by simp; omega), List.getElem?_take_of_lt (by omega), List.getElem?_eq_getElem h]
  rfl
theorem amid_swap (o : List DS) (x : DS) (j : Nat) (q : List DS) (h : j < o.length) : ((amid o x (j + 1) q).set (j + 1) o[j]).set j x = amid o x j q := by
  unfold amid
  rw [List.set_append_right _ _ (by simp; omega)]
  have e : j + 1 - (o.take (j + 1)).length = 0 := by simp; omega
  rw [e, List.set_cons_zero, List.take_succ_eq_append_getElem h, List.append_assoc, List.set_append_right _ _ (by simp; omega)]
  have e2 : j - (o.take j).length = 0 := by simp; omega
  rw [e2]
  simp
  rw [drop_cons h, List.cons_append]
theorem insertion2 {α : Type} (p1 : Int) (p2 : Int) (o : List DS) (x : DS) (q : List DS) (ho : o.length ≤ 1073741824) (hw : ∀ s, s ∈ o → wS s) (hx : wS x) (K : Int × List DS → Option α) (K' : Int × List DS → Int → Option α) (hK : ∀ a b, K' a b = K a) :
    iter (slices_insertionSortCmpFunc_impl_Stored__impl_SortLane_1.B2 (cl wSS fun x => x.2.2 - x.1.2) 0 p1 p2 K' K) BIG ((o.length : Int), amid o x o.length q) = K (((spotOf o x.2 o.length : Nat) : Int), amid o x (spotOf o x.2 o.length) q) := by
  have key : ∀ (j fuel : Nat), j < fuel → j ≤ o.length → iter (slices_insertionSortCmpFunc_impl_Stored__impl_SortLane_1.B2 (cl wSS fun x => x.2.2 - x.1.2) 0 p1 p2 K' K) fuel ((j : Int), amid o x j q) = K (((spotOf o x.2 j : Nat) : Int), amid o x (spotOf o x.2 j) q) := by
    intro j
    induction j with
    | zero =>
      intro fuel hf _
      match fuel, hf with
      | f + 1, _ =>
        show slices_insertionSortCmpFunc_impl_Stored__impl_SortLane_1.B2 _ 0 p1 p2 K' K _ (((0 : Nat) : Int), _) = _
        unfold slices_insertionSortCmpFunc_impl_Stored__impl_SortLane_1.B2
        rw [decF (by simp)]
        rfl
    | succ j ih =>
      intro fuel hf hj
      match fuel, hf with
      | f + 1, hf =>
        show slices_insertionSortCmpFunc_impl_Stored__impl_SortLane_1.B2 _ 0 p1 p2 K' K (iter (slices_insertionSortCmpFunc_impl_Stored__impl_SortLane_1.B2 (cl wSS fun x => x.2.2 - x.1.2) 0 p1 p2 K' K) f) (((j + 1 : Nat) : Int), amid o x (j + 1) q) = _
        unfold slices_insertionSortCmpFunc_impl_Stored__impl_SortLane_1.B2
        have e : IntKind.i64.wrap (((j + 1 : Nat) : Int) - 1) = (j : Int) := by rw [w64 (by omega) (by omega)]; omega
        have hjo : j < o.length := by omega
        have hl := amid_len o x (j + 1) q hj
        have h1 : j + 1 < (amid o x (j + 1) q).length := by omega
        have h2 : j < (amid o x (j + 1) q).length := by omega
        have h3 : j < ((amid o x (j + 1) q).set (j + 1) o[j]).length := by rw [List.length_set]; exact h2
        simp only [e, decT (show ((j + 1 : Nat) : Int) > 0 by omega), inB_nat h1, inB_nat h2, Int.toNat_natCast, cond_true, amid_at o x (j + 1) q hj, amid_below o x j q hjo, cl_eq (show wSS (x, o[j]) from ⟨hx, hw _ (List.getElem_mem hjo)⟩), Option.bind_some, inB_nat h3, amid_swap o x j q hjo]
        unfold spotOf
        rw [getD_lt hjo]
        by_cases c : o[j].2 < x.2
        · rw [decT (show o[j].2 - x.2 < 0 by omega), if_pos c, cond_true]; exact ih f (by omega) (by omega)
        · rw [decF (show ¬ o[j].2 - x.2 < 0 by omega), if_neg c, cond_false, hK]
  exact key _ _ (big_lt (by omega)) (Nat.le_refl _)
def PIns (x : List DS × Int × Int) : Prop := wL x.1 ∧ x.2.1 = 0 ∧ x.2.2 = x.1.length
theorem s_insertion : slices_insertionSortCmpFunc_impl_Stored__impl_SortLane_1.S (cl PIns fun x => sorted x.1) := slices_insertionSortCmpFunc_impl_Stored__impl_SortLane_1.of_cl s_SortLane_1 fun x h k => by
  obtain ⟨l, a, b⟩ := x
  obtain ⟨⟨hl, hw⟩, h1, h2⟩ := h
  obtain rfl : a = 0 := h1
  obtain rfl : b = (l.length : Int) := h2
  have hl : l.length ≤ 1073741824 := hl
  show slices_insertionSortCmpFunc_impl_Stored__impl_SortLane_1.pf _ BIG l 0 (l.length : Int) k = k (sorted l)
  unfold slices_insertionSortCmpFunc_impl_Stored__impl_SortLane_1.pf
  rw [w64 (by omega) (by omega)]
  match hq : l with
  | [] =>
    refine iter_to (fun _ => (1, [])) 0 (by rfl) (big_lt (by omega)) (fun k hk => absurd hk (Nat.not_lt_zero _)) fun rec => ?_
    unfold slices_insertionSortCmpFunc_impl_Stored__impl_SortLane_1.B1
    rfl
  | y :: l' =>
    rw [← hq] at hl hw ⊢
    have hpos : 1 ≤ l.length := by rw [hq]; simp
    have h1 : sorted (l.take 1) ++ l.drop 1 = l := by rw [hq]; rfl
    have := iter_fold (B := slices_insertionSortCmpFunc_impl_Stored__impl_SortLane_1.B1 (cl wSS fun x => x.2.2 - x.1.2) BIG 0 (l.length : Int) fun (x1 : Int × List DS) => k x1.2) l (fun p (c : List DS) => ((p : Int), c)) (fun _ _ => k (sorted l)) (fun p c => 1 ≤ p ∧ c = sorted (l.take p) ++ l.drop p) ?_ ?_ (l.length - 1) 1 l BIG (by omega) (big_lt (by omega)) ⟨by omega, h1.symm⟩
    · exact this
    · rintro p hp c rec ⟨hp1, rfl⟩ hrec
      unfold slices_insertionSortCmpFunc_impl_Stored__impl_SortLane_1.B1
      have ho : (sorted (l.take p)).length = p := by rw [sorted_len, List.length_take]; omega
      have hmem : ∀ s, s ∈ sorted (l.take p) → wS s := by
        have key : ∀ (q o : List DS), (∀ s, s ∈ q → wS s) → (∀ s, s ∈ o → wS s) → ∀ s, s ∈ q.foldl putIn o → wS s := by
          intro q
          induction q with
          | nil => intro o _ h s hs; exact h s hs
          | cons z q ih =>
            intro o h1 h2
            refine ih _ (fun s hs => h1 s (List.mem_cons_of_mem _ hs)) fun s hs => ?_
            unfold putIn at hs
            rcases List.mem_append.1 hs with hs | hs
            · exact h2 s (List.mem_of_mem_take hs)
            · rcases List.mem_cons.1 hs with rfl | hs
              · exact h1 _ (by simp)
              · exact h2 s (List.mem_of_mem_drop hs)
        exact key _ _ (fun s hs => hw s (List.mem_of_mem_take hs)) (fun s hs => nomatch hs)
      have e0 : sorted (l.take p) ++ l.drop p = amid (sorted (l.take p)) l[p] p (l.drop (p + 1)) := by
        unfold amid
        have t1 : (sorted (l.take p)).take p = sorted (l.take p) := List.take_of_length_le (by omega)
        have t2 : (sorted (l.take p)).drop p = [] := List.drop_eq_nil_of_le (by omega)
        rw [t1, t2, List.nil_append, drop_cons hp]
      simp only [decT (show (p : Int) < (l.length : Int) by omega), cond_true]
      rw [e0]
      have e1 := insertion2 (l.length : Int) (p : Int) (sorted (l.take p)) l[p] (l.drop (p + 1)) (by omega) hmem (hw _ (List.getElem_mem hp)) (fun (x2 : Int × List DS) => rec (IntKind.i64.wrap ((p : Int) + 1), x2.2)) (fun (x2 : Int × List DS) (_ : Int) => rec (IntKind.i64.wrap ((p : Int) + 1), x2.2)) (fun _ _ => rfl)
      rw [ho] at e1
      rw [e1, w64n (by omega)]
      refine hrec _ ⟨by omega, ?_⟩
      rw [sorted_take l hp]
      unfold amid putIn
      rw [ho, List.append_assoc, List.cons_append]
    · rintro c rec ⟨_, rfl⟩
      unfold slices_insertionSortCmpFunc_impl_Stored__impl_SortLane_1.B1
      rw [decF (by omega)]
      simp
def wFew (l : List DS) : Prop := wL l ∧ l.length ≤ 6
theorem s_symMerge : slices_symMergeCmpFunc_impl_Stored__impl_SortLane_1.S fun _ => none := slices_symMergeCmpFunc_impl_Stored__impl_SortLane_1.never fun _ => rfl
def PSt2 (x : List DS × Int) : Prop := wFew x.1 ∧ x.2 = x.1.length
theorem s_stable : slices_stableCmpFunc_impl_Stored__impl_SortLane_1.S (cl PSt2 fun x => sorted x.1) := slices_stableCmpFunc_impl_Stored__impl_SortLane_1.of_cl s_insertion s_symMerge fun x h k => by
  obtain ⟨l, b⟩ := x
  obtain ⟨⟨hw, hl⟩, h2⟩ := h
  obtain rfl : b = (l.length : Int) := h2
  have hl : l.length ≤ 6 := hl
  show slices_stableCmpFunc_impl_Stored__impl_SortLane_1.pf _ _ BIG l (l.length : Int) k = k (sorted l)
  unfold slices_stableCmpFunc_impl_Stored__impl_SortLane_1.pf
  refine iter_to (fun _ => (0, 20, l)) 0 rfl (big_lt (by omega)) (fun k hk => absurd hk (Nat.not_lt_zero _)) fun rec => ?_
  unfold slices_stableCmpFunc_impl_Stored__impl_SortLane_1.B1
  rw [decF (by simp only; omega)]
  simp only [cond_false, cl_eq (show PIns (l, 0, (l.length : Int)) from ⟨hw, rfl, rfl⟩), Option.bind_some]
  refine iter_to (fun _ => (20, sorted l)) 0 rfl (big_lt (by omega)) (fun k hk => absurd hk (Nat.not_lt_zero _)) fun rec => ?_
  unfold slices_stableCmpFunc_impl_Stored__impl_SortLane_1.B2
  rw [decF (by simp only; omega)]
  rfl
theorem s_SortStable : slices_SortStableFunc_impl_Stored_impl_Stored__impl_SortLane_1.S (cl wFew sorted) := slices_SortStableFunc_impl_Stored_impl_Stored__impl_SortLane_1.of_cl s_stable fun l h k => by
  unfold slices_SortStableFunc_impl_Stored_impl_Stored__impl_SortLane_1.pf
  rw [cl_eq (show PSt2 (l, (l.length : Int)) from ⟨h, rfl⟩)]
  rfl
theorem s_impl_SortLane : impl_SortLane.S (cl wR1 fun x => sortLane x.1 x.2) := impl_SortLane.of_cl s_impl_ValidRack s_hasLane s_codeOf s_cloned s_SortStable fun x h k => by
  obtain ⟨r, i⟩ := x
  have hw : wR r := h
  show impl_SortLane.pf _ _ _ _ _ BIG r i k = k (sortLane r i)
  unfold impl_SortLane.pf sortLane
  simp only [cl_eq hw, cl_eq (show Bd1 (r, i) from hw.1), Option.bind_some, tot_eq, cl_eq hw.1]
  rcases codeOf_cases (validR r) (isIn r.length i) with ⟨c, c1, c2⟩ | c
  · rw [bneF c, if_neg (by simp [c]), cond_false]
    obtain ⟨n, rfl, hn⟩ := isIn_true c2
    have hl := valid_lane c1 hn
    rw [inB_nat hn, Int.toNat_natCast, getD_lt hn, cond_true, cl_eq (show wFew r[n] from ⟨⟨hw.1.at hn, hw.2 _ (List.getElem_mem hn)⟩, hl⟩)]
    rfl
  · rw [bneT c, if_pos c]; rfl
theorem sortLane_bd (r : List (List DS)) (i : Int) (h : Bd r) : Bd (sortLane r i).1 := by
  unfold sortLane
  rcases codeOf_cases (validR r) (isIn r.length i) with ⟨c, c1, c2⟩ | c
  · rw [if_neg (by simp [c])]
    obtain ⟨n, rfl, hn⟩ := isIn_true c2
    have := valid_lane c1 hn
    refine bd_set h c1 ?_
    rw [Int.toNat_natCast, getD_lt hn, sorted_len]
    omega
  · rw [if_pos c]
    exact bd_nil
theorem s_law_SortLane : laws_FnExactSortLane.S (cl (fun x => gR x.1 ∧ wI x.2) fun _ => true) :=
  laws_FnExactSortLane.of_cl s_szRack s_toRack s_spec_SortLane s_impl_SortLane s_eqRack s_markRack s_heldRack fun x ⟨h, _⟩ k => by
  obtain ⟨r, i⟩ := x
  have hg : gR r := h
  show laws_FnExactSortLane.pf _ _ _ _ _ _ _ BIG r i k = k true
  unfold laws_FnExactSortLane.pf
  rw [cl_eq hg.sz, Option.bind_some]
  by_cases c : vszR (r, 1048576) < 0
  · rw [decT c]; rfl
  · have w := hg.w c
    rw [decF c, cond_false]
    have b2 := sortLane_bd r i w.1
    have hh := held_ok _ b2
    have h1 := (held_ok _ w.1).2
    simp only [cl_eq w.1, Option.bind_some, tot_eq, cl_eq (show wR1 (r, i) from w), cl_eq (show Bd1 (r, r) from w.1), cl_eq (show Bd1 ((sortLane r i).1, (sortLane r i).1) from b2), decide_true, Bool.not_true, cond_false, bneS, cl_eq (show Bd1 (r, (1 : Int)) from w.1), cl_eq (show Bd1 ((sortLane r i).1, (1 : Int)) from b2),
      cl_eq (show Bd1 ((markR 1 (sortLane r i).1).2, (1 : Int)) from markR_bd _ _ b2), hh.1, decF (show ¬ (markR 1 r).1 < 0 by omega), decF (show ¬ (markR 1 (sortLane r i).1).1 < 0 by omega)]
end Go.Proofs.Yteaodjahafgbcaa.G
