/- Plain proofs: what the functions answer, in plain lists and numbers. -/
import Derived.Test.YteaodjahafgbcaaRd0
import Derived.Test.YteaodjahafgbcaaRd1
import Derived.Test.YteaodjahafgbcaaRd2
namespace Go.Proofs.Yteaodjahafgbcaa.G
open Go
set_option linter.unusedVariables false
set_option linter.unusedSimpArgs false
set_option maxRecDepth 10000
abbrev DB := Int × Int
abbrev DS := DB × Int
abbrev dS : DS := ((0, 0), 0)
theorem s_toBottle : laws_toBottle.S (tot fun x => x) := laws_toBottle.of_tot fun x k => rfl
theorem s_toStored : laws_toStored.S (tot fun x => x) := laws_toStored.of_tot s_toBottle fun x k => rfl
/-- A copy, element by element. -/
theorem copied {β : Type} {l o : List β} {k : Nat} {d : β} (h : k < l.length) (ho : o.length = l.length) (hp : o.take k = l.take k) : (o.set k l[k]).take (k + 1) = l.take (k + 1) ∧ (o.set k l[k]).length = l.length := by
  refine ⟨?_, by simpa using ho⟩
  rw [List.take_succ_eq_append_getElem (by simpa [ho] using h), List.take_succ_eq_append_getElem h, List.take_set_of_le (Nat.le_refl k), hp]
  simp
theorem toStoredS_pf {α : Type} (l : List DS) (h : l.length ≤ 1073741824) (k : List DS → Option α) : laws_toStoredS.pf (tot fun x => x) BIG l k = k l := by
  unfold laws_toStoredS.pf
  rw [inW_true (by omega) (by omega) (by unfold LIM; omega)]
  simp only [cond_true]
  refine (iter_list (B := laws_toStoredS.B1 (tot fun x => x) l fun x1 => k x1.2) l (fun i (c : List DS) => ((i : Int), c)) (fun _ _ => k l) (fun i c => c.length = l.length ∧ c.take i = l.take i) (c := List.replicate l.length dS) (by simp) (big_lt (by omega)) (by simp) ?_ ?_)
  · rintro i hi c rec ⟨h1, h2⟩ hrec
    unfold laws_toStoredS.B1
    simp only [decT (show (i : Int) < (l.length : Int) by omega), inB_nat hi, inB_nat (h1 ▸ hi : i < c.length), cond_true, Int.toNat_natCast, getD_lt hi, tot_eq, Option.bind_some, w64n (show i < 9223372036854775807 by omega)]
    have := copied (d := dS) hi h1 h2
    exact hrec _ ⟨this.2, this.1⟩
  · rintro c rec ⟨h1, h2⟩
    unfold laws_toStoredS.B1
    rw [decF (by omega)]
    rw [List.take_of_length_le (by omega), List.take_of_length_le (Nat.le_refl _)] at h2
    simp only [cond_false, h2]
theorem s_toStoredS : laws_toStoredS.S (cl PL fun l => l) := laws_toStoredS.of_cl s_toStored fun x h => toStoredS_pf x h
theorem toRack_pf {α : Type} (l : List (List DS)) (h : Bd l) (k : List (List DS) → Option α) : laws_toRack.pf (cl PL fun l => l) BIG l k = k l := by
  have hl := h.len
  unfold laws_toRack.pf
  rw [inW_true (by omega) (by omega) (by unfold LIM; omega)]
  simp only [cond_true]
  refine (iter_list (B := laws_toRack.B1 (cl PL fun l => l) l fun x1 => k x1.2) l (fun i (c : List (List DS)) => ((i : Int), c)) (fun _ _ => k l) (fun i c => c.length = l.length ∧ c.take i = l.take i) (c := List.replicate l.length []) (by simp) (big_lt (by omega)) (by simp) ?_ ?_)
  · rintro i hi c rec ⟨h1, h2⟩ hrec
    unfold laws_toRack.B1
    simp only [decT (show (i : Int) < (l.length : Int) by omega), inB_nat hi, inB_nat (h1 ▸ hi : i < c.length), cond_true, Int.toNat_natCast, getD_lt hi, cl_eq (h.pl hi), Option.bind_some, w64n (show i < 9223372036854775807 by omega)]
    have := copied (d := ([] : List DS)) hi h1 h2
    exact hrec _ ⟨this.2, this.1⟩
  · rintro c rec ⟨h1, h2⟩
    unfold laws_toRack.B1
    rw [decF (by omega)]
    rw [List.take_of_length_le (by omega), List.take_of_length_le (Nat.le_refl _)] at h2
    simp only [cond_false, h2]
theorem s_toRack : laws_toRack.S (cl Bd fun l => l) :=
  laws_toRack.of_cl s_toStoredS fun x h => toRack_pf x h
def Psz (x : List DS × Int) : Prop := x.1.length ≤ maxLen ∧ 0 ≤ x.2 ∧ x.2 ≤ 1048576
def vsz (x : List DS × Int) : Int := if x.2 < x.1.length then -1 else x.2 - x.1.length
theorem s_szStoredS : laws_szStoredS.S (cl Psz vsz) :=
  laws_szStoredS.of_cl fun x ⟨h1, h2, h3⟩ k => by
    unfold maxLen at h1
    unfold laws_szStoredS.pf vsz
    rw [w64 (by omega) (by omega)]
    by_cases c : x.2 < x.1.length
    · rw [decT (by omega), if_pos c]; rfl
    · rw [decF (by omega), if_neg c]; rfl
/-- What is left over. -/
def szL (n : Int) : List (List DS) → Int
  | [] => n
  | x :: l => if n < x.length then -1 else szL (n - x.length) l
theorem szRack_pf {α : Type} (l : List (List DS)) (n : Int) (h : l.length ≤ maxLen) (hr : ∀ x, x ∈ l → x.length ≤ maxLen) (h0 : 0 ≤ n) (h1 : n ≤ 1048576) (k : Int → Option α) :
    laws_szRack.pf (cl Psz vsz) BIG l n k = k (if n < l.length then -1 else szL (n - l.length) l) := by
  have hl := h
  unfold maxLen at hl
  unfold laws_szRack.pf
  rw [w64 (by omega) (by omega)]
  by_cases c : n < l.length
  · rw [decT (by omega), if_pos c]; rfl
  · rw [decF (by omega), if_neg c, cond_false]
    refine iter_list l (fun i (c : Int) => (c, (i : Int))) (fun r c => k (szL c r)) (fun i c => 0 ≤ c ∧ c ≤ 1048576) (c := n - l.length) rfl (big_lt (by omega)) (by omega) ?_ ?_
    · rintro i hi c rec ⟨h2, h3⟩ hrec
      unfold laws_szRack.B1
      simp only [decT (show (i : Int) < (l.length : Int) by omega), inB_nat hi, cond_true, Int.toNat_natCast, getD_lt hi, cl_eq (show Psz (l[i], c) from ⟨hr _ (List.getElem_mem hi), h2, h3⟩), vsz, Option.bind_some, w64n (show i < 9223372036854775807 by omega), szL]
      by_cases q : c < (l[i].length : Int)
      · simp only [if_pos q]; rfl
      · simp only [if_neg q, decF (show ¬ (c - (l[i].length : Int) < 0) by omega), cond_false]
        exact hrec _ (by omega)
    · rintro c rec _
      unfold laws_szRack.B1
      rw [decF (by omega)]
      rfl
def PszR (x : List (List DS) × Int) : Prop := x.1.length ≤ maxLen ∧ (∀ r, r ∈ x.1 → r.length ≤ maxLen) ∧ 0 ≤ x.2 ∧ x.2 ≤ 1048576
def vszR (x : List (List DS) × Int) : Int := if x.2 < x.1.length then -1 else szL (x.2 - x.1.length) x.1
theorem s_szRack : laws_szRack.S (cl PszR vszR) := laws_szRack.of_cl s_szStoredS fun x ⟨h1, h2, h3, h4⟩ => szRack_pf x.1 x.2 h1 h2 h3 h4
theorem szL_nn : ∀ (l : List (List DS)) (n : Int), 0 ≤ n → 0 ≤ szL n l → szL n l = n - ((l.map List.length).sum : Nat)
  | [], n, _, _ => by simp [szL]
  | x :: l, n, h, h1 => by
    unfold szL at h1 ⊢
    by_cases c : n < x.length
    · rw [if_pos c] at h1; omega
    · rw [if_neg c] at h1 ⊢
      rw [szL_nn l _ (by omega) h1]
      simp
      omega
/-- What went through is small. -/
theorem sz_bd {l : List (List DS)} {n : Int} (h0 : 0 ≤ n) (h1 : n ≤ 1048576) (h : ¬ vszR (l, n) < 0) : Bd l ∧ 0 ≤ vszR (l, n) ∧ vszR (l, n) ≤ 1048576 := by
  unfold vszR at h ⊢
  simp only at h ⊢
  by_cases c : n < l.length
  · rw [if_pos c] at h; omega
  · rw [if_neg c] at h ⊢
    have := szL_nn l (n - l.length) (by omega) (by omega)
    unfold Bd
    omega
theorem s_eqBottle : laws_eqBottle.S (tot fun x => decide (x.1 = x.2)) := laws_eqBottle.of_tot fun x k => by
  obtain ⟨⟨a1, a2⟩, b1, b2⟩ := x
  unfold laws_eqBottle.pf
  by_cases h1 : a1 = b1
  · by_cases h2 : a2 = b2
    · simp [h1, h2]
    · simp [h1, h2, bneT h2]
  · simp [h1, bneT h1]
theorem s_eqStored : laws_eqStored.S (tot fun x => decide (x.1 = x.2)) := laws_eqStored.of_tot s_eqBottle fun x k => by
  obtain ⟨⟨a1, a2⟩, b1, b2⟩ := x
  unfold laws_eqStored.pf
  by_cases h1 : a1 = b1
  · by_cases h2 : a2 = b2
    · simp [h1, h2, tot]
    · simp [h1, h2, tot, bneT h2]
  · simp [h1, tot]
/-- Lists of one length are alike where no pair of elements differs. -/
theorem any_eq {β : Type} [DecidableEq β] : ∀ (a b : List β), a.length = b.length → (a.zip b).any (fun p => !decide (p.1 = p.2)) = !decide (a = b)
  | [], [], _ => by simp
  | [], _ :: _, h => by simp at h
  | _ :: _, [], h => by simp at h
  | x :: a, y :: b, h => by
    rw [List.zip_cons_cons, List.any_cons, any_eq a b (by simpa using h)]
    by_cases c : x = y <;> by_cases c2 : a = b <;> simp [c, c2]
theorem zip_at {β γ : Type} {a : List β} {b : List γ} {k : Nat} (h : k < (a.zip b).length) : (a.zip b)[k] = (a[k]'(by simp at h; omega), b[k]'(by simp at h; omega)) := by simp
theorem eqStoredS_pf {α : Type} (a b : List DS) (h : a.length ≤ 1073741824) (k : Bool → Option α) : laws_eqStoredS.pf (tot fun x => decide (x.1 = x.2)) BIG a b k = k (decide (a = b)) := by
  unfold laws_eqStoredS.pf
  by_cases c : a.length = b.length
  · rw [show (((a.length : Nat) : Int) != ((b.length : Nat) : Int)) = false by simp [c], cond_false]
    have hz : (a.zip b).length = a.length := by simp [c]
    rw [iter_first (a.zip b) (fun i => (i : Int)) (fun p => !decide (p.1 = p.2)) (fun _ _ => k false) (k true) (x := 0) rfl (big_lt (by omega)) ?_ ?_, firstOr_const, any_eq a b c]
    · by_cases e : a = b <;> simp [e]
    · intro i hi rec
      have h1 : i < a.length := by omega
      have h2 : i < b.length := by omega
      unfold laws_eqStoredS.B1
      rw [zip_at hi]
      simp only [decT (show (i : Int) < (a.length : Int) by omega), inB_nat h1, inB_nat h2, cond_true, Int.toNat_natCast, getD_lt h1, getD_lt h2, tot_eq, Option.bind_some, w64n (show i < 9223372036854775807 by omega)]
    · intro rec
      unfold laws_eqStoredS.B1
      rw [decF (by omega)]
      rfl
  · rw [show (((a.length : Nat) : Int) != ((b.length : Nat) : Int)) = true by simpa using fun q => c (by omega), cond_true]
    rw [decF (fun e => c (by rw [e]))]
theorem s_eqStoredS : laws_eqStoredS.S (cl PL1 fun x => decide (x.1 = x.2)) := laws_eqStoredS.of_cl s_eqStored fun x h => eqStoredS_pf x.1 x.2 h
theorem eqRack_pf {α : Type} (a b : List (List DS)) (h : Bd a) (k : Bool → Option α) : laws_eqRack.pf (cl PL1 fun x => decide (x.1 = x.2)) BIG a b k = k (decide (a = b)) := by
  have hl := h.len
  unfold laws_eqRack.pf
  by_cases c : a.length = b.length
  · rw [show (((a.length : Nat) : Int) != ((b.length : Nat) : Int)) = false by simp [c], cond_false]
    have hz : (a.zip b).length = a.length := by simp [c]
    rw [iter_first (a.zip b) (fun i => (i : Int)) (fun p => !decide (p.1 = p.2)) (fun _ _ => k false) (k true) (x := 0) rfl (big_lt (by omega)) ?_ ?_, firstOr_const, any_eq a b c]
    · by_cases e : a = b <;> simp [e]
    · intro i hi rec
      have h1 : i < a.length := by omega
      have h2 : i < b.length := by omega
      unfold laws_eqRack.B1
      rw [zip_at hi]
      simp only [decT (show (i : Int) < (a.length : Int) by omega), inB_nat h1, inB_nat h2, cond_true, Int.toNat_natCast, getD_lt h1, getD_lt h2, cl_eq (show PL1 (a[i], b[i]) from h.at h1), Option.bind_some, w64n (show i < 9223372036854775807 by omega)]
    · intro rec
      unfold laws_eqRack.B1
      rw [decF (by omega)]
      rfl
  · rw [show (((a.length : Nat) : Int) != ((b.length : Nat) : Int)) = true by simpa using fun q => c (by omega), cond_true]
    rw [decF (fun e => c (by rw [e]))]
theorem s_eqRack : laws_eqRack.S (cl Bd1 fun x => decide (x.1 = x.2)) := laws_eqRack.of_cl s_eqStoredS fun x h => eqRack_pf x.1 x.2 h
/-- What is written, and the number behind it. -/
def markL : Int → List DS → Int × List DS
  | k, [] => (k, [])
  | k, _ :: l => ((markL (IntKind.i64.wrap (IntKind.i64.wrap (IntKind.i64.wrap (k + 1) + 1) + 1)) l).1, ((IntKind.u8.wrap k, IntKind.i16.wrap (IntKind.i64.wrap (k + 1))), IntKind.i16.wrap (IntKind.i64.wrap (IntKind.i64.wrap (k + 1) + 1))) :: (markL (IntKind.i64.wrap (IntKind.i64.wrap (IntKind.i64.wrap (k + 1) + 1) + 1)) l).2)
def heldL : Int → List DS → Int
  | k, [] => k
  | k, x :: l => if x = ((IntKind.u8.wrap k, IntKind.i16.wrap (IntKind.i64.wrap (k + 1))), IntKind.i16.wrap (IntKind.i64.wrap (IntKind.i64.wrap (k + 1) + 1))) then heldL (IntKind.i64.wrap (IntKind.i64.wrap (IntKind.i64.wrap (k + 1) + 1) + 1)) l else -1
theorem held_markL : ∀ (l : List DS) (k : Int), heldL k (markL k l).2 = (markL k l).1
  | [], _ => rfl
  | x :: l, k => by
    unfold markL heldL
    rw [if_pos rfl]
    exact held_markL l _
theorem markL_len : ∀ (l : List DS) (k : Int), (markL k l).2.length = l.length
  | [], _ => rfl
  | x :: l, k => by unfold markL; simp [markL_len l]
theorem markL_fst : ∀ (l : List DS) (k : Int), 0 ≤ k → k + 3 * l.length ≤ 9223372036854775807 → (markL k l).1 = k + 3 * l.length
  | [], k, _, _ => by simp [markL]
  | x :: l, k, h0, h => by
    simp only [List.length_cons] at h ⊢
    unfold markL
    rw [w64 (n := k + 1) (by omega) (by omega), w64 (n := k + 1 + 1) (by omega) (by omega), w64 (n := k + 1 + 1 + 1) (by omega) (by omega)]
    simp only
    rw [markL_fst l _ (by omega) (by omega)]
    omega
theorem setD_same {β : Type} {l : List β} {k : Nat} {x d : β} (h : k < l.length) : (l.set k x).getD k d = x := by
  rw [List.getD_eq_getElem?_getD, List.getElem?_set_self h]; rfl
theorem take_set {β : Type} {l : List β} {k : Nat} {x : β} (h : k < l.length) : (l.set k x).take (k + 1) = l.take k ++ [x] := by
  rw [List.take_succ_eq_append_getElem (by simpa using h), List.take_set_of_le (Nat.le_refl k)]
  simp
theorem markStoredS_pf {α : Type} (l : List DS) (n : Int) (h : l.length ≤ 1073741824) (k : Int × List DS → Option α) : laws_markStoredS.pf BIG l n k = k (markL n l) := by
  unfold laws_markStoredS.pf
  refine (iter_list l (fun i (c : Int × List DS) => (c.1, (i : Int), c.2)) (fun r c => k ((markL c.1 r).1, c.2.take (l.length - r.length) ++ (markL c.1 r).2)) (fun i c => c.2.length = l.length) (c := (n, l)) rfl (big_lt (by omega)) rfl ?_ ?_).trans (by simp)
  · rintro i hi ⟨m, c⟩ rec h1 hrec
    simp only at h1
    have hc : i < c.length := by omega
    unfold laws_markStoredS.B1
    have e1 : l.length - (l.drop (i + 1)).length = i + 1 := by rw [List.length_drop]; omega
    have e2 : l.length - (l[i] :: l.drop (i + 1)).length = i := by rw [List.length_cons, List.length_drop]; omega
    simp only [decT (show (i : Int) < (c.length : Int) by omega), inB_nat hc, cond_true, Int.toNat_natCast, List.length_set, List.set_set, setD_same hc, w64n (show i < 9223372036854775807 by omega)]
    refine (hrec (IntKind.i64.wrap (IntKind.i64.wrap (IntKind.i64.wrap (m + 1) + 1) + 1), c.set i ((IntKind.u8.wrap m, IntKind.i16.wrap (IntKind.i64.wrap (m + 1))), IntKind.i16.wrap (IntKind.i64.wrap (IntKind.i64.wrap (m + 1) + 1)))) (by simpa using h1)).trans ?_
    simp only [e1, e2, take_set hc, markL, List.append_assoc, List.cons_append, List.nil_append]
  · rintro ⟨m, c⟩ rec h1
    simp only at h1
    unfold laws_markStoredS.B1
    rw [decF (by simp only; omega)]
    simp only [cond_false, markL, List.length_nil, Nat.sub_zero, List.append_nil]
    rw [List.take_of_length_le (by omega)]
theorem s_markStoredS : laws_markStoredS.S (cl PL1 fun x => markL x.2 x.1) := laws_markStoredS.of_cl fun x h => markStoredS_pf x.1 x.2 h
theorem heldStoredS_pf {α : Type} (l : List DS) (n : Int) (h : l.length ≤ 1073741824) (k : Int → Option α) : laws_heldStoredS.pf BIG l n k = k (heldL n l) := by
  unfold laws_heldStoredS.pf
  refine iter_list l (fun i (c : Int) => (c, (i : Int))) (fun r c => k (heldL c r)) (fun i c => True) (c := n) rfl (big_lt (by omega)) trivial ?_ ?_
  · rintro i hi c rec _ hrec
    unfold laws_heldStoredS.B1
    simp only [decT (show (i : Int) < (l.length : Int) by omega), inB_nat hi, cond_true, Int.toNat_natCast, getD_lt hi, w64n (show i < 9223372036854775807 by omega), heldL]
    generalize l[i] = x
    obtain ⟨⟨x1, x2⟩, x3⟩ := x
    simp only [Prod.mk.injEq]
    by_cases c1 : x1 = IntKind.u8.wrap c
    · rw [bneF c1, cond_false]
      by_cases c2 : x2 = IntKind.i16.wrap (IntKind.i64.wrap (c + 1))
      · rw [bneF c2, cond_false]
        by_cases c3 : x3 = IntKind.i16.wrap (IntKind.i64.wrap (IntKind.i64.wrap (c + 1) + 1))
        · rw [bneF c3, cond_false, if_pos ⟨⟨c1, c2⟩, c3⟩]
          exact hrec _ trivial
        · rw [bneT c3, if_neg (fun q => c3 q.2)]; rfl
      · rw [bneT c2, if_neg (fun q => c2 q.1.2)]; rfl
    · rw [bneT c1, if_neg (fun q => c1 q.1.1)]; rfl
  · rintro c rec _
    unfold laws_heldStoredS.B1
    rw [decF (by simp only; omega)]
    rfl
theorem s_heldStoredS : laws_heldStoredS.S (cl PL1 fun x => heldL x.2 x.1) := laws_heldStoredS.of_cl fun x h => heldStoredS_pf x.1 x.2 h
def markR : Int → List (List DS) → Int × List (List DS)
  | k, [] => (k, [])
  | k, x :: l => ((markR (markL k x).1 l).1, (markL k x).2 :: (markR (markL k x).1 l).2)
def heldR : Int → List (List DS) → Int
  | k, [] => k
  | k, x :: l => if heldL k x < 0 then -1 else heldR (heldL k x) l
theorem markRack_pf {α : Type} (l : List (List DS)) (n : Int) (h : Bd l) (k : Int × List (List DS) → Option α) : laws_markRack.pf (cl PL1 fun x => markL x.2 x.1) BIG l n k = k (markR n l) := by
  have hl := h.len
  unfold laws_markRack.pf
  refine (iter_list l (fun i (c : Int × List (List DS)) => (c.1, (i : Int), c.2)) (fun r c => k ((markR c.1 r).1, c.2.take (l.length - r.length) ++ (markR c.1 r).2)) (fun i c => c.2.length = l.length ∧ c.2.drop i = l.drop i) (c := (n, l)) rfl (big_lt (by omega)) ⟨rfl, rfl⟩ ?_ ?_).trans (by simp)
  · rintro i hi ⟨m, c⟩ rec ⟨h1, h2⟩ hrec
    simp only at h1 h2
    have hc : i < c.length := by omega
    have hci : c[i] = l[i] := by
      have := congrArg (fun z => z[0]?) h2
      simpa [hc, hi] using this
    unfold laws_markRack.B1
    have e1 : l.length - (l.drop (i + 1)).length = i + 1 := by rw [List.length_drop]; omega
    have e2 : l.length - (l[i] :: l.drop (i + 1)).length = i := by rw [List.length_cons, List.length_drop]; omega
    simp only [decT (show (i : Int) < (c.length : Int) by omega), inB_nat hc, cond_true, Int.toNat_natCast, getD_lt hc, hci, cl_eq (show PL1 (l[i], m) from h.at hi), Option.bind_some, w64n (show i < 9223372036854775807 by omega)]
    refine (hrec (_, _) ⟨by simpa using h1, ?_⟩).trans ?_
    · rw [List.drop_set_of_lt (by omega)]
      have := congrArg (List.drop 1) h2
      simpa [List.drop_drop, Nat.add_comm] using this
    · simp only [e1, e2, take_set hc, markR, List.append_assoc, List.cons_append, List.nil_append]
  · rintro ⟨m, c⟩ rec ⟨h1, h2⟩
    simp only at h1
    unfold laws_markRack.B1
    rw [decF (by simp only; omega)]
    simp only [cond_false, markR, List.length_nil, Nat.sub_zero, List.append_nil]
    rw [List.take_of_length_le (by omega)]
theorem s_markRack : laws_markRack.S (cl Bd1 fun x => markR x.2 x.1) := laws_markRack.of_cl s_markStoredS fun x h => markRack_pf x.1 x.2 h
theorem heldRack_pf {α : Type} (l : List (List DS)) (n : Int) (h : Bd l) (k : Int → Option α) : laws_heldRack.pf (cl PL1 fun x => heldL x.2 x.1) BIG l n k = k (heldR n l) := by
  have hl := h.len
  unfold laws_heldRack.pf
  refine iter_list l (fun i (c : Int) => (c, (i : Int))) (fun r c => k (heldR c r)) (fun i c => True) (c := n) rfl (big_lt (by omega)) trivial ?_ ?_
  · rintro i hi c rec _ hrec
    unfold laws_heldRack.B1
    simp only [decT (show (i : Int) < (l.length : Int) by omega), inB_nat hi, cond_true, Int.toNat_natCast, getD_lt hi, cl_eq (show PL1 (l[i], c) from h.at hi), Option.bind_some, w64n (show i < 9223372036854775807 by omega), heldR]
    by_cases q : heldL c l[i] < 0
    · rw [decT q, if_pos q]; rfl
    · rw [decF q, if_neg q]; exact hrec _ trivial
  · rintro c rec _
    unfold laws_heldRack.B1
    rw [decF (by simp only; omega)]
    rfl
theorem s_heldRack : laws_heldRack.S (cl Bd1 fun x => heldR x.2 x.1) := laws_heldRack.of_cl s_heldStoredS fun x h => heldRack_pf x.1 x.2 h
theorem held_markR : ∀ (l : List (List DS)) (k : Int), 0 ≤ k → k + 3 * (l.map List.length).sum ≤ 9223372036854775807 → heldR k (markR k l).2 = (markR k l).1 ∧ 0 ≤ (markR k l).1
  | [], k, h0, _ => ⟨rfl, h0⟩
  | x :: l, k, h0, h => by
    simp only [List.map_cons, List.sum_cons] at h
    have e := markL_fst x k h0 (by omega)
    unfold markR heldR
    simp only [held_markL]
    rw [if_neg (by omega)]
    exact held_markR l _ (by omega) (by omega)
theorem markR_bd (l : List (List DS)) (k : Int) (h : Bd l) : Bd (markR k l).2 := by
  have : ∀ (l : List (List DS)) (k : Int), (markR k l).2.map List.length = l.map List.length := by
    intro l
    induction l with
    | nil => intro k; rfl
    | cons x l ih => intro k; unfold markR; simp [markL_len, ih]
  have h2 := congrArg List.length (this l k)
  simp only [List.length_map] at h2
  unfold Bd at h ⊢
  rw [this, h2]
  exact h
def validB (b : DB) : Bool := decide (1 ≤ b.1) && decide (b.1 ≤ 20) && (decide (1900 ≤ b.2) && decide (b.2 ≤ 2099))
def validS (s : DS) : Bool := validB s.1 && (decide (0 ≤ s.2) && decide (s.2 ≤ 2000))
def validR (r : List (List DS)) : Bool := decide (r.length ≤ 8) && r.all fun l => decide (l.length ≤ 6) && l.all validS
/-- Whole numbers of their kinds. -/
def wB (b : DB) : Prop := 0 ≤ b.1 ∧ b.1 ≤ 255 ∧ -32768 ≤ b.2 ∧ b.2 ≤ 32767
def wS (s : DS) : Prop := wB s.1 ∧ -32768 ≤ s.2 ∧ s.2 ≤ 32767
def wL (l : List DS) : Prop := PL l ∧ ∀ s, s ∈ l → wS s
def wR (r : List (List DS)) : Prop := Bd r ∧ ∀ l, l ∈ r → ∀ s, s ∈ l → wS s
theorem wR.at {r : List (List DS)} (h : wR r) {k : Nat} (hk : k < r.length) : wL r[k] := ⟨h.1.pl hk, h.2 _ (List.getElem_mem hk)⟩
theorem wL.at {l : List DS} (h : wL l) {k : Nat} (hk : k < l.length) : wS l[k] := h.2 _ (List.getElem_mem hk)
theorem s_l00In : spec_l00In.S (tot fun x => decide (x.2.1 ≤ x.1) && decide (x.1 ≤ x.2.2)) := spec_l00In.of_tot fun x k => by
  unfold spec_l00In.pf
  by_cases c : x.2.1 ≤ x.1
  · rw [decT (show x.1 ≥ x.2.1 from c)]; rfl
  · rw [decF (show ¬ x.1 ≥ x.2.1 from c)]; rfl
theorem s_within : impl_within.S (tot fun x => decide (x.2.1 ≤ x.1) && decide (x.1 ≤ x.2.2)) := impl_within.of_tot fun x k => by
  unfold impl_within.pf
  by_cases c : x.2.1 ≤ x.1
  · rw [decT c]; rfl
  · rw [decF c]; rfl
theorem s_l01Bottle : spec_l01Bottle.S (cl wB validB) := spec_l01Bottle.of_cl s_l00In fun x ⟨h1, h2, h3, h4⟩ k => by
  unfold spec_l01Bottle.pf validB
  simp only [tot_eq, Option.bind_some, w64 (n := x.1) (by omega) (by omega), w64 (n := x.2) (by omega) (by omega)]
  cases decide (1 ≤ x.1) && decide (x.1 ≤ 20) <;> rfl
theorem s_ValidBottle : impl_ValidBottle.S (cl wB validB) := impl_ValidBottle.of_cl s_within fun x ⟨h1, h2, h3, h4⟩ k => by
  unfold impl_ValidBottle.pf validB
  simp only [tot_eq, Option.bind_some, w64 (n := x.1) (by omega) (by omega), w64 (n := x.2) (by omega) (by omega)]
  cases decide (1 ≤ x.1) && decide (x.1 ≤ 20) <;> rfl
theorem s_l04Stored : spec_l04Stored.S (cl wS validS) := spec_l04Stored.of_cl s_l01Bottle s_l00In fun x ⟨h1, h2, h3⟩ k => by
  unfold spec_l04Stored.pf validS
  rw [cl_eq h1, w64 (n := x.2) (by omega) (by omega)]
  simp only [tot_eq, Option.bind_some]
  cases validB x.1 <;> rfl
theorem s_validStored : impl_validStored.S (cl wS validS) := impl_validStored.of_cl s_ValidBottle s_within fun x ⟨h1, h2, h3⟩ k => by
  unfold impl_validStored.pf validS
  rw [cl_eq h1, w64 (n := x.2) (by omega) (by omega)]
  simp only [tot_eq, Option.bind_some]
  cases validB x.1 <;> rfl
theorem any_not {β : Type} (l : List β) (p : β → Bool) : (l.any fun x => !p x) = !l.all p := by
  induction l with
  | nil => rfl
  | cons x l ih => rw [List.any_cons, List.all_cons, ih, Bool.not_and]
theorem s_l04All : spec_l04All.S (cl wL fun l => l.all validS) := spec_l04All.of_cl s_l04Stored fun x h k => by
  have hl : x.length ≤ 1073741824 := h.1
  unfold spec_l04All.pf
  rw [iter_first x (fun i => (i : Int)) (fun s => !validS s) (fun _ _ => k false) (k true) (x := 0) rfl (big_lt (by omega)) ?_ ?_, firstOr_const, any_not]
  · cases x.all validS <;> rfl
  · intro i hi rec
    unfold spec_l04All.B1
    simp only [decT (show (i : Int) < (x.length : Int) by omega), inB_nat hi, cond_true, Int.toNat_natCast, getD_lt hi, cl_eq (h.at hi), Option.bind_some, w64n (show i < 9223372036854775807 by omega)]
  · intro rec
    unfold spec_l04All.B1
    rw [decF (by omega)]
    rfl
theorem s_l04Ok : spec_l04Ok.S (cl wR validR) := spec_l04Ok.of_cl s_l04All fun x h k => by
  have hl := h.1.len
  unfold spec_l04Ok.pf
  rw [iter_first x (fun i => (i : Int)) (fun l => !(decide (l.length ≤ 6) && l.all validS)) (fun _ _ => k false) (k (decide (x.length ≤ 8))) (x := 0) rfl (big_lt (by omega)) ?_ ?_, firstOr_const, any_not]
  · unfold validR
    cases x.all fun l => decide (l.length ≤ 6) && l.all validS
    · rw [Bool.and_false]; rfl
    · rw [Bool.and_true]; rfl
  · intro i hi rec
    have := h.1.at hi
    unfold spec_l04Ok.B1
    simp only [decT (show (i : Int) < (x.length : Int) by omega), inB_nat hi, cond_true, Int.toNat_natCast, getD_lt hi, cl_eq (h.at hi), Option.bind_some, w64n (show i < 9223372036854775807 by omega)]
    by_cases c : x[i].length ≤ 6
    · rw [decF (show ¬ ((x[i].length : Int) > 6) by omega), decT c]; rfl
    · rw [decT (show ((x[i].length : Int) > 6) by omega), decF c]; rfl
  · intro rec
    unfold spec_l04Ok.B1
    rw [decF (by omega)]
    simp only [cond_false]
    congr 1
    by_cases c : x.length ≤ 8
    · rw [decT c, decT (by omega)]
    · rw [decF c, decF (by omega)]
theorem s_ValidRack_1_1 : impl_ValidRack_1_1.S (cl wS fun s => !validS s) := impl_ValidRack_1_1.of_cl s_validStored fun x h k => by
  unfold impl_ValidRack_1_1.pf
  rw [cl_eq h]; rfl
/-- Where the first one is. -/
def indexI {β : Type} (p : β → Bool) (l : List β) : Int := match l.findIdx? p with
  | some i => i
  | none => -1
theorem firstOr_index {α β : Type} (p : β → Bool) (k : Int → Option α) : ∀ (l : List β) (j : Nat), firstOr p (fun i _ => k (i : Int)) (k (-1)) j l = k (match l.findIdx? p with | some i => ((j + i : Nat) : Int) | none => -1)
  | [], _ => rfl
  | x :: l, j => by
    rw [firstOr, List.findIdx?_cons]
    cases p x with
    | true => simp
    | false =>
      rw [cond_false, firstOr_index p k l]
      cases l.findIdx? p with
      | none => rfl
      | some i => simp [Nat.add_assoc, Nat.add_comm 1 i]
theorem indexI_nn {β : Type} (p : β → Bool) (l : List β) : decide (indexI p l ≥ 0) = l.any p := by
  unfold indexI
  cases h : l.findIdx? p with
  | none =>
    have := List.findIdx?_eq_none_iff.1 h
    simp only
    rw [decF (by omega)]
    symm
    rw [List.any_eq_false]
    intro x hx
    simpa using this x hx
  | some i =>
    simp only
    rw [decT (by omega)]
    symm
    obtain ⟨hi, hp, _⟩ := List.findIdx?_eq_some_iff_getElem.1 h
    exact List.any_eq_true.2 ⟨_, List.getElem_mem hi, hp⟩
theorem s_index_1_1 : slices_IndexFunc_impl_Stored_impl_Stored__impl_ValidRack_1_1.S (cl wL fun l => indexI (fun s => !validS s) l) :=
  slices_IndexFunc_impl_Stored_impl_Stored__impl_ValidRack_1_1.of_cl s_ValidRack_1_1 fun x h k => by
  have hl : x.length ≤ 1073741824 := h.1
  unfold slices_IndexFunc_impl_Stored_impl_Stored__impl_ValidRack_1_1.pf
  rw [iter_first x (fun i => (i : Int)) (fun s => !validS s) (fun i _ => k (i : Int)) (k (-1)) (x := 0) rfl (big_lt (by omega)) ?_ ?_, firstOr_index]
  · unfold indexI
    congr 1
    cases x.findIdx? fun s => !validS s <;> simp
  · intro i hi rec
    unfold slices_IndexFunc_impl_Stored_impl_Stored__impl_ValidRack_1_1.B1
    simp only [decT (show (i : Int) < (x.length : Int) by omega), inB_nat hi, cond_true, Int.toNat_natCast, getD_lt hi, cl_eq (h.at hi), Option.bind_some, w64n (show i < 9223372036854775807 by omega)]
  · intro rec
    unfold slices_IndexFunc_impl_Stored_impl_Stored__impl_ValidRack_1_1.B1
    rw [decF (by omega)]
    rfl
theorem s_contains_1_1 : slices_ContainsFunc_impl_Stored_impl_Stored__impl_ValidRack_1_1.S (cl wL fun l => !l.all validS) :=
  slices_ContainsFunc_impl_Stored_impl_Stored__impl_ValidRack_1_1.of_cl s_index_1_1 fun x h k => by
  unfold slices_ContainsFunc_impl_Stored_impl_Stored__impl_ValidRack_1_1.pf
  rw [cl_eq h, Option.bind_some, indexI_nn, any_not]
theorem s_ValidRack_1 : impl_ValidRack_1.S (cl wL fun l => !(decide (l.length ≤ 6) && l.all validS)) := impl_ValidRack_1.of_cl s_contains_1_1 fun x h k => by
  unfold impl_ValidRack_1.pf
  have hl : x.length ≤ 1073741824 := h.1
  by_cases c : x.length ≤ 6
  · rw [decF (show ¬ ((x.length : Int) > 6) by omega), decT c, cl_eq h]; rfl
  · rw [decT (show ((x.length : Int) > 6) by omega), decF c]; rfl
theorem s_index_1 : slices_IndexFunc_impl_Rack_impl_Stored__impl_ValidRack_1.S (cl wR fun r => indexI (fun l => !(decide (l.length ≤ 6) && l.all validS)) r) :=
  slices_IndexFunc_impl_Rack_impl_Stored__impl_ValidRack_1.of_cl s_ValidRack_1 fun x h k => by
  have hl := h.1.len
  unfold slices_IndexFunc_impl_Rack_impl_Stored__impl_ValidRack_1.pf
  rw [iter_first x (fun i => (i : Int)) (fun l => !(decide (l.length ≤ 6) && l.all validS)) (fun i _ => k (i : Int)) (k (-1)) (x := 0) rfl (big_lt (by omega)) ?_ ?_, firstOr_index]
  · unfold indexI
    congr 1
    cases x.findIdx? fun l => !(decide (l.length ≤ 6) && l.all validS) <;> simp
  · intro i hi rec
    unfold slices_IndexFunc_impl_Rack_impl_Stored__impl_ValidRack_1.B1
    simp only [decT (show (i : Int) < (x.length : Int) by omega), inB_nat hi, cond_true, Int.toNat_natCast, getD_lt hi, cl_eq (h.at hi), Option.bind_some, w64n (show i < 9223372036854775807 by omega)]
  · intro rec
    unfold slices_IndexFunc_impl_Rack_impl_Stored__impl_ValidRack_1.B1
    rw [decF (by omega)]
    rfl
theorem s_contains_1 : slices_ContainsFunc_impl_Rack_impl_Stored__impl_ValidRack_1.S (cl wR fun r => !r.all fun l => decide (l.length ≤ 6) && l.all validS) :=
  slices_ContainsFunc_impl_Rack_impl_Stored__impl_ValidRack_1.of_cl s_index_1 fun x h k => by
  unfold slices_ContainsFunc_impl_Rack_impl_Stored__impl_ValidRack_1.pf
  rw [cl_eq h, Option.bind_some, indexI_nn, any_not]
theorem s_impl_ValidRack : impl_ValidRack.S (cl wR validR) := impl_ValidRack.of_cl s_contains_1 fun x h k => by
  unfold impl_ValidRack.pf validR
  have hl := h.1.len
  by_cases c : x.length ≤ 8
  · rw [decT (show ((x.length : Int) ≤ 8) by omega), decT c, cl_eq h]; simp
  · rw [decF (show ¬ ((x.length : Int) ≤ 8) by omega), decF c]; rfl
theorem good_B {b : DB} (h : goodV (.st (.pair (.int .u8) (.int .i16))) b) : wB b := by
  obtain ⟨h1, h2⟩ := h
  simp only [goodV, Lit.wf, IntKind.min, IntKind.max, IntKind.bits, IntKind.signed] at h1 h2
  simp at h1 h2
  unfold wB
  omega
theorem good_S {s : DS} (h : goodV (.st (.pair (.st (.pair (.int .u8) (.int .i16))) (.int .i16))) s) : wS s := by
  obtain ⟨h1, h2⟩ := h
  refine ⟨good_B h1, ?_⟩
  simp only [goodV, Lit.wf, IntKind.min, IntKind.max, IntKind.bits, IntKind.signed] at h2
  simp at h2
  omega
/-- What comes in. -/
def gR (r : List (List DS)) : Prop := r.length ≤ maxLen ∧ (∀ l, l ∈ r → l.length ≤ maxLen) ∧ ∀ l, l ∈ r → ∀ s, s ∈ l → wS s
theorem good_rack {e e' : TypeId} {r : List (List DS)} (h : goodV (.row e (.row e' (.st (.pair (.st (.pair (.int .u8) (.int .i16))) (.int .i16))))) r) : gR r := by
  obtain ⟨h1, h2⟩ := h
  have h3 : ∀ l, l ∈ r → goodV (.row e' (.st (.pair (.st (.pair (.int .u8) (.int .i16))) (.int .i16)))) l := fun l hl => by
    obtain ⟨i, hi, rfl⟩ := List.mem_iff_getElem.1 hl
    have := h2 i hi
    rwa [getD_lt hi] at this
  refine ⟨h1, fun l hl => (h3 l hl).1, fun l hl s hs => ?_⟩
  obtain ⟨i, hi, rfl⟩ := List.mem_iff_getElem.1 hs
  have := (h3 l hl).2 i hi
  rw [getD_lt hi] at this
  exact good_S this
theorem gR.sz {r : List (List DS)} (h : gR r) : PszR (r, 1048576) := ⟨h.1, h.2.1, by simp, by simp⟩
theorem gR.w {r : List (List DS)} (h : gR r) (c : ¬ vszR (r, 1048576) < 0) : wR r := ⟨(sz_bd (by omega) (by omega) c).1, h.2.2⟩
theorem bneS (a : Int) : (a != a) = false := by simp
theorem okS {n : Nat} (h : n ≤ 4294967296) : okL n = true := okL_true h
theorem own_pf {α : Type} (r : List (List DS)) (h : Bd r) (k : List (List DS) → Option α) : spec_l04Own.pf BIG r k = k r := by
  have hl := h.len
  unfold spec_l04Own.pf
  refine (iter_list r (fun i (c : List (List DS)) => ((i : Int), c)) (fun q c => k (c ++ q)) (fun i c => c.length = i) (c := []) (by rfl) (big_lt (by omega)) rfl ?_ ?_)
  · rintro i hi c rec h1 hrec
    have := h.at hi
    unfold spec_l04Own.B1
    simp only [decT (show (i : Int) < (r.length : Int) by omega), inB_nat hi, cond_true, Int.toNat_natCast, getD_lt hi, okS (show List.length ([] : List DS) + r[i].length ≤ 4294967296 by simp; omega), okS (show c.length + List.length [[] ++ r[i]] ≤ 4294967296 by simp; omega), w64n (show i < 9223372036854775807 by omega)]
    refine (hrec _ (by simp [h1])).trans ?_
    simp
  · rintro c rec h1
    unfold spec_l04Own.B1
    rw [decF (by simp only; omega)]
    simp
theorem s_l04Own : spec_l04Own.S (cl Bd fun r => r) := spec_l04Own.of_cl fun r h => own_pf r h
theorem cloned_pf {α : Type} (r : List (List DS)) (h : Bd r) (k : List (List DS) → Option α) : impl_Rack_cloned.pf BIG r k = k r := by
  have hl := h.len
  unfold impl_Rack_cloned.pf
  refine (iter_list r (fun i (c : List (List DS)) => ((i : Int), c)) (fun q c => k (c ++ q)) (fun i c => c.length = i) (c := []) (by rfl) (big_lt (by omega)) rfl ?_ ?_)
  · rintro i hi c rec h1 hrec
    have := h.at hi
    unfold impl_Rack_cloned.B1
    simp only [decT (show (i : Int) < (r.length : Int) by omega), inB_nat hi, cond_true, Int.toNat_natCast, getD_lt hi, okS (show List.length ([] : List DS) + r[i].length ≤ 4294967296 by simp; omega), okS (show c.length + List.length [[] ++ r[i]] ≤ 4294967296 by simp; omega), w64n (show i < 9223372036854775807 by omega)]
    refine (hrec _ (by simp [h1])).trans ?_
    simp
  · rintro c rec h1
    unfold impl_Rack_cloned.B1
    rw [decF (by simp only; omega)]
    simp
theorem s_cloned : impl_Rack_cloned.S (cl Bd fun r => r) := impl_Rack_cloned.of_cl fun r h => cloned_pf r h
theorem pathI (n : Nat) : pathEq [.idx n] [.idx n] = true := by simp [pathEq]
theorem bd_nil : Bd ([] : List (List DS)) := by simp [Bd]
theorem valid_lane {r : List (List DS)} (hw : validR r = true) {n : Nat} (hn : n < r.length) : r[n].length ≤ 6 := by
  unfold validR at hw
  simp only [Bool.and_eq_true, List.all_eq_true, decide_eq_true_eq] at hw
  exact (hw.2 _ (List.getElem_mem hn)).1
/-- What the harness asks of a rack that came back. -/
theorem held_ok (q : List (List DS)) (h : Bd q) : heldR 1 (markR 1 q).2 = (markR 1 q).1 ∧ 0 ≤ (markR 1 q).1 := held_markR q 1 (by omega) (by unfold Bd at h; omega)
def cnt (l : List DS) (d : Int) : Int := match l with
  | [] => 0
  | s :: l => (if s.2 < d then 1 else 0) + cnt l d
theorem s_blocked : impl_blocked.S (cl PL1 fun x => cnt x.1 x.2) := impl_blocked.of_cl fun x h k => by
  obtain ⟨l, d⟩ := x
  have hl : l.length ≤ 1073741824 := h
  show impl_blocked.pf BIG l d k = k (cnt l d)
  unfold impl_blocked.pf
  refine (iter_list l (fun i (c : Int) => (c, (i : Int))) (fun q c => k (c + cnt q d)) (fun i c => 0 ≤ c ∧ c ≤ i) (c := 0) rfl (big_lt (by omega)) ⟨by omega, by omega⟩ ?_ ?_).trans (by rw [Int.zero_add])
  · rintro i hi c rec ⟨h1, h2⟩ hrec
    unfold impl_blocked.B1
    simp only [decT (show (i : Int) < (l.length : Int) by omega), inB_nat hi, cond_true, Int.toNat_natCast, getD_lt hi, w64n (show i < 9223372036854775807 by omega), w64 (show -9223372036854775808 ≤ c + 1 by omega) (by omega), cnt]
    by_cases q : l[i].2 < d
    · rw [decT q, if_pos q, cond_true]
      refine (hrec _ (by omega)).trans (by rw [Int.add_assoc])
    · rw [decF q, if_neg q, cond_false]
      refine (hrec _ (by omega)).trans (by rw [Int.zero_add])
  · rintro c rec _
    unfold impl_blocked.B1
    rw [decF (by simp only; omega)]
    simp [cnt]
theorem valid_len {r : List (List DS)} (hw : validR r = true) : r.length ≤ 8 := by
  unfold validR at hw
  simp only [Bool.and_eq_true, decide_eq_true_eq] at hw
  exact hw.1
def encB : Option Nat → Int
  | none => -1
  | some n => (n : Int)
theorem encB_some (m : Nat) : encB (some m) = (m : Int) := rfl
/-- The best lane so far, behind one more. -/
def updB (r : List (List DS)) (d : Int) (o : Option Nat) (i : Nat) : Option Nat :=
  if (r.getD i []).length = 6 then o else match o with
    | none => some i
    | some m => if cnt (r.getD i []) d < cnt (r.getD m []) d ∨ cnt (r.getD i []) d = cnt (r.getD m []) d ∧ (r.getD i []).length < (r.getD m []).length then some i else some m
def bestLane (r : List (List DS)) (d : Int) : Option Nat := (List.range r.length).foldl (updB r d) none
def OkB (r : List (List DS)) (o : Option Nat) : Prop := ∀ m, o = some m → m < r.length
theorem updB_ok {r : List (List DS)} {d : Int} {o : Option Nat} {i : Nat} (ho : OkB r o) (hi : i < r.length) : OkB r (updB r d o i) := by
  intro m hm
  unfold updB at hm
  split at hm
  · exact ho m hm
  · split at hm
    · obtain rfl := Option.some.inj hm; exact hi
    · split at hm
      · obtain rfl := Option.some.inj hm; exact hi
      · exact ho m hm
theorem range_drop {n k : Nat} (h : k < n) : (List.range n)[k]'(by simpa using h) = k := by simp
theorem s_bestLane : impl_Rack_bestLane.S (cl Bd1 fun x => encB (bestLane x.1 x.2.2)) := impl_Rack_bestLane.of_cl s_blocked fun x h k => by
  obtain ⟨r, s⟩ := x
  have hb : Bd r := h
  have hl := hb.len
  show impl_Rack_bestLane.pf _ BIG r s k = k (encB (bestLane r s.2))
  unfold impl_Rack_bestLane.pf bestLane
  refine (iter_list (List.range r.length) (fun p (c : Option Nat) => (encB c, (p : Int))) (fun q c => k (encB (q.foldl (updB r s.2) c))) (fun p c => OkB r c) (c := none) rfl (big_lt (by simp; omega)) (fun p hp => by cases hp) ?_ ?_)
  · rintro p hp c rec hc hrec
    have hpr : p < r.length := by simpa using hp
    have hlp := hb.at hpr
    unfold impl_Rack_bestLane.B1
    simp only [decT (show (p : Int) < (r.length : Int) by omega), inB_nat hpr, cond_true, Int.toNat_natCast, getD_lt hpr, w64n (show p < 9223372036854775807 by omega), range_drop hpr, List.foldl_cons]
    refine Eq.trans ?_ (hrec (updB r s.2 c p) (updB_ok hc hpr))
    unfold updB
    rw [getD_lt hpr]
    by_cases c6 : r[p].length = 6
    · rw [beqT (by omega), if_pos c6]; rfl
    · rw [beqF (by omega), if_neg c6, cond_false]
      cases c with
      | none => rw [decT (show encB none < 0 by simp [encB])]; rfl
      | some m =>
        have hm := hc m rfl
        have hlm := hb.at hm
        rw [decF (show ¬ encB (some m) < 0 by rw [encB_some]; omega)]
        simp only [encB_some, cond_false, cl_eq (show PL1 (r[p], s.2) from hlp), Option.bind_some, inB_nat hm, cond_true, Int.toNat_natCast, getD_lt hm, cl_eq (show PL1 (r[m], s.2) from hlm)]
        by_cases d1 : cnt r[p] s.2 < cnt r[m] s.2
        · rw [decT d1, if_pos (.inl d1)]; rfl
        · rw [decF d1, cond_false]
          by_cases d2 : cnt r[p] s.2 = cnt r[m] s.2
          · rw [beqT d2, cond_true]
            by_cases d3 : r[p].length < r[m].length
            · rw [decT (by omega), if_pos (.inr ⟨d2, d3⟩)]; rfl
            · rw [decF (by omega), if_neg (by omega)]; rfl
          · rw [beqF d2, cond_false, if_neg (by omega)]; rfl
  · rintro c rec _
    unfold impl_Rack_bestLane.B1
    rw [decF (by simp)]
    rfl
theorem spec_best2 {α : Type} (r : List (List DS)) (s : DS) (i : Nat) (hi : i < r.length) (hl : r[i].length ≤ 1073741824) (a b : Int) (K : Int × Int → Option α) :
    iter (spec_l04Best.B2 a b (i : Int) r s K) BIG (0, 0) = K (cnt r[i] s.2, (r[i].length : Int)) := by
  refine (iter_list r[i] (fun p (c : Int) => (c, (p : Int))) (fun q c => K (c + cnt q s.2, (r[i].length : Int))) (fun p c => 0 ≤ c ∧ c ≤ p) (c := 0) rfl (big_lt (by omega)) ⟨by omega, by omega⟩ ?_ ?_).trans (by rw [Int.zero_add])
  · rintro p hp c rec ⟨h1, h2⟩ hrec
    unfold spec_l04Best.B2
    simp only [inB_nat hi, decT (show (p : Int) < (r[i].length : Int) by omega), cond_true, Int.toNat_natCast, getD_lt hi, inB_nat hp, getD_lt hp, w64n (show p < 9223372036854775807 by omega), w64 (show -9223372036854775808 ≤ c + 1 by omega) (by omega), cnt]
    by_cases q : r[i][p].2 < s.2
    · rw [decT (show s.2 > r[i][p].2 from q), if_pos q, cond_true]
      refine (hrec _ (by omega)).trans (by rw [Int.add_assoc])
    · rw [decF (show ¬ s.2 > r[i][p].2 from q), if_neg q, cond_false]
      refine (hrec _ (by omega)).trans (by rw [Int.zero_add])
  · rintro c rec _
    unfold spec_l04Best.B2
    simp only [inB_nat hi, cond_true, Int.toNat_natCast, getD_lt hi]
    rw [decF (by omega)]
    simp [cnt]
theorem s_l04Best : spec_l04Best.S (cl Bd1 fun x => encB (bestLane x.1 x.2.2)) := spec_l04Best.of_cl fun x h k => by
  obtain ⟨r, s⟩ := x
  have hb : Bd r := h
  have hl := hb.len
  show spec_l04Best.pf BIG r s k = k (encB (bestLane r s.2))
  unfold spec_l04Best.pf bestLane
  refine (iter_list (List.range r.length) (fun p (c : Option Nat) => (encB c, (match c with | none => 0 | some m => cnt (r.getD m []) s.2), (p : Int))) (fun q c => k (encB (q.foldl (updB r s.2) c))) (fun p c => OkB r c) (c := none) rfl (big_lt (by simp; omega)) (fun p hp => by cases hp) ?_ ?_)
  · rintro p hp c rec hc hrec
    have hpr : p < r.length := by simpa using hp
    have hlp := hb.at hpr
    unfold spec_l04Best.B1
    simp only [decT (show (p : Int) < (r.length : Int) by omega), inB_nat hpr, cond_true, Int.toNat_natCast, getD_lt hpr, w64n (show p < 9223372036854775807 by omega), range_drop hpr, List.foldl_cons]
    refine Eq.trans ?_ (hrec (updB r s.2 c p) (updB_ok hc hpr))
    unfold updB
    rw [getD_lt hpr]
    by_cases c6 : r[p].length = 6
    · rw [beqT (by omega), if_pos c6]; rfl
    · rw [beqF (by omega), if_neg c6, cond_false, spec_best2 r s p hpr hlp]
      cases c with
      | none =>
        rw [decT (show encB none < 0 by simp [encB])]
        simp only [cond_true, encB, getD_lt hpr]
      | some m =>
        have hm := hc m rfl
        rw [decF (show ¬ encB (some m) < 0 by rw [encB_some]; omega)]
        simp only [encB_some, cond_false, inB_nat hm, cond_true, Int.toNat_natCast, getD_lt hm]
        by_cases d1 : cnt r[p] s.2 < cnt r[m] s.2
        · rw [decT d1, if_pos (.inl d1)]
          simp only [cond_true, encB, getD_lt hpr]
        · rw [decF d1, cond_false]
          by_cases d2 : cnt r[p] s.2 = cnt r[m] s.2
          · rw [beqT d2, cond_true]
            by_cases d3 : r[p].length < r[m].length
            · rw [decT (by omega), if_pos (.inr ⟨d2, d3⟩)]
              simp only [cond_true, encB, getD_lt hpr]
            · rw [decF (by omega), if_neg (by omega)]
              simp only [cond_false, encB, getD_lt hm]
          · rw [beqF d2, cond_false, if_neg (by omega)]
            simp only [encB, getD_lt hm]
  · rintro c rec _
    unfold spec_l04Best.B1
    rw [decF (by simp)]
    rfl
/-- Few lanes, each of them short. -/
def Few (o : List (List DS)) : Prop := o.length ≤ 8 ∧ ∀ x, x ∈ o → x.length ≤ 6
theorem Few.at {o : List (List DS)} (h : Few o) {n : Nat} (hn : n < o.length) : o[n].length ≤ 6 := h.2 _ (List.getElem_mem hn)
theorem sum_few : ∀ (q : List (List DS)) (b : Nat), (∀ x, x ∈ q → x.length ≤ b) → (q.map List.length).sum ≤ b * q.length
  | [], b, _ => by simp
  | x :: q, b, hq => by
    have h1 := sum_few q b (fun y hy => hq y (List.mem_cons_of_mem _ hy))
    have h2 := hq x (by simp)
    simp only [List.map_cons, List.sum_cons, List.length_cons, Nat.mul_add]
    omega
theorem Few.bd {o : List (List DS)} (h : Few o) : Bd o := by
  have := sum_few o 6 h.2
  have := h.1
  unfold Bd
  omega
theorem few_valid {r : List (List DS)} (hw : validR r = true) : Few r := ⟨valid_len hw, fun x hx => by
  obtain ⟨n, hn, rfl⟩ := List.mem_iff_getElem.1 hx
  exact valid_lane hw hn⟩
theorem Few.set {o : List (List DS)} (h : Few o) {n : Nat} {x : List DS} (hx : x.length ≤ 6) : Few (o.set n x) := ⟨by rw [List.length_set]; exact h.1, fun y hy => by
  rcases List.mem_or_eq_of_mem_set hy with q | rfl
  · exact h.2 y q
  · exact hx⟩
theorem s_eqInt64S : laws_eqInt64S.S (cl PL1 fun x => decide (x.1 = x.2)) := laws_eqInt64S.of_cl fun x h k => by
  obtain ⟨a, b⟩ := x
  have hl : a.length ≤ 1073741824 := h
  show laws_eqInt64S.pf BIG a b k = k (decide (a = b))
  unfold laws_eqInt64S.pf
  by_cases c : a.length = b.length
  · rw [show (((a.length : Nat) : Int) != ((b.length : Nat) : Int)) = false by simp [c], cond_false]
    have hz : (a.zip b).length = a.length := by simp [c]
    rw [iter_first (a.zip b) (fun i => (i : Int)) (fun p => !decide (p.1 = p.2)) (fun _ _ => k false) (k true) (x := 0) rfl (big_lt (by omega)) ?_ ?_, firstOr_const, any_eq a b c]
    · by_cases e : a = b <;> simp [e]
    · intro i hi rec
      have h1 : i < a.length := by omega
      have h2 : i < b.length := by omega
      unfold laws_eqInt64S.B1
      rw [zip_at hi]
      simp only [decT (show (i : Int) < (a.length : Int) by omega), inB_nat h1, inB_nat h2, cond_true, Int.toNat_natCast, getD_lt h1, getD_lt h2, w64n (show i < 9223372036854775807 by omega)]
      by_cases e : a[i] = b[i]
      · rw [bneF e, decT e]; rfl
      · rw [bneT e, decF e]; rfl
    · intro rec
      unfold laws_eqInt64S.B1
      rw [decF (by omega)]
      rfl
  · rw [show (((a.length : Nat) : Int) != ((b.length : Nat) : Int)) = true by simpa using fun q => c (by omega), cond_true]
    rw [decF (fun e => c (by rw [e]))]
def markI : Int → List Int → Int × List Int
  | k, [] => (k, [])
  | k, _ :: l => ((markI (IntKind.i64.wrap (k + 1)) l).1, k :: (markI (IntKind.i64.wrap (k + 1)) l).2)
def heldI : Int → List Int → Int
  | k, [] => k
  | k, x :: l => if x = k then heldI (IntKind.i64.wrap (k + 1)) l else -1
theorem held_markI : ∀ (l : List Int) (k : Int), heldI k (markI k l).2 = (markI k l).1
  | [], _ => rfl
  | x :: l, k => by
    unfold markI heldI
    rw [if_pos rfl]
    exact held_markI l _
theorem markI_len : ∀ (l : List Int) (k : Int), (markI k l).2.length = l.length
  | [], _ => rfl
  | x :: l, k => by unfold markI; simp [markI_len l]
theorem markI_fst : ∀ (l : List Int) (k : Int), 0 ≤ k → k + l.length ≤ 9223372036854775807 → (markI k l).1 = k + l.length
  | [], k, _, _ => by simp [markI]
  | x :: l, k, h0, h => by
    simp only [List.length_cons] at h ⊢
    unfold markI
    rw [w64 (n := k + 1) (by omega) (by omega)]
    simp only
    rw [markI_fst l _ (by omega) (by omega)]
    omega
theorem s_markInt64S : laws_markInt64S.S (cl PL1 fun x => markI x.2 x.1) := laws_markInt64S.of_cl fun x h k => by
  obtain ⟨l, n⟩ := x
  have hl : l.length ≤ 1073741824 := h
  show laws_markInt64S.pf BIG l n k = k (markI n l)
  unfold laws_markInt64S.pf
  refine (iter_list l (fun i (c : Int × List Int) => (c.1, (i : Int), c.2)) (fun r c => k ((markI c.1 r).1, c.2.take (l.length - r.length) ++ (markI c.1 r).2)) (fun i c => c.2.length = l.length) (c := (n, l)) rfl (big_lt (by omega)) rfl ?_ ?_).trans (by simp)
  · rintro i hi ⟨m, c⟩ rec h1 hrec
    simp only at h1
    have hc : i < c.length := by omega
    unfold laws_markInt64S.B1
    have e1 : l.length - (l.drop (i + 1)).length = i + 1 := by rw [List.length_drop]; omega
    have e2 : l.length - (l[i] :: l.drop (i + 1)).length = i := by rw [List.length_cons, List.length_drop]; omega
    simp only [decT (show (i : Int) < (c.length : Int) by omega), inB_nat hc, cond_true, Int.toNat_natCast, w64n (show i < 9223372036854775807 by omega)]
    refine (hrec (IntKind.i64.wrap (m + 1), c.set i m) (by simpa using h1)).trans ?_
    simp only [e1, e2, take_set hc, markI, List.append_assoc, List.cons_append, List.nil_append]
  · rintro ⟨m, c⟩ rec h1
    simp only at h1
    unfold laws_markInt64S.B1
    rw [decF (by simp only; omega)]
    simp only [cond_false, markI, List.length_nil, Nat.sub_zero, List.append_nil]
    rw [List.take_of_length_le (by omega)]
theorem s_heldInt64S : laws_heldInt64S.S (cl PL1 fun x => heldI x.2 x.1) := laws_heldInt64S.of_cl fun x h k => by
  obtain ⟨l, n⟩ := x
  have hl : l.length ≤ 1073741824 := h
  show laws_heldInt64S.pf BIG l n k = k (heldI n l)
  unfold laws_heldInt64S.pf
  refine iter_list l (fun i (c : Int) => (c, (i : Int))) (fun r c => k (heldI c r)) (fun i c => True) (c := n) rfl (big_lt (by omega)) trivial ?_ ?_
  · rintro i hi c rec _ hrec
    unfold laws_heldInt64S.B1
    simp only [decT (show (i : Int) < (l.length : Int) by omega), inB_nat hi, cond_true, Int.toNat_natCast, getD_lt hi, w64n (show i < 9223372036854775807 by omega), heldI]
    by_cases q : l[i] = c
    · rw [bneF q, if_pos q]; exact hrec _ trivial
    · rw [bneT q, if_neg q]; rfl
  · rintro c rec _
    unfold laws_heldInt64S.B1
    rw [decF (by simp only; omega)]
    rfl
theorem s_areStored_1 : impl_areStored_1.S (cl wS fun s => !validS s) := impl_areStored_1.of_cl s_validStored fun x h k => by
  unfold impl_areStored_1.pf
  rw [cl_eq h]; rfl
theorem s_index_as : slices_IndexFunc_impl_Stored_impl_Stored__impl_areStored_1.S (cl wL fun l => indexI (fun s => !validS s) l) :=
  slices_IndexFunc_impl_Stored_impl_Stored__impl_areStored_1.of_cl s_areStored_1 fun x h k => by
  have hl : x.length ≤ 1073741824 := h.1
  unfold slices_IndexFunc_impl_Stored_impl_Stored__impl_areStored_1.pf
  rw [iter_first x (fun i => (i : Int)) (fun s => !validS s) (fun i _ => k (i : Int)) (k (-1)) (x := 0) rfl (big_lt (by omega)) ?_ ?_, firstOr_index]
  · unfold indexI
    congr 1
    cases x.findIdx? fun s => !validS s <;> simp
  · intro i hi rec
    unfold slices_IndexFunc_impl_Stored_impl_Stored__impl_areStored_1.B1
    simp only [decT (show (i : Int) < (x.length : Int) by omega), inB_nat hi, cond_true, Int.toNat_natCast, getD_lt hi, cl_eq (h.at hi), Option.bind_some, w64n (show i < 9223372036854775807 by omega)]
  · intro rec
    unfold slices_IndexFunc_impl_Stored_impl_Stored__impl_areStored_1.B1
    rw [decF (by omega)]
    rfl
theorem s_contains_as : slices_ContainsFunc_impl_Stored_impl_Stored__impl_areStored_1.S (cl wL fun l => !l.all validS) :=
  slices_ContainsFunc_impl_Stored_impl_Stored__impl_areStored_1.of_cl s_index_as fun x h k => by
  unfold slices_ContainsFunc_impl_Stored_impl_Stored__impl_areStored_1.pf
  rw [cl_eq h, Option.bind_some, indexI_nn, any_not]
theorem s_areStored : impl_areStored.S (cl wL fun l => l.all validS) := impl_areStored.of_cl s_contains_as fun x h k => by
  unfold impl_areStored.pf
  rw [cl_eq h, Option.bind_some, Bool.not_not]
theorem updB_room {r : List (List DS)} {d : Int} {o : Option Nat} {i : Nat} (ho : ∀ m, o = some m → (r.getD m []).length ≠ 6) : ∀ m, updB r d o i = some m → (r.getD m []).length ≠ 6 := by
  intro m hm
  unfold updB at hm
  split at hm
  · exact ho m hm
  · rename_i c
    split at hm
    · obtain rfl := Option.some.inj hm; exact c
    · split at hm
      · obtain rfl := Option.some.inj hm; exact c
      · exact ho m hm
theorem bestLane_ok {r : List (List DS)} {d : Int} {m : Nat} (h : bestLane r d = some m) : m < r.length ∧ (r.getD m []).length ≠ 6 := by
  have key : ∀ (q : List Nat) (o : Option Nat), (∀ i, i ∈ q → i < r.length) → OkB r o → (∀ m, o = some m → (r.getD m []).length ≠ 6) → ∀ m, q.foldl (updB r d) o = some m → m < r.length ∧ (r.getD m []).length ≠ 6 := by
    intro q
    induction q with
    | nil => intro o _ h1 h2 m hm; exact ⟨h1 m hm, h2 m hm⟩
    | cons i q ih =>
      intro o hq h1 h2 m hm
      exact ih _ (fun j hj => hq j (List.mem_cons_of_mem _ hj)) (updB_ok h1 (hq i (by simp))) (updB_room h2) m hm
  exact key _ _ (fun i hi => by simpa using hi) (fun p hp => by cases hp) (fun p hp => by cases hp) m h
def storing (o : List (List DS)) (js : List Int) : List DS → List (List DS) × List Int × Int
  | [] => (o, js, 0)
  | s :: l => match bestLane o s.2 with
    | none => ([], [], 6)
    | some m => storing (o.set m (o.getD m [] ++ [s])) (js ++ [(m : Int)]) l
def storeAll (r : List (List DS)) (l : List DS) : List (List DS) × List Int × Int := if (validR r && l.all validS) = true then storing r [] l else ([], [], 1)
def PSA (x : List (List DS) × List DS) : Prop := wR x.1 ∧ wL x.2
theorem store_few {o : List (List DS)} (h : Few o) {m : Nat} {d : Int} {s : DS} (hm : bestLane o d = some m) : Few (o.set m (o.getD m [] ++ [s])) := by
  obtain ⟨h1, h2⟩ := bestLane_ok hm
  rw [getD_lt h1] at h2 ⊢
  have := h.at h1
  exact h.set (by simp; omega)
theorem s_spec_StoreAll : spec_StoreAll.S (cl PSA fun x => storeAll x.1 x.2) := spec_StoreAll.of_cl s_l04Ok s_l04All s_l04Own s_l04Best fun x h k => by
  obtain ⟨r, l⟩ := x
  obtain ⟨hw, hs⟩ := h
  simp only at hw hs
  have hl : l.length ≤ 1073741824 := hs.1
  show spec_StoreAll.pf _ _ _ _ BIG r l k = k (storeAll r l)
  unfold spec_StoreAll.pf storeAll
  rw [cl_eq hw, Option.bind_some]
  cases c1 : validR r with
  | false => rfl
  | true =>
    simp only [Bool.not_true, cond_false, Bool.true_and]
    rw [cl_eq hs, Option.bind_some]
    cases c2 : l.all validS with
    | false => rfl
    | true =>
      simp only [Bool.not_true, cond_false, if_true]
      rw [cl_eq hw.1, Option.bind_some]
      refine iter_list l (fun p (c : List (List DS) × List Int) => ((p : Int), c.1, c.2)) (fun q c => k (storing c.1 c.2 q)) (fun p c => Few c.1 ∧ c.2.length = p) (c := (r, [])) rfl (big_lt (by omega)) ⟨few_valid c1, rfl⟩ ?_ ?_
      · rintro p hp ⟨o, js⟩ rec ⟨hf, hj⟩ hrec
        simp only at hf hj
        unfold spec_StoreAll.B1
        simp only [decT (show (p : Int) < (l.length : Int) by omega), inB_nat hp, cond_true, Int.toNat_natCast, getD_lt hp, cl_eq (show Bd1 (o, l[p]) from hf.bd), Option.bind_some, w64n (show p < 9223372036854775807 by omega), storing]
        cases e : bestLane o l[p].2 with
        | none => rw [decT (by simp [encB])]; rfl
        | some m =>
          obtain ⟨h1, h2⟩ := bestLane_ok e
          have h6 := hf.at h1
          rw [decF (show ¬ encB (some m) < 0 by rw [encB_some]; omega)]
          simp only [encB_some, cond_false, inB_nat h1, cond_true, Int.toNat_natCast]
          rw [okS (by rw [getD_lt h1]; simp; omega), pathI, okS (by simp; omega)]
          exact hrec (_, _) ⟨store_few hf e, by simp [hj]⟩
      · rintro ⟨o, js⟩ rec _
        unfold spec_StoreAll.B1
        rw [decF (by simp)]
        rfl
theorem s_impl_StoreAll : impl_StoreAll.S (cl PSA fun x => storeAll x.1 x.2) := impl_StoreAll.of_cl s_impl_ValidRack s_areStored s_cloned s_bestLane fun x h k => by
  obtain ⟨r, l⟩ := x
  obtain ⟨hw, hs⟩ := h
  simp only at hw hs
  have hl : l.length ≤ 1073741824 := hs.1
  show impl_StoreAll.pf _ _ _ _ BIG r l k = k (storeAll r l)
  unfold impl_StoreAll.pf storeAll
  rw [cl_eq hw, Option.bind_some]
  cases c1 : validR r with
  | false => rfl
  | true =>
    simp only [Bool.not_true, cond_false, Bool.true_and]
    rw [cl_eq hs, Option.bind_some]
    cases c2 : l.all validS with
    | false => rfl
    | true =>
      simp only [Bool.not_true, cond_false, if_true]
      rw [cl_eq hw.1, Option.bind_some]
      refine iter_list l (fun p (c : List (List DS) × List Int) => ((p : Int), c.1, c.2)) (fun q c => k (storing c.1 c.2 q)) (fun p c => Few c.1 ∧ c.2.length = p) (c := (r, [])) rfl (big_lt (by omega)) ⟨few_valid c1, rfl⟩ ?_ ?_
      · rintro p hp ⟨o, js⟩ rec ⟨hf, hj⟩ hrec
        simp only at hf hj
        unfold impl_StoreAll.B1
        simp only [decT (show (p : Int) < (l.length : Int) by omega), inB_nat hp, cond_true, Int.toNat_natCast, getD_lt hp, cl_eq (show Bd1 (o, l[p]) from hf.bd), Option.bind_some, w64n (show p < 9223372036854775807 by omega), storing]
        cases e : bestLane o l[p].2 with
        | none => rw [decT (by simp [encB])]; rfl
        | some m =>
          obtain ⟨h1, h2⟩ := bestLane_ok e
          have h6 := hf.at h1
          rw [decF (show ¬ encB (some m) < 0 by rw [encB_some]; omega)]
          simp only [encB_some, cond_false, inB_nat h1, cond_true, Int.toNat_natCast]
          rw [okS (by rw [getD_lt h1]; simp; omega), pathI, okS (by simp; omega)]
          exact hrec (_, _) ⟨store_few hf e, by simp [hj]⟩
      · rintro ⟨o, js⟩ rec _
        unfold impl_StoreAll.B1
        rw [decF (by simp)]
        rfl
theorem storing_bd : ∀ (l : List DS) (o : List (List DS)) (js : List Int), Few o → Few (storing o js l).1 ∧ (storing o js l).2.1.length ≤ js.length + l.length
  | [], o, js, h => ⟨h, by simp [storing]⟩
  | s :: l, o, js, h => by
    unfold storing
    cases e : bestLane o s.2 with
    | none => exact ⟨⟨by simp, by simp⟩, by simp⟩
    | some m =>
      obtain ⟨h1, h2⟩ := storing_bd l _ (js ++ [(m : Int)]) (store_few (s := s) h e)
      refine ⟨h1, ?_⟩
      simp only [List.length_append, List.length_cons, List.length_nil] at h2 ⊢
      omega
theorem storeAll_bd (r : List (List DS)) (l : List DS) : Bd (storeAll r l).1 ∧ (storeAll r l).2.1.length ≤ l.length := by
  unfold storeAll
  cases c : validR r with
  | false => exact ⟨bd_nil, by simp⟩
  | true =>
    cases c2 : l.all validS with
    | false => exact ⟨bd_nil, by simp⟩
    | true =>
      obtain ⟨h1, h2⟩ := storing_bd l r [] (few_valid c)
      exact ⟨h1.bd, by simpa using h2⟩
def gL (l : List DS) : Prop := l.length ≤ maxLen ∧ ∀ s, s ∈ l → wS s
theorem good_lane {e : TypeId} {l : List DS} (h : goodV (.row e (.st (.pair (.st (.pair (.int .u8) (.int .i16))) (.int .i16)))) l) : gL l := by
  obtain ⟨h1, h2⟩ := h
  refine ⟨h1, fun s hs => ?_⟩
  obtain ⟨i, hi, rfl⟩ := List.mem_iff_getElem.1 hs
  have := h2 i hi
  rw [getD_lt hi] at this
  exact good_S this
theorem markR_fst : ∀ (l : List (List DS)) (k : Int), 0 ≤ k → k + 3 * (l.map List.length).sum ≤ 9223372036854775807 → (markR k l).1 = k + 3 * (l.map List.length).sum
  | [], k, _, _ => by simp [markR]
  | x :: l, k, h0, h => by
    simp only [List.map_cons, List.sum_cons] at h ⊢
    have e := markL_fst x k h0 (by omega)
    unfold markR
    simp only
    rw [e, markR_fst l _ (by omega) (by omega)]
    omega
theorem s_law_StoreAll : laws_FnExactStoreAll.S (cl (fun x => gR x.1 ∧ gL x.2) fun _ => true) :=
  laws_FnExactStoreAll.of_cl s_szRack s_szStoredS s_toRack s_toStoredS s_spec_StoreAll s_impl_StoreAll s_eqRack s_eqInt64S s_eqStoredS s_markRack s_markStoredS s_markInt64S s_heldRack s_heldInt64S fun x ⟨h, hs⟩ k => by
  obtain ⟨r, l⟩ := x
  have hg : gR r := h
  have hs : gL l := hs
  show laws_FnExactStoreAll.pf _ _ _ _ _ _ _ _ _ _ _ _ _ _ BIG r l k = k true
  unfold laws_FnExactStoreAll.pf
  rw [cl_eq hg.sz, Option.bind_some]
  by_cases c : vszR (r, 1048576) < 0
  · rw [decT c]; rfl
  · obtain ⟨_, n0, n1⟩ := sz_bd (by omega) (by omega) c
    have w := hg.w c
    rw [decF c, cond_false, cl_eq (show Psz (l, vszR (r, 1048576)) from ⟨hs.1, n0, n1⟩), Option.bind_some]
    by_cases c2 : vsz (l, vszR (r, 1048576)) < 0
    · rw [decT c2]; rfl
    · have hl : l.length ≤ 1073741824 := by
        unfold vsz at c2
        simp only at c2
        by_cases q : vszR (r, 1048576) < l.length
        · rw [if_pos q] at c2; omega
        · omega
      have wl : wL l := ⟨hl, hs.2⟩
      obtain ⟨b2, b3⟩ := storeAll_bd r l
      have hh := held_ok _ b2
      have h1 := held_ok _ w.1
      have hb := w.1
      unfold Bd at hb
      have f1 := markR_fst r 1 (by omega) (by omega)
      have hb2 := b2
      unfold Bd at hb2
      have f2 := markR_fst (storeAll r l).1 1 (by omega) (by omega)
      have f3 := markL_fst l (markR 1 r).1 h1.2 (by omega)
      have f4 := markI_fst (storeAll r l).2.1 (markR 1 (storeAll r l).1).1 hh.2 (by omega)
      rw [decF c2, cond_false]
      simp only [cl_eq w.1, cl_eq (show PL l from hl), Option.bind_some, tot_eq, cl_eq (show PSA (r, l) from ⟨w, wl⟩), cl_eq (show Bd1 (r, r) from w.1), cl_eq (show PL1 (l, l) from hl), cl_eq (show Bd1 ((storeAll r l).1, (storeAll r l).1) from b2),
        cl_eq (show PL1 ((storeAll r l).2.1, (storeAll r l).2.1) from (by unfold PL1; simp only; omega)), decide_true, Bool.not_true, cond_false, bneS, cl_eq (show Bd1 (r, (1 : Int)) from w.1), cl_eq (show PL1 (l, (markR 1 r).1) from hl), cl_eq (show Bd1 ((storeAll r l).1, (1 : Int)) from b2),
        cl_eq (show PL1 ((storeAll r l).2.1, (markR 1 (storeAll r l).1).1) from (by unfold PL1; simp only; omega)),
        cl_eq (show Bd1 ((markR 1 (storeAll r l).1).2, (1 : Int)) from markR_bd _ _ b2), hh.1, cl_eq (show PL1 ((markI (markR 1 (storeAll r l).1).1 (storeAll r l).2.1).2, (markR 1 (storeAll r l).1).1) from (by unfold PL1; simp only; rw [markI_len]; omega)), held_markI,
        decF (show ¬ (markL (markR 1 r).1 l).1 < 0 by omega), decF (show ¬ (markR 1 (storeAll r l).1).1 < 0 by omega), decF (show ¬ (markI (markR 1 (storeAll r l).1).1 (storeAll r l).2.1).1 < 0 by omega)]
end Go.Proofs.Yteaodjahafgbcaa.G
