/- Plain proofs: what the functions answer, in plain lists and numbers. -/
import Derived.Test.YtlipfbihlmlplaaRd0
import Derived.Test.YtlipfbihlmlplaaRd1
import Derived.Test.YtlipfbihlmlplaaRd2
import Derived.Test.YtlipfbihlmlplaaRd3
import Derived.Test.YtlipfbihlmlplaaRd4
import Derived.Test.YtlipfbihlmlplaaShelf
namespace Go.Proofs.Ytlipfbihlmlplaa.G
open Go
set_option linter.unusedVariables false
set_option linter.unusedSimpArgs false
set_option maxRecDepth 10000
abbrev DB := Int × Int
abbrev DS := DB × Int
theorem eqB (a b : DB) : eqV (.st (.pair (.int .u8) (.int .i16))) a b = decide (a = b) := by
  obtain ⟨a1, a2⟩ := a
  obtain ⟨b1, b2⟩ := b
  simp only [eqV]
  rw [Bool.eq_iff_iff]
  simp
theorem any_eq {β : Type} [DecidableEq β] : ∀ (a b : List β), a.length = b.length → (a.zip b).any (fun p => !decide (p.1 = p.2)) = !decide (a = b)
  | [], [], _ => by simp
  | [], _ :: _, h => by simp at h
  | _ :: _, [], h => by simp at h
  | x :: a, y :: b, h => by
    rw [List.zip_cons_cons, List.any_cons, any_eq a b (by simpa using h)]
    by_cases c : x = y <;> by_cases c2 : a = b <;> simp [c, c2]
theorem zip_at {β γ : Type} {a : List β} {b : List γ} {k : Nat} (h : k < (a.zip b).length) : (a.zip b)[k] = (a[k]'(by simp at h; omega), b[k]'(by simp at h; omega)) := by simp
theorem take_set {β : Type} {l : List β} {k : Nat} {x : β} (h : k < l.length) : (l.set k x).take (k + 1) = l.take k ++ [x] := by
  rw [List.take_succ_eq_append_getElem (by simpa using h), List.take_set_of_le (Nat.le_refl k)]
  simp
theorem zip_len {β γ : Type} {a : List β} {b : List γ} (h : a.length = b.length) : (a.zip b).length = a.length := by simp [h]
def validB (b : DB) : Bool := decide (1 ≤ b.1) && decide (b.1 ≤ 20) && (decide (1900 ≤ b.2) && decide (b.2 ≤ 2099))
def wB (b : DB) : Prop := 0 ≤ b.1 ∧ b.1 ≤ 255 ∧ -32768 ≤ b.2 ∧ b.2 ≤ 32767
theorem s_l00In : Fz47.S (tot fun x => decide (x.2.1 ≤ x.1) && decide (x.1 ≤ x.2.2)) := Fz47.of_tot fun x k => by
  unfold Fz47.pf
  by_cases c : x.2.1 ≤ x.1
  · rw [decT (show x.1 ≥ x.2.1 from c)]; rfl
  · rw [decF (show ¬ x.1 ≥ x.2.1 from c)]; rfl
theorem s_within : Fz24.S (tot fun x => decide (x.2.1 ≤ x.1) && decide (x.1 ≤ x.2.2)) := Fz24.of_tot fun x k => by
  unfold Fz24.pf
  by_cases c : x.2.1 ≤ x.1
  · rw [decT c]; rfl
  · rw [decF c]; rfl
theorem s_l01Bottle : Fz49.S (cl wB validB) := Fz49.of_cl s_l00In fun x ⟨h1, h2, h3, h4⟩ k => by
  unfold Fz49.pf validB
  simp only [tot_eq, Option.bind_some, w64 (n := x.1) (by omega) (by omega), w64 (n := x.2) (by omega) (by omega)]
  cases decide (1 ≤ x.1) && decide (x.1 ≤ 20) <;> rfl
theorem s_ValidBottle : Fz15.S (cl wB validB) := Fz15.of_cl s_within fun x ⟨h1, h2, h3, h4⟩ k => by
  unfold Fz15.pf validB
  simp only [tot_eq, Option.bind_some, w64 (n := x.1) (by omega) (by omega), w64 (n := x.2) (by omega) (by omega)]
  cases decide (1 ≤ x.1) && decide (x.1 ≤ 20) <;> rfl
theorem any_not {β : Type} (l : List β) (p : β → Bool) : (l.any fun x => !p x) = !l.all p := by
  induction l with
  | nil => rfl
  | cons x l ih => rw [List.any_cons, List.all_cons, ih, Bool.not_and]
def indexI {β : Type} (p : β → Bool) (l : List β) : Int := match l.findIdx? p with
  | some i => i
  | none => -1
theorem firstOr_index {α β : Type} (p : β → Bool) (k : Int → Option α) : ∀ (l : List β) (j : Nat), firstOr p (fun i _ => k (i : Int)) (k (-1)) j l = k (match l.findIdx? p with | some i => ((j + i : Nat) : Int) | none => -1)
  | [], _ => rfl
  | x :: l, j => by
    rw [firstOr, List.findIdx?_cons]
    cases p x with
    | true => simp
    | false =>
      rw [cond_false, firstOr_index p k l]
      cases l.findIdx? p with
      | none => rfl
      | some i => simp [Nat.add_assoc, Nat.add_comm 1 i]
theorem indexI_nn {β : Type} (p : β → Bool) (l : List β) : decide (indexI p l ≥ 0) = l.any p := by
  unfold indexI
  cases h : l.findIdx? p with
  | none =>
    have := List.findIdx?_eq_none_iff.1 h
    simp only
    rw [decF (by omega)]
    symm
    rw [List.any_eq_false]
    intro x hx
    simpa using this x hx
  | some i =>
    simp only
    rw [decT (by omega)]
    symm
    obtain ⟨hi, hp, _⟩ := List.findIdx?_eq_some_iff_getElem.1 h
    exact List.any_eq_true.2 ⟨_, List.getElem_mem hi, hp⟩
theorem bneS (a : Int) : (a != a) = false := by simp
theorem okS {n : Nat} (h : n ≤ 4294967296) : okL n = true := okL_true h
def Few (o : List (List DS)) : Prop := o.length ≤ 8 ∧ ∀ x, x ∈ o → x.length ≤ 6
theorem Few.set {o : List (List DS)} (h : Few o) {n : Nat} {x : List DS} (hx : x.length ≤ 6) : Few (o.set n x) := ⟨by rw [List.length_set]; exact h.1, fun y hy => by
  rcases List.mem_or_eq_of_mem_set hy with q | rfl
  · exact h.2 y q
  · exact hx⟩
def keptOf {β : Type} (d : β) (p : β → Bool) (l : List β) : Option (Nat × Nat) × List β :=
  if l.any p = true then (some (0, (l.filter fun x => !p x).length), (l.filter fun x => !p x) ++ List.replicate (l.length - (l.filter fun x => !p x).length) d) else (none, l)
theorem kept_cut {β : Type} (d : β) (p : β → Bool) (l : List β) : Win.cut (keptOf d p l).1 (keptOf d p l).2 = l.filter fun x => !p x := by
  unfold keptOf
  by_cases c : l.any p = true
  · rw [if_pos c]
    simp [Win.cut]
  · rw [if_neg c]
    symm
    show l.filter _ = l
    rw [List.filter_eq_self]
    intro x hx
    simp only [List.any_eq_true, not_exists, not_and, Bool.not_eq_true] at c
    simp [c x hx]
def wBs (l : List DB) : Prop := l.length ≤ 1073741824 ∧ ∀ b, b ∈ l → wB b
def AllIn (Q : DS → Prop) (o : List (List DS)) : Prop := ∀ l, l ∈ o → ∀ s, s ∈ l → Q s
theorem AllIn.set {Q : DS → Prop} {o : List (List DS)} (h : AllIn Q o) {n : Nat} {x : List DS} (hx : ∀ s, s ∈ x → Q s) : AllIn Q (o.set n x) := fun l hl s hs => by
  rcases List.mem_or_eq_of_mem_set hl with q | rfl
  · exact h l q s hs
  · exact hx s hs
def Cr (c : List DB) : Prop := c.length = 12
def Cr2 (x : List DB × List DB) : Prop := Cr x.1 ∧ Cr x.2
theorem s_cloneB : Fz29.S (cl PL fun l => l) := Fz29.of_cl fun l h k => by
  have h : l.length ≤ 1073741824 := h
  unfold Fz29.pf
  simp only [List.nil_append, List.length_nil]
  rw [okS (by omega)]
  cases l with
  | nil => exact both_same _
  | cons x l => rfl

theorem s_l01Free : Fz52.S (tot fun b => decide (b = (0, 0))) := Fz52.of_tot fun b k => by
  unfold Fz52.pf
  rw [eqB]
def okB (b : DB) : Bool := decide (b = (0, 0)) || validB b
def crateOk (c : List DB) : Bool := c.all okB
def wC (c : List DB) : Prop := c.length = 12 ∧ ∀ b, b ∈ c → wB b
theorem s_l01Ok : Fz53.S (cl wC crateOk) := Fz53.of_cl s_l01Free s_l01Bottle fun c h k => by
  obtain ⟨hl, hw⟩ := h
  unfold Fz53.pf
  rw [iter_first c (fun i => (i : Int)) (fun b => !okB b) (fun _ _ => k false) (k true) (x := 0) rfl (big_lt (by omega)) ?_ ?_, firstOr_const, any_not]
  · unfold crateOk
    cases c.all okB <;> rfl
  · intro i hi rec
    unfold Fz53.B1
    simp only [decT (show (i : Int) < 12 by omega), inB_nat (show i < 12 by omega), cond_true, Int.toNat_natCast, getD_lt hi, tot_eq, cl_eq (hw _ (List.getElem_mem hi)), Option.bind_some, w64n (show i < 9223372036854775807 by omega), okB]
    cases decide (c[i] = (0, 0)) <;> cases validB c[i] <;> rfl
  · intro rec
    unfold Fz53.B1
    rw [decF (by omega)]
    rfl
def countI {β : Type} (p : β → Bool) : List β → Int
  | [] => 0
  | x :: l => cond (p x) 1 0 + countI p l
theorem countI_le {β : Type} (p : β → Bool) : ∀ (l : List β), 0 ≤ countI p l ∧ countI p l ≤ l.length
  | [] => ⟨by simp [countI], by simp [countI]⟩
  | x :: l => by
    have := countI_le p l
    unfold countI
    cases p x <;> simp <;> omega
theorem s_ValidCrate_1 : Fz17.S (cl wB fun s => !okB s) := Fz17.of_cl s_ValidBottle fun x h k => by
  unfold Fz17.pf okB
  rw [eqB]
  by_cases c : x = (0, 0)
  · rw [decT c]; rfl
  · rw [decF c, cl_eq h]; rfl
theorem s_index_vc : Fz34.S (cl wBs fun l => indexI (fun s => !okB s) l) := Fz34.of_cl s_ValidCrate_1 fun x h k => by
  have hl : x.length ≤ 1073741824 := h.1
  unfold Fz34.pf
  rw [iter_first x (fun i => (i : Int)) (fun s => !okB s) (fun i _ => k (i : Int)) (k (-1)) (x := 0) rfl (big_lt (by omega)) ?_ ?_, firstOr_index]
  · unfold indexI
    congr 1
    cases x.findIdx? (fun s => !okB s) <;> simp
  · intro i hi rec
    unfold Fz34.B1
    simp only [decT (show (i : Int) < (x.length : Int) by omega), inB_nat hi, cond_true, Int.toNat_natCast, getD_lt hi, cl_eq (h.2 _ (List.getElem_mem hi)), Option.bind_some, w64n (show i < 9223372036854775807 by omega)]
  · intro rec
    unfold Fz34.B1
    rw [decF (by omega)]
    rfl
theorem s_contains_vc : Fz30.S (cl wBs fun l => l.any (fun s => !okB s)) := Fz30.of_cl s_index_vc fun x h k => by
  unfold Fz30.pf
  rw [cl_eq h, Option.bind_some, indexI_nn]
theorem wC.bs {c : List DB} (h : wC c) : wBs c := ⟨by have := h.1; omega, h.2⟩
theorem s_ValidCrate : Fz16.S (cl wC crateOk) := Fz16.of_cl s_contains_vc fun x h k => by
  unfold Fz16.pf crateOk
  rw [cl_eq h.bs, Option.bind_some, any_not, Bool.not_not]
theorem s_bottles_1 : Fz6.S (tot fun b => decide (b = (0, 0))) := Fz6.of_tot fun x k => by
  unfold Fz6.pf
  rw [eqB]
theorem s_index_cb : Fz33.S (cl PL fun l => indexI (fun b => decide (b = (0, 0))) l) := Fz33.of_cl s_bottles_1 fun x h k => by
  have hl : x.length ≤ 1073741824 := h
  unfold Fz33.pf
  rw [iter_first x (fun i => (i : Int)) (fun b => decide (b = (0, 0))) (fun i _ => k (i : Int)) (k (-1)) (x := 0) rfl (big_lt (by omega)) ?_ ?_, firstOr_index]
  · unfold indexI
    congr 1
    cases x.findIdx? (fun b => decide (b = (0, 0))) <;> simp
  · intro i hi rec
    unfold Fz33.B1
    simp only [decT (show (i : Int) < (x.length : Int) by omega), inB_nat hi, cond_true, Int.toNat_natCast, getD_lt hi, tot_eq, Option.bind_some, w64n (show i < 9223372036854775807 by omega)]
  · intro rec
    unfold Fz33.B1
    rw [decF (by omega)]
    rfl
theorem s_delete_cb : Fz31.S (cl PL fun l => keptOf (0, 0) (fun b => decide (b = (0, 0))) l) := Fz31.of_cl s_index_cb s_bottles_1 fun l h k => by
  have hl : l.length ≤ 1073741824 := h
  show Fz31.pf _ _ BIG l k = k (keptOf (0, 0) (fun b => decide (b = (0, 0))) l)
  unfold Fz31.pf
  rw [cl_eq h, Option.bind_some]
  generalize hp : (fun b : DB => decide (b = (0, 0))) = p
  unfold indexI keptOf
  cases hf : l.findIdx? p with
  | none =>
    have := List.findIdx?_eq_none_iff.1 hf
    rw [if_neg (by simpa using this)]
    rfl
  | some i =>
    obtain ⟨hi, hpi, hbef⟩ := List.findIdx?_eq_some_iff_getElem.1 hf
    rw [if_pos (List.any_eq_true.2 ⟨_, List.getElem_mem hi, hpi⟩)]
    simp only
    rw [beqF (by omega), cond_false, w64n (by omega)]
    have h0 : (l.take i).filter (fun x => !p x) = l.take i := by
      rw [List.filter_eq_self]
      intro x hx
      obtain ⟨j, hj, rfl⟩ := List.mem_iff_getElem.1 hx
      have hj' : j < i := by simp at hj; omega
      have := hbef j hj'
      simpa using this
    have h1 : (l.take (i + 1)).filter (fun x => !p x) = l.take i := by
      rw [List.take_succ_eq_append_getElem hi, List.filter_append, h0]
      simp [hpi]
    have := iter_fold (B := Fz31.B1 (tot p) fun (x1 : Int × Int × List DB) => cond (inW x1.1 (((List.length x1.2.2) : Nat) : Int) (List.length x1.2.2)) (cond (inW 0 x1.1 (List.length (overL x1.2.2 x1.1.toNat (List.replicate ((((List.length x1.2.2) : Nat) : Int) - x1.1).toNat (0, 0))))) (k ((some (0, (x1.1 - 0).toNat)), (overL x1.2.2 x1.1.toNat (List.replicate ((((List.length x1.2.2) : Nat) : Int) - x1.1).toNat (0, 0))))) none) none)
      l (fun j (c : List DB) => ((((l.take j).filter fun x => !p x).length : Int), (j : Int), c)) (fun _ _ => k (some (0, (l.filter fun x => !p x).length), (l.filter fun x => !p x) ++ List.replicate (l.length - (l.filter fun x => !p x).length) (0, 0))) (fun j c => c.length = l.length ∧ c.drop j = l.drop j ∧ c.take ((l.take j).filter fun x => !p x).length = (l.take j).filter fun x => !p x) ?_ ?_ (l.length - (i + 1)) (i + 1) l BIG (by omega) (big_lt (by omega)) ⟨rfl, rfl, by rw [h1]; simp⟩
    · rw [h1, List.length_take, Nat.min_eq_left (by omega)] at this
      exact this
    · rintro j hj c rec ⟨e1, e2, e3⟩ hrec
      have hjc : j < c.length := by omega
      have hcj : c[j] = l[j] := by
        have := congrArg (fun z => z[0]?) e2
        simpa [hjc, hj] using this
      have hm : ((l.take j).filter fun x => !p x).length ≤ j := by
        have := List.length_filter_le (fun x => !p x) (l.take j)
        rw [List.length_take] at this
        omega
      have ht : (l.take (j + 1)).filter (fun x => !p x) = (l.take j).filter (fun x => !p x) ++ if p l[j] = true then [] else [l[j]] := by
        rw [List.take_succ_eq_append_getElem hj, List.filter_append]
        cases hq : p l[j] <;> simp [hq]
      unfold Fz31.B1
      simp only [e1, decT (show (j : Int) < (l.length : Int) by omega), inB_nat hj, cond_true, Int.toNat_natCast, getD_lt hjc, hcj, tot_eq, Option.bind_some, w64n (show j < 9223372036854775807 by omega)]
      cases hq : p l[j] with
      | true =>
        rw [hq, if_pos rfl, List.append_nil] at ht
        have := hrec c ⟨e1, by
          have := congrArg (List.drop 1) e2
          simpa [List.drop_drop, Nat.add_comm] using this, by rw [ht]; exact e3⟩
        rw [ht] at this
        exact this
      | false =>
        rw [hq] at ht
        simp only [Bool.false_eq_true, if_false] at ht
        have hlen : ((l.take (j + 1)).filter fun x => !p x).length = ((l.take j).filter fun x => !p x).length + 1 := by rw [ht]; simp
        have hmc : ((l.take j).filter fun x => !p x).length < c.length := by omega
        have := hrec (c.set ((l.take j).filter fun x => !p x).length l[j]) ⟨by simpa using e1, by
          rw [List.drop_set_of_lt (by omega)]
          have := congrArg (List.drop 1) e2
          simpa [List.drop_drop, Nat.add_comm] using this, by
          rw [hlen, take_set hmc, e3, ht]⟩
        rw [hlen] at this
        simp only [Bool.not_false, cond_true, inB_nat (show ((l.take j).filter fun x => !p x).length < l.length by omega), w64n (show ((l.take j).filter fun x => !p x).length < 9223372036854775807 by omega)]
        exact this
    · rintro c rec ⟨e1, e2, e3⟩
      have eT : l.take l.length = l := List.take_of_length_le (Nat.le_refl _)
      rw [eT] at e3
      simp only [eT]
      have hm := List.length_filter_le (fun x => !p x) l
      unfold Fz31.B1
      rw [decF (by simp only; omega)]
      simp only [cond_false, e1]
      rw [inW_true (by omega) (by omega) (by omega), cond_true]
      have e4 : overL c (((l.filter fun x => !p x).length : Nat) : Int).toNat (List.replicate ((((l.length : Nat) : Int)) - (((l.filter fun x => !p x).length : Nat) : Int)).toNat (0, 0)) = (l.filter fun x => !p x) ++ List.replicate (l.length - (l.filter fun x => !p x).length) (0, 0) := by
        unfold overL
        rw [Int.toNat_natCast, e3, List.drop_eq_nil_of_le (by simp; omega), List.append_nil]
        congr 2
        omega
      rw [e4, inW_true (by omega) (by omega) (by simp; omega), cond_true]
      congr 3
theorem s_crateBottles : Fz5.S (cl Cr fun c => c.filter fun b => !decide (b = (0, 0))) := Fz5.of_cl s_cloneB s_delete_cb fun c h k => by
  have hl : c.length = 12 := h
  have hp : PL c := by unfold PL; omega
  unfold Fz5.pf
  rw [cl_eq hp, Option.bind_some, cl_eq hp, Option.bind_some, kept_cut]
def bLt (x y : DB) : Bool := decide (x.1 < y.1) || (decide (x.1 = y.1) && decide (x.2 < y.2))
def cmpB (x : DB × DB) : Int := if x.1.1 < x.2.1 then -1 else if x.1.1 > x.2.1 then 1 else if x.1.2 < x.2.2 then -1 else if x.1.2 > x.2.2 then 1 else 0
theorem cmpB_lt (x y : DB) : decide (cmpB (x, y) < 0) = bLt x y := by
  obtain ⟨x1, x2⟩ := x
  obtain ⟨y1, y2⟩ := y
  unfold cmpB bLt
  simp only
  by_cases h1 : x1 < y1
  · simp [h1]
  · by_cases h2 : x1 > y1
    · simp [h1, h2]; omega
    · have : x1 = y1 := by omega
      subst this
      by_cases h3 : x2 < y2
      · simp [h3]
      · by_cases h4 : x2 > y2
        · simp [h3, h4]
        · simp [h3, h4]
theorem s_spec_Compare : Fz39.S (tot cmpB) := Fz39.of_tot fun x k => by
  obtain ⟨⟨x1, x2⟩, y1, y2⟩ := x
  unfold Fz39.pf cmpB
  simp only
  by_cases h1 : x1 < y1
  · rw [decT h1, if_pos h1]; rfl
  · rw [decF h1, if_neg h1]
    by_cases h2 : x1 > y1
    · rw [decT h2, if_pos h2]; rfl
    · rw [decF h2, if_neg h2]
      by_cases h3 : x2 < y2
      · rw [decT h3, if_pos h3]; rfl
      · rw [decF h3, if_neg h3]
        by_cases h4 : x2 > y2
        · rw [decT h4, if_pos h4]; rfl
        · rw [decF h4, if_neg h4]; rfl
def cmpI (x : Int × Int) : Int := if x.1 < x.2 then -1 else if x.1 > x.2 then 1 else 0
theorem s_isNaN8 : Fz4.S (tot fun _ => false) := Fz4.of_tot fun x k => by unfold Fz4.pf; rw [bneF rfl]
theorem s_isNaN16 : Fz3.S (tot fun _ => false) := Fz3.of_tot fun x k => by unfold Fz3.pf; rw [bneF rfl]
theorem s_cmp8 : Fz1.S (tot cmpI) := Fz1.of_tot s_isNaN8 fun x k => by
  obtain ⟨x, y⟩ := x
  unfold Fz1.pf cmpI
  simp only [tot_eq, Option.bind_some, cond_false]
  by_cases h1 : x < y
  · rw [decT h1, if_pos h1]; rfl
  · rw [decF h1, if_neg h1]
    by_cases h2 : x > y
    · rw [decT h2, if_pos h2]; rfl
    · rw [decF h2, if_neg h2]; rfl
theorem s_cmp16 : Fz0.S (tot cmpI) := Fz0.of_tot s_isNaN16 fun x k => by
  obtain ⟨x, y⟩ := x
  unfold Fz0.pf cmpI
  simp only [tot_eq, Option.bind_some, cond_false]
  by_cases h1 : x < y
  · rw [decT h1, if_pos h1]; rfl
  · rw [decF h1, if_neg h1]
    by_cases h2 : x > y
    · rw [decT h2, if_pos h2]; rfl
    · rw [decF h2, if_neg h2]; rfl
def orL (l : List Int) : Int := (l.find? fun x => x != 0).getD 0
theorem firstOr_find {α : Type} (k : Int → Option α) : ∀ (l : List Int) (j : Nat), firstOr (fun x => x != 0) (fun _ x => k x) (k 0) j l = k (orL l)
  | [], _ => rfl
  | x :: l, j => by
    rw [firstOr, firstOr_find k l]
    unfold orL
    rw [List.find?_cons]
    cases hx : x != 0 <;> rfl
theorem s_cmpOr : Fz2.S (cl PL orL) := Fz2.of_cl fun l h k => by
  have h : l.length ≤ 1073741824 := h
  unfold Fz2.pf
  rw [iter_first l (fun i => (i : Int)) (fun x => x != 0) (fun _ x => k x) (k 0) (x := 0) rfl (big_lt (by omega)) ?_ ?_, firstOr_find]
  · intro i hi rec
    unfold Fz2.B1
    simp only [decT (show (i : Int) < (l.length : Int) by omega), inB_nat hi, cond_true, Int.toNat_natCast, getD_lt hi, w64n (show i < 9223372036854775807 by omega)]
  · intro rec
    unfold Fz2.B1
    rw [decF (by omega)]
    rfl
theorem s_compare : Fz18.S (tot cmpB) := Fz18.of_tot s_cmp8 s_cmp16 s_cmpOr fun x k => by
  obtain ⟨⟨x1, x2⟩, y1, y2⟩ := x
  unfold Fz18.pf
  simp only [tot_eq, Option.bind_some]
  rw [cl_eq (show PL [cmpI (x1, y1), cmpI (x2, y2)] by unfold PL; simp), Option.bind_some]
  congr 1
  unfold orL cmpI cmpB
  simp only
  by_cases h1 : x1 < y1
  · simp [h1]
  · by_cases h2 : x1 > y1
    · simp [h1, h2]
    · by_cases h3 : x2 < y2
      · simp [h1, h2, h3]
      · by_cases h4 : x2 > y2
        · simp [h1, h2, h3, h4]
        · simp [h1, h2, h3, h4]
def spotB (o : List DB) (x : DB) : Nat → Nat
  | 0 => 0
  | i + 1 => if bLt x (o.getD i (0, 0)) = true then spotB o x i else i + 1
def putB (o : List DB) (x : DB) : List DB := o.take (spotB o x o.length) ++ x :: o.drop (spotB o x o.length)
def sortB (l : List DB) : List DB := l.foldl putB []
theorem spotB_le (o : List DB) (x : DB) : ∀ i, spotB o x i ≤ i
  | 0 => Nat.le_refl 0
  | i + 1 => by
    have := spotB_le o x i
    unfold spotB
    split <;> omega
theorem putB_perm (o : List DB) (x : DB) : (putB o x).Perm (x :: o) := by
  unfold putB
  refine List.perm_middle.trans ?_
  rw [List.take_append_drop]
theorem sortB_perm (l : List DB) : (sortB l).Perm l := by
  have key : ∀ (l o : List DB), (l.foldl putB o).Perm (o ++ l) := by
    intro l
    induction l with
    | nil => intro o; simp
    | cons x l ih =>
      intro o
      rw [List.foldl_cons]
      refine (ih _).trans ?_
      refine ((putB_perm o x).append_right l).trans ?_
      exact List.perm_middle.symm
  have := key l []
  rwa [List.nil_append] at this
theorem sortB_len (l : List DB) : (sortB l).length = l.length := (sortB_perm l).length_eq
theorem sortB_take (l : List DB) {p : Nat} (h : p < l.length) : sortB (l.take (p + 1)) = putB (sortB (l.take p)) l[p] := by
  unfold sortB
  rw [List.take_succ_eq_append_getElem h, List.foldl_append]
  rfl
def amd {β : Type} (o : List β) (x : β) (j : Nat) (q : List β) : List β := o.take j ++ x :: (o.drop j ++ q)
theorem amd_len {β : Type} (o : List β) (x : β) (j : Nat) (q : List β) (h : j ≤ o.length) : (amd o x j q).length = o.length + 1 + q.length := by
  unfold amd
  simp
  omega
theorem amd_at {β : Type} (d : β) (o : List β) (x : β) (j : Nat) (q : List β) (h : j ≤ o.length) : (amd o x j q).getD j d = x := by
  unfold amd
  rw [List.getD_eq_getElem?_getD, List.getElem?_append_right (by simp; omega)]
  simp [Nat.min_eq_left h]
theorem amd_below {β : Type} (d : β) (o : List β) (x : β) (j : Nat) (q : List β) (h : j < o.length) : (amd o x (j + 1) q).getD j d = o[j] := by
  unfold amd
  rw [List.getD_eq_getElem?_getD, List.getElem?_append_left (by simp; omega), List.getElem?_take_of_lt (by omega), List.getElem?_eq_getElem h]
  rfl
theorem amd_swap {β : Type} (o : List β) (x : β) (j : Nat) (q : List β) (h : j < o.length) : ((amd o x (j + 1) q).set (j + 1) o[j]).set j x = amd o x j q := by
  unfold amd
  rw [List.set_append_right _ _ (by simp; omega)]
  have e : j + 1 - (o.take (j + 1)).length = 0 := by simp; omega
  rw [e, List.set_cons_zero, List.take_succ_eq_append_getElem h, List.append_assoc, List.set_append_right _ _ (by simp; omega)]
  have e2 : j - (o.take j).length = 0 := by simp; omega
  rw [e2]
  simp
  rw [drop_cons h, List.cons_append]
theorem insB2 {α : Type} (p1 p2 : Int) (o : List DB) (x : DB) (q : List DB) (ho : o.length ≤ 1073741824) (K : Int × List DB → Option α) (K' : Int × List DB → Int → Option α) (hK : ∀ a b, K' a b = K a) :
    iter (Fz37.B2 (tot cmpB) 0 p1 p2 K' K) BIG ((o.length : Int), amd o x o.length q) = K (((spotB o x o.length : Nat) : Int), amd o x (spotB o x o.length) q) := by
  have key : ∀ (j fuel : Nat), j < fuel → j ≤ o.length → iter (Fz37.B2 (tot cmpB) 0 p1 p2 K' K) fuel ((j : Int), amd o x j q) = K (((spotB o x j : Nat) : Int), amd o x (spotB o x j) q) := by
    intro j
    induction j with
    | zero =>
      intro fuel hf _
      match fuel, hf with
      | f + 1, _ =>
        show Fz37.B2 _ 0 p1 p2 K' K _ (((0 : Nat) : Int), _) = _
        unfold Fz37.B2
        rw [decF (by simp)]
        rfl
    | succ j ih =>
      intro fuel hf hj
      match fuel, hf with
      | f + 1, hf =>
        show Fz37.B2 _ 0 p1 p2 K' K (iter (Fz37.B2 (tot cmpB) 0 p1 p2 K' K) f) (((j + 1 : Nat) : Int), amd o x (j + 1) q) = _
        generalize hR : iter (Fz37.B2 (tot cmpB) 0 p1 p2 K' K) f = R
        unfold Fz37.B2
        have e : IntKind.i64.wrap (((j + 1 : Nat) : Int) - 1) = (j : Int) := by rw [w64 (by omega) (by omega)]; omega
        have hjo : j < o.length := by omega
        have hl := amd_len o x (j + 1) q hj
        have h1 : j + 1 < (amd o x (j + 1) q).length := by omega
        have h2 : j < (amd o x (j + 1) q).length := by omega
        have h3 : j < ((amd o x (j + 1) q).set (j + 1) o[j]).length := by rw [List.length_set]; exact h2
        simp only [e, decT (show ((j + 1 : Nat) : Int) > 0 by omega), inB_nat h1, inB_nat h2, Int.toNat_natCast, cond_true, amd_at _ o x (j + 1) q hj, amd_below _ o x j q hjo, tot_eq, Option.bind_some, inB_nat h3, amd_swap o x j q hjo, cmpB_lt]
        unfold spotB
        rw [getD_lt hjo]
        cases c : bLt x o[j] with
        | true => rw [if_pos rfl, cond_true, ← hR]; exact ih f (by omega) (by omega)
        | false => rw [if_neg (by simp), cond_false, hK]
  exact key _ _ (big_lt (by omega)) (Nat.le_refl _)
def PInB (x : List DB × Int × Int) : Prop := PL x.1 ∧ x.2.1 = 0 ∧ x.2.2 = x.1.length
theorem s_insB : Fz37.S (cl PInB fun x => sortB x.1) := Fz37.of_cl s_compare fun x h k => by
  obtain ⟨l, a, b⟩ := x
  obtain ⟨hl, h1, h2⟩ := h
  obtain rfl : a = 0 := h1
  obtain rfl : b = (l.length : Int) := h2
  have hl : l.length ≤ 1073741824 := hl
  show Fz37.pf _ BIG l 0 (l.length : Int) k = k (sortB l)
  unfold Fz37.pf
  rw [w64 (by omega) (by omega)]
  match hq : l with
  | [] =>
    refine iter_to (fun _ => (1, [])) 0 (by rfl) (big_lt (by omega)) (fun k hk => absurd hk (Nat.not_lt_zero _)) fun rec => ?_
    unfold Fz37.B1
    rfl
  | y :: l' =>
    rw [← hq] at hl ⊢
    have hpos : 1 ≤ l.length := by rw [hq]; simp
    have h1 : sortB (l.take 1) ++ l.drop 1 = l := by rw [hq]; rfl
    have := iter_fold (B := Fz37.B1 (tot cmpB) BIG 0 (l.length : Int) fun (x1 : Int × List DB) => k x1.2) l (fun p (c : List DB) => ((p : Int), c)) (fun _ _ => k (sortB l)) (fun p c => 1 ≤ p ∧ c = sortB (l.take p) ++ l.drop p) ?_ ?_ (l.length - 1) 1 l BIG (by omega) (big_lt (by omega)) ⟨by omega, h1.symm⟩
    · exact this
    · rintro p hp c rec ⟨hp1, rfl⟩ hrec
      unfold Fz37.B1
      have ho : (sortB (l.take p)).length = p := by rw [sortB_len, List.length_take]; omega
      have e0 : sortB (l.take p) ++ l.drop p = amd (sortB (l.take p)) l[p] p (l.drop (p + 1)) := by
        unfold amd
        have t1 : (sortB (l.take p)).take p = sortB (l.take p) := List.take_of_length_le (by omega)
        have t2 : (sortB (l.take p)).drop p = [] := List.drop_eq_nil_of_le (by omega)
        rw [t1, t2, List.nil_append, drop_cons hp]
      simp only [decT (show (p : Int) < (l.length : Int) by omega), cond_true]
      rw [e0]
      have e1 := insB2 (l.length : Int) (p : Int) (sortB (l.take p)) l[p] (l.drop (p + 1)) (by omega) (fun (x2 : Int × List DB) => rec (IntKind.i64.wrap ((p : Int) + 1), x2.2)) (fun (x2 : Int × List DB) (_ : Int) => rec (IntKind.i64.wrap ((p : Int) + 1), x2.2)) (fun _ _ => rfl)
      rw [ho] at e1
      rw [e1, w64n (by omega)]
      refine hrec _ ⟨by omega, ?_⟩
      rw [sortB_take l hp]
      unfold amd putB
      rw [ho, List.append_assoc, List.cons_append]
    · rintro c rec ⟨_, rfl⟩
      unfold Fz37.B1
      rw [decF (by omega)]
      simp
def PPdB (x : List DB × Int × Int × Int) : Prop := x.1.length ≤ 12 ∧ x.2.1 = 0 ∧ x.2.2.1 = x.1.length
theorem s_pdqB : Fz38.S (cl PPdB fun x => sortB x.1) := Fz38.of_cl s_insB fun x h k => by
  obtain ⟨l, a, b, c⟩ := x
  obtain ⟨hl, h1, h2⟩ := h
  obtain rfl : a = 0 := h1
  obtain rfl : b = (l.length : Int) := h2
  have hl : l.length ≤ 12 := hl
  show Fz38.pf _ BIG l 0 (l.length : Int) c k = k (sortB l)
  unfold Fz38.pf
  refine iter_to (fun _ => ()) 0 rfl (big_lt (by omega)) (fun k hk => absurd hk (Nat.not_lt_zero _)) fun rec => ?_
  unfold Fz38.B1
  rw [w64 (by omega) (by omega), decT (by omega), cond_true, cl_eq (show PInB (l, 0, (l.length : Int)) from ⟨(show l.length ≤ 1073741824 by omega), rfl, rfl⟩), Option.bind_some]
def P255 (x : Int) : Prop := 0 ≤ x ∧ x ≤ 255
theorem s_Len64_pf {α : Type} (x : Int) (h0 : 0 ≤ x) (h1 : x ≤ 255) (k : Int → Option α) : Fz28.pf BIG x k = k ((Fz28.pf BIG x some).getD 0) := by
  unfold Fz28.pf
  rw [decF (show ¬ x ≥ 4294967296 by omega), decF (show ¬ x ≥ 65536 by omega), decF (show ¬ x ≥ 256 by omega)]
  simp only [cond_false]
  have e : IntKind.u8.wrap x = x := by rw [IntKind.wrap_u8]; omega
  rw [e, inB_true (i := x) h0]
  · rfl
  · exact Int.lt_of_lt_of_le (show x < ((256 : Nat) : Int) by omega) (Int.le_of_eq rfl)
theorem s_Len64 : Fz28.S (cl P255 fun x => (Fz28.pf BIG x some).getD 0) := Fz28.of_cl fun x h k => s_Len64_pf x h.1 h.2 k
theorem s_bitsLen : Fz27.S (cl P255 fun x => (Fz28.pf BIG x some).getD 0) := Fz27.of_cl s_Len64 fun x h k => by
  unfold Fz27.pf
  rw [cl_eq h, Option.bind_some]
def PFew12 {β : Type} (l : List β) : Prop := l.length ≤ 12
theorem s_SortFuncB : Fz36.S (cl PFew12 sortB) := Fz36.of_cl s_bitsLen s_pdqB fun l h k => by
  have h : l.length ≤ 12 := h
  unfold Fz36.pf
  have e : IntKind.u64.wrap ((l.length : Nat) : Int) = (l.length : Int) := by rw [IntKind.wrap_u64]; omega
  rw [e, cl_eq (show P255 (l.length : Int) from ⟨by omega, by omega⟩), Option.bind_some, cl_eq (show PPdB (l, 0, (l.length : Int), _) from ⟨h, rfl, rfl⟩), Option.bind_some]
abbrev allB (c : List DB) : List DB := c.filter fun b => !decide (b = (0, 0))
theorem allB_len (c : List DB) : (allB c).length ≤ c.length := List.length_filter_le _ _
theorem s_crateSorted : Fz9.S (cl Cr fun c => sortB (allB c)) := Fz9.of_cl s_crateBottles s_SortFuncB fun c h k => by
  have hl : c.length = 12 := h
  have := allB_len c
  unfold Fz9.pf
  rw [cl_eq h, Option.bind_some, cl_eq (show PFew12 (allB c) by unfold PFew12; omega), Option.bind_some]
theorem s_equalB : Fz32.S (cl PL1 fun x => decide (x.1 = x.2)) := Fz32.of_cl fun x h k => by
  obtain ⟨a, b⟩ := x
  have h : a.length ≤ 1073741824 := h
  show Fz32.pf BIG a b k = k (decide (a = b))
  unfold Fz32.pf
  by_cases c : a.length = b.length
  · rw [bneF (by omega), cond_false]
    have hz := zip_len c
    rw [iter_first (a.zip b) (fun i => (i : Int)) (fun p => !decide (p.1 = p.2)) (fun _ _ => k false) (k true) (x := 0) rfl (big_lt (by omega)) ?_ ?_, firstOr_const, any_eq a b c]
    · by_cases e : a = b <;> simp [e]
    · intro i hi rec
      have h1 : i < a.length := by omega
      have h2 : i < b.length := by omega
      unfold Fz32.B1
      rw [zip_at hi]
      simp only [decT (show (i : Int) < (a.length : Int) by omega), inB_nat h1, inB_nat h2, cond_true, Int.toNat_natCast, getD_lt h1, getD_lt h2, eqB, w64n (show i < 9223372036854775807 by omega)]
    · intro rec
      unfold Fz32.B1
      rw [decF (by omega)]
      rfl
  · rw [bneT (by omega), cond_true, decF (fun e => c (by rw [e]))]
theorem s_l01All : Fz48.S (cl Cr allB) := Fz48.of_cl s_l01Free fun c h k => by
  have hl : c.length = 12 := h
  unfold Fz48.pf
  refine iter_list c (fun i (o : List DB) => ((i : Int), o)) (fun q o => k (o ++ allB q)) (fun i o => o.length ≤ i) (c := []) rfl (big_lt (by omega)) (Nat.le_refl 0) ?_ ?_
  · rintro i hi o rec ho hrec
    unfold Fz48.B1
    simp only [decT (show (i : Int) < 12 by omega), inB_nat (show i < 12 by omega), cond_true, Int.toNat_natCast, getD_lt hi, tot_eq, Option.bind_some, w64n (show i < 9223372036854775807 by omega), allB, List.filter_cons]
    by_cases q : c[i] = (0, 0)
    · rw [decT q]
      exact hrec _ (by omega)
    · rw [decF q, okS (by simp; omega)]
      simp only [Bool.not_false, cond_true, if_true]
      exact (hrec _ (by simp; omega)).trans (by simp [allB])
  · rintro o rec _
    unfold Fz48.B1
    rw [decF (by simp only; omega)]
    simp [allB]
theorem srtB2 {α : Type} (p1 : Int) (l0 : List DB) (o : List DB) (x : DB) (q : List DB) (ho : o.length ≤ 1073741824) (K : List DB → Option α) (K1 : Int × List DB → Option α) (K0 : Int × List DB → Int → Option α)
    (h1 : ∀ (j : Nat) (c : List DB), j < c.length → K1 ((j : Int), c) = K (c.set j x)) (h0 : ∀ (j : Nat) (c : List DB) r, j < c.length → K0 ((j : Int), c) r = K (c.set j x)) :
    iter (Fz55.B2 (tot cmpB) p1 l0 x K0 K1) BIG ((o.length : Int), amd o x o.length q) = K (amd o x (spotB o x o.length) q) := by
  have key : ∀ (j fuel : Nat) (c : List DB), j < fuel → j ≤ o.length → c.length = o.length + 1 + q.length → c.set j x = amd o x j q → iter (Fz55.B2 (tot cmpB) p1 l0 x K0 K1) fuel ((j : Int), c) = K (amd o x (spotB o x j) q) := by
    intro j
    induction j with
    | zero =>
      intro fuel c hf _ hc he
      match fuel, hf with
      | f + 1, _ =>
        show Fz55.B2 _ p1 l0 x K0 K1 _ (((0 : Nat) : Int), _) = _
        unfold Fz55.B2
        rw [decF (by simp)]
        simp only [cond_false]
        rw [h1 0 c (by omega), he]
        rfl
    | succ j ih =>
      intro fuel c hf hj hc he
      match fuel, hf with
      | f + 1, hf =>
        show Fz55.B2 _ p1 l0 x K0 K1 (iter (Fz55.B2 (tot cmpB) p1 l0 x K0 K1) f) (((j + 1 : Nat) : Int), c) = _
        generalize hR : iter (Fz55.B2 (tot cmpB) p1 l0 x K0 K1) f = R
        unfold Fz55.B2
        have e : IntKind.i64.wrap (((j + 1 : Nat) : Int) - 1) = (j : Int) := by rw [w64 (by omega) (by omega)]; omega
        have hjo : j < o.length := by omega
        have hjc : j < c.length := by omega
        have hcj : c.getD j (0, 0) = o[j] := by
          have := amd_below (0, 0) o x j q hjo
          rw [← he, List.getD_eq_getElem?_getD, List.getElem?_set_ne (by omega), ← List.getD_eq_getElem?_getD] at this
          exact this
        simp only [e, decT (show ((j + 1 : Nat) : Int) > 0 by omega), inB_nat hjc, inB_nat (show j + 1 < c.length by omega), Int.toNat_natCast, cond_true, hcj, tot_eq, Option.bind_some, cmpB_lt]
        unfold spotB
        rw [getD_lt hjo]
        cases hb : bLt x o[j] with
        | true =>
          rw [if_pos rfl, cond_true, ← hR]
          refine ih f _ (by omega) (by omega) (by simpa using hc) ?_
          rw [← amd_swap o x j q hjo, ← he, List.set_set]
        | false => rw [if_neg (by simp), cond_false, h0 (j + 1) c _ (by omega), he]
  refine key _ _ _ (big_lt (by omega)) (Nat.le_refl _) (amd_len o x _ q (Nat.le_refl _)) ?_
  have hl := amd_len o x o.length q (Nat.le_refl _)
  refine List.ext_getElem (by simp) fun i h1 h2 => ?_
  rw [List.getElem_set]
  split
  · rename_i e
    subst e
    have := amd_at (0, 0) o x o.length q (Nat.le_refl _)
    rw [getD_lt h2] at this
    exact this.symm
  · rfl
theorem s_l01Sorted : Fz55.S (cl PL sortB) := Fz55.of_cl s_spec_Compare fun l h k => by
  have hl : l.length ≤ 1073741824 := h
  unfold Fz55.pf
  simp only [List.nil_append, List.length_nil]
  rw [okS (by omega), cond_true]
  match hq : l with
  | [] =>
    refine iter_to (fun _ => (1, [])) 0 (by rfl) (big_lt (by omega)) (fun k hk => absurd hk (Nat.not_lt_zero _)) fun rec => ?_
    unfold Fz55.B1
    rfl
  | y :: l' =>
    rw [← hq] at hl ⊢
    have hpos : 1 ≤ l.length := by rw [hq]; simp
    have h1 : sortB (l.take 1) ++ l.drop 1 = l := by rw [hq]; rfl
    have := iter_fold (B := Fz55.B1 (tot cmpB) BIG l fun (x1 : Int × List DB) => k x1.2) l (fun p (c : List DB) => ((p : Int), c)) (fun _ _ => k (sortB l)) (fun p c => 1 ≤ p ∧ c = sortB (l.take p) ++ l.drop p) ?_ ?_ (l.length - 1) 1 l BIG (by omega) (big_lt (by omega)) ⟨by omega, h1.symm⟩
    · exact this
    · rintro p hp c rec ⟨hp1, rfl⟩ hrec
      unfold Fz55.B1
      have ho : (sortB (l.take p)).length = p := by rw [sortB_len, List.length_take]; omega
      have e0 : sortB (l.take p) ++ l.drop p = amd (sortB (l.take p)) l[p] p (l.drop (p + 1)) := by
        unfold amd
        have t1 : (sortB (l.take p)).take p = sortB (l.take p) := List.take_of_length_le (by omega)
        have t2 : (sortB (l.take p)).drop p = [] := List.drop_eq_nil_of_le (by omega)
        rw [t1, t2, List.nil_append, drop_cons hp]
      have hlen : (sortB (l.take p) ++ l.drop p).length = l.length := by rw [List.length_append, ho, List.length_drop]; omega
      simp only [hlen, decT (show (p : Int) < (l.length : Int) by omega), inB_nat (show p < l.length by omega), cond_true, Int.toNat_natCast]
      have hx : (sortB (l.take p) ++ l.drop p).getD p (0, 0) = l[p] := by
        rw [e0]
        exact amd_at _ _ _ _ _ (by omega)
      rw [hx, e0]
      have e1 := srtB2 (p : Int) l (sortB (l.take p)) l[p] (l.drop (p + 1)) (by omega) (fun c => rec (IntKind.i64.wrap ((p : Int) + 1), c))
        (fun (x2 : Int × List DB) => cond (inB x2.1 (List.length x2.2)) (rec (((IntKind.i64.wrap ((p : Int) + 1)), (List.set x2.2 x2.1.toNat l[p])))) none)
        (fun (x2 : Int × List DB) (_ : Int) => cond (inB x2.1 (List.length x2.2)) (rec (((IntKind.i64.wrap ((p : Int) + 1)), (List.set x2.2 x2.1.toNat l[p])))) none)
        (fun j c hj => by simp only [inB_nat hj, cond_true, Int.toNat_natCast]) (fun j c r hj => by simp only [inB_nat hj, cond_true, Int.toNat_natCast])
      rw [ho] at e1
      refine e1.trans ?_
      simp only [w64n (show p < 9223372036854775807 by omega)]
      refine hrec _ ⟨by omega, ?_⟩
      rw [sortB_take l hp]
      unfold amd putB
      rw [ho, List.append_assoc, List.cons_append]
    · rintro c rec ⟨_, rfl⟩
      unfold Fz55.B1
      have hlen : (sortB (l.take l.length) ++ l.drop l.length).length = l.length := by rw [List.take_length, List.drop_length, List.append_nil, sortB_len]
      rw [decF (by simp only [hlen]; omega)]
      simp
theorem s_l03Same : Fz60.S (cl Cr2 fun x => decide (sortB (allB x.1) = sortB (allB x.2))) := Fz60.of_cl s_l01All s_l01Sorted fun x h k => by
  obtain ⟨a, b⟩ := x
  obtain ⟨ha, hb⟩ := h
  have ha' : a.length = 12 := ha
  have hb' : b.length = 12 := hb
  have h1 := allB_len a
  have h2 := allB_len b
  show Fz60.pf _ _ BIG a b k = k (decide (sortB (allB a) = sortB (allB b)))
  unfold Fz60.pf
  rw [cl_eq ha, Option.bind_some, cl_eq (show PL (allB a) by unfold PL; omega), Option.bind_some, cl_eq hb, Option.bind_some, cl_eq (show PL (allB b) by unfold PL; omega), Option.bind_some]
  have h3 := sortB_len (allB a)
  have h4 := sortB_len (allB b)
  generalize sortB (allB a) = x at h3 ⊢
  generalize sortB (allB b) = y at h4 ⊢
  by_cases c : x.length = y.length
  · rw [bneF (by omega), cond_false]
    have hz := zip_len c
    rw [iter_first (x.zip y) (fun i => (i : Int)) (fun p => !decide (p.1 = p.2)) (fun _ _ => k false) (k true) (x := 0) rfl (big_lt (by omega)) ?_ ?_, firstOr_const, any_eq x y c]
    · by_cases e : x = y <;> simp [e]
    · intro i hi rec
      have h1 : i < x.length := by omega
      have h2 : i < y.length := by omega
      unfold Fz60.B1
      rw [zip_at hi]
      simp only [decT (show (i : Int) < (x.length : Int) by omega), inB_nat h1, inB_nat h2, cond_true, Int.toNat_natCast, getD_lt h1, getD_lt h2, eqB, w64n (show i < 9223372036854775807 by omega)]
    · intro rec
      unfold Fz60.B1
      rw [decF (by omega)]
      rfl
  · rw [bneT (by omega), cond_true, decF (fun e => c (by rw [e]))]
def wC2 (x : List DB × List DB) : Prop := wC x.1 ∧ wC x.2
theorem wC2.cr {x : List DB × List DB} (h : wC2 x) : Cr2 x := ⟨h.1.1, h.2.1⟩
def sameBottles (a b : List DB) : Bool × Int := if (crateOk a && crateOk b) = true then (decide (sortB (allB a) = sortB (allB b)), 0) else (false, 1)
theorem s_impl_SameBottles : Fz14.S (cl wC2 fun x => sameBottles x.1 x.2) := Fz14.of_cl s_ValidCrate s_crateSorted s_equalB fun x h k => by
  obtain ⟨a, b⟩ := x
  have ha : a.length = 12 := h.1.1
  show Fz14.pf _ _ _ BIG a b k = k (sameBottles a b)
  unfold Fz14.pf sameBottles
  rw [cl_eq h.1, Option.bind_some]
  cases crateOk a with
  | false => rfl
  | true =>
    simp only [Bool.not_true, cond_false, Bool.true_and]
    rw [cl_eq h.2, Option.bind_some]
    cases crateOk b with
    | false => rfl
    | true =>
      simp only [Bool.not_true, cond_false]
      have h1 := sortB_len (allB a)
      have h2 := allB_len a
      rw [cl_eq (show Cr a from h.1.1), Option.bind_some, cl_eq (show Cr b from h.2.1), Option.bind_some, cl_eq (show PL1 (sortB (allB a), sortB (allB b)) by unfold PL1; simp only; omega), Option.bind_some]
      rfl

theorem bLt_iff (x y : DB) : bLt x y = true ↔ x.1 < y.1 ∨ (x.1 = y.1 ∧ x.2 < y.2) := by
  unfold bLt
  simp
def leB (x y : DB) : Prop := bLt y x = false
theorem leB_iff (x y : DB) : leB x y ↔ ¬ (y.1 < x.1 ∨ (y.1 = x.1 ∧ y.2 < x.2)) := by
  unfold leB
  rw [← bLt_iff]
  simp
theorem leB_trans {x y z : DB} (h1 : leB x y) (h2 : leB y z) : leB x z := by
  rw [leB_iff] at *
  omega
theorem leB_refl (x : DB) : leB x x := by
  rw [leB_iff]
  omega
theorem leB_anti {x y : DB} (h1 : leB x y) (h2 : leB y x) : x = y := by
  rw [leB_iff] at *
  refine Prod.ext ?_ ?_ <;> omega
theorem leB_of_lt {x y : DB} (h : bLt x y = true) : leB x y := by
  rw [leB_iff]
  rw [bLt_iff] at h
  omega
theorem spotB_spec (o : List DB) (x : DB) : ∀ j, j ≤ o.length → (∀ i, spotB o x j ≤ i → i < j → bLt x (o.getD i (0, 0)) = true) ∧ (∀ i, i + 1 = spotB o x j → bLt x (o.getD i (0, 0)) = false)
  | 0, _ => ⟨fun i _ h => absurd h (Nat.not_lt_zero i), fun i h => by simp [spotB] at h⟩
  | j + 1, h => by
    obtain ⟨h1, h2⟩ := spotB_spec o x j (by omega)
    unfold spotB
    split
    · rename_i c
      refine ⟨fun i hi hj => ?_, h2⟩
      rcases Nat.lt_or_ge i j with q | q
      · exact h1 i hi q
      · obtain rfl : i = j := by omega
        exact c
    · rename_i c
      refine ⟨fun i hi hj => by omega, fun i hi => ?_⟩
      obtain rfl : i = j := by omega
      simpa using c
def SortedB (l : List DB) : Prop := l.Pairwise leB
theorem SortedB.get {l : List DB} (h : SortedB l) {i j : Nat} (hij : i ≤ j) (hj : j < l.length) : leB (l.getD i (0, 0)) (l.getD j (0, 0)) := by
  rcases Nat.lt_or_eq_of_le hij with q | rfl
  · rw [getD_lt (by omega : i < l.length), getD_lt hj]
    exact List.pairwise_iff_getElem.1 h i j (by omega) hj q
  · exact leB_refl _
theorem putB_sorted {o : List DB} {x : DB} (h : SortedB o) : SortedB (putB o x) := by
  obtain ⟨h1, h2⟩ := spotB_spec o x o.length (Nat.le_refl _)
  have hk := spotB_le o x o.length
  unfold putB
  generalize spotB o x o.length = k at *
  have ht : ∀ a, a ∈ o.take k → leB a x := by
    intro a ha
    obtain ⟨i, hi, rfl⟩ := List.mem_iff_getElem.1 ha
    rw [List.length_take] at hi
    rw [List.getElem_take]
    have h3 := h2 (k - 1) (by omega)
    have h4 := h.get (i := i) (j := k - 1) (by omega) (by omega)
    rw [getD_lt (by omega : i < o.length)] at h4
    exact leB_trans h4 h3
  have hd : ∀ b, b ∈ o.drop k → leB x b := by
    intro b hb
    obtain ⟨i, hi, rfl⟩ := List.mem_iff_getElem.1 hb
    rw [List.length_drop] at hi
    rw [List.getElem_drop]
    have h3 := h1 (k + i) (by omega) (by omega)
    rw [getD_lt (by omega : k + i < o.length)] at h3
    exact leB_of_lt h3
  unfold SortedB at *
  rw [List.pairwise_append, List.pairwise_cons]
  rw [← List.take_append_drop k o, List.pairwise_append] at h
  refine ⟨h.1, ⟨hd, h.2.1⟩, fun a ha b hb => ?_⟩
  rcases List.mem_cons.1 hb with rfl | hb
  · exact ht a ha
  · exact h.2.2 a ha b hb
theorem sortB_sorted (l : List DB) : SortedB (sortB l) := by
  have key : ∀ (l o : List DB), SortedB o → SortedB (l.foldl putB o) := by
    intro l
    induction l with
    | nil => intro o h; exact h
    | cons x l ih => intro o h; exact ih _ (putB_sorted h)
  exact key l [] List.Pairwise.nil
theorem countI_perm {β : Type} (p : β → Bool) {a b : List β} (h : a.Perm b) : countI p a = countI p b := by
  induction h with
  | nil => rfl
  | cons x _ ih => rw [countI, countI, ih]
  | swap x y l => rw [countI, countI, countI, countI]; omega
  | trans _ _ h1 h2 => rw [h1, h2]

abbrev zB : DB := (0, 0)
theorem eqC {a b : List DB} (ha : Cr a) (hb : Cr b) : eqV (.arr 12 (.st (.pair (.int .u8) (.int .i16)))) a b = decide (a = b) := by
  have ha : a.length = 12 := ha
  have hb : b.length = 12 := hb
  show ((List.range 12).all fun i => eqV (.st (.pair (.int .u8) (.int .i16))) (List.getD a i zB) (List.getD b i zB)) = decide (a = b)
  rw [Bool.eq_iff_iff, List.all_eq_true, decide_eq_true_iff]
  constructor
  · intro h
    refine List.ext_getElem (by omega) fun i h1 h2 => ?_
    have := h i (List.mem_range.2 (by omega))
    rw [eqB, getD_lt h1, getD_lt h2] at this
    exact of_decide_eq_true this
  · rintro rfl i _
    rw [eqB, decT rfl]
theorem countI_zip1 {β γ : Type} (p : β → Bool) : ∀ (a : List β) (b : List γ), a.length = b.length → countI (fun q : β × γ => p q.1) (a.zip b) = countI p a
  | [], [], _ => rfl
  | x :: a, y :: b, h => by simp only [List.zip_cons_cons, countI]; rw [countI_zip1 p a b (by simpa using h)]
theorem countI_zip2 {β γ : Type} (p : γ → Bool) : ∀ (a : List β) (b : List γ), a.length = b.length → countI (fun q : β × γ => p q.2) (a.zip b) = countI p b
  | [], [], _ => rfl
  | x :: a, y :: b, h => by simp only [List.zip_cons_cons, countI]; rw [countI_zip2 p a b (by simpa using h)]
theorem countI_mono {β : Type} (p r : β → Bool) : ∀ (l : List β), (∀ q, q ∈ l → p q = true → r q = true) → countI p l ≤ countI r l ∧ ((∃ q, q ∈ l ∧ r q = true ∧ p q = false) → countI p l < countI r l)
  | [], _ => ⟨Int.le_refl _, fun ⟨q, hq, _⟩ => by cases hq⟩
  | x :: l, h => by
    obtain ⟨h1, h2⟩ := countI_mono p r l (fun q hq => h q (List.mem_cons_of_mem _ hq))
    have hx := h x (List.mem_cons_self ..)
    unfold countI
    refine ⟨?_, fun ⟨q, hq, e1, e2⟩ => ?_⟩
    · cases hp : p x with
      | true => rw [hx hp]; simp only [cond_true]; omega
      | false => cases r x <;> simp only [cond_true, cond_false] <;> omega
    · rcases List.mem_cons.1 hq with rfl | hq
      · rw [e1, e2]; simp only [cond_true, cond_false]; omega
      · have := h2 ⟨q, hq, e1, e2⟩
        cases hp : p x with
        | true => rw [hx hp]; simp only [cond_true]; omega
        | false => cases r x <;> simp only [cond_true, cond_false] <;> omega
theorem pigeon {a b : List DB} (hl : a.length = b.length) (hp : a.Perm b) {w : DB} {i : DB × DB} (hi : i ∈ a.zip b) (h2 : i.2 = w) (h1 : i.1 ≠ w) : ∃ q, q ∈ a.zip b ∧ q.1 = w ∧ q.2 ≠ w := by
  refine Classical.byContradiction fun hno => ?_
  have hall : ∀ q, q ∈ a.zip b → q.1 = w → q.2 = w := fun q hq e => Classical.byContradiction fun ne => hno ⟨q, hq, e, ne⟩
  have := (countI_mono (fun q : DB × DB => decide (q.1 = w)) (fun q => decide (q.2 = w)) (a.zip b) (fun q hq e => decT (hall q hq (of_decide_eq_true e)))).2 ⟨i, hi, decT h2, decF h1⟩
  rw [countI_zip1 (fun x => decide (x = w)) a b hl, countI_zip2 (fun x => decide (x = w)) a b hl, countI_perm _ hp] at this
  omega
theorem countI_set {β : Type} (p : β → Bool) : ∀ (l : List β) (k : Nat) (h : k < l.length) (y : β), countI p (l.set k y) = countI p l - cond (p l[k]) 1 0 + cond (p y) 1 0
  | x :: l, 0, h, y => by
    simp only [List.set_cons_zero, countI, List.getElem_cons_zero]
    omega
  | x :: l, k + 1, h, y => by
    simp only [List.set_cons_succ, countI, List.getElem_cons_succ]
    rw [countI_set p l k (by simpa using h) y]
    omega
theorem zip_set {β γ : Type} (d : γ) : ∀ (a : List β) (b : List γ) (k : Nat) (x : β), k < b.length → (a.set k x).zip b = (a.zip b).set k (x, b.getD k d)
  | [], b, k, x, _ => by simp
  | y :: a, z :: b, 0, x, _ => rfl
  | y :: a, z :: b, k + 1, x, h => by
    rw [List.set_cons_succ, List.zip_cons_cons, List.zip_cons_cons, List.set_cons_succ, zip_set d a b k x (by simpa using h)]
    rfl
def pT1 (q : DB × DB) : Bool := decide (q.1 = zB) && !decide (q.2 = zB)
def pW (any : Bool) (w : DB) (q : DB × DB) : Bool := !decide (q.1 = zB) && (!decide (q.1 = q.2) && (any || decide (q.1 = w)))
def pR (q : DB × DB) : Bool := decide (q.1 = q.2) && !decide (q.1 = zB)
def hand (a b : List DB) : Option (Nat × Nat) := match (a.zip b).findIdx? pT1 with
  | some i => ((a.zip b).findIdx? (pW false (b.getD i zB))).map fun f => (f, i)
  | none => match (a.zip b).findIdx? (pW true zB), a.findIdx? (fun x => decide (x = zB)) with
    | some f, some t => some (f, t)
    | _, _ => none
def moveS (a : List DB) (f t : Nat) : List DB := (a.set f zB).set t (a.getD f zB)
def rightN (a b : List DB) : Int := countI pR (a.zip b)
def mu (a b : List DB) : Int := 24 - 2 * rightN a b + (if ((a.zip b).findIdx? pT1).isSome = true then 0 else 1)
def PMv (a b : List DB) : Prop := Cr a ∧ Cr b ∧ a.Perm b ∧ (a = b ∨ zB ∈ a)
theorem findIdx_some {β : Type} {p : β → Bool} {l : List β} {q : β} (hq : q ∈ l) (hp : p q = true) : ∃ i, l.findIdx? p = some i := by
  cases h : l.findIdx? p with
  | some i => exact ⟨i, rfl⟩
  | none =>
    rw [List.findIdx?_eq_none_iff] at h
    rw [h q hq] at hp
    cases hp
theorem hand_ok {a b : List DB} (h : PMv a b) (hne : a ≠ b) : ∃ f t, hand a b = some (f, t) ∧ f < 12 ∧ t < 12 ∧ f ≠ t ∧ a.getD f zB ≠ zB ∧ a.getD t zB = zB ∧ mu (moveS a f t) b < mu a b ∧ PMv (moveS a f t) b := by
  obtain ⟨ha, hb, hp, hz⟩ := h
  have ha : a.length = 12 := ha
  have hb : b.length = 12 := hb
  have hz : zB ∈ a := hz.resolve_left hne
  have hl : a.length = b.length := by omega
  have hZ : (a.zip b).length = 12 := by simp; omega
  have zat : ∀ i (hi : i < (a.zip b).length), (a.zip b)[i] = (a.getD i zB, b.getD i zB) := fun i hi => by
    rw [zip_at hi, getD_lt (by omega : i < a.length), getD_lt (by omega : i < b.length)]
  -- what a move makes
  have keep : ∀ f t, f < 12 → t < 12 → f ≠ t → a.getD t zB = zB → PMv (moveS a f t) b := fun f t hf ht hft e => by
    have hm : (moveS a f t).Perm a := by
      have := List.set_set_perm (i := f) (j := t) (show f < a.length by omega) (show t < a.length by omega)
      rw [← getD_lt (d := zB) (by omega : t < a.length), ← getD_lt (d := zB) (by omega : f < a.length), e] at this
      exact this
    refine ⟨by show (moveS a f t).length = 12; rw [hm.length_eq]; omega, hb, hm.trans hp, .inr (hm.mem_iff.2 hz)⟩
  have rmove : ∀ f t, f < 12 → t < 12 → f ≠ t → rightN (moveS a f t) b = rightN a b - cond (pR (a.getD f zB, b.getD f zB)) 1 0 + cond (pR (zB, b.getD f zB)) 1 0 - cond (pR (a.getD t zB, b.getD t zB)) 1 0 + cond (pR (a.getD f zB, b.getD t zB)) 1 0 := fun f t hf ht hft => by
    unfold rightN moveS
    rw [zip_set zB _ _ _ _ (by omega), zip_set zB _ _ _ _ (by omega), countI_set pR _ t (by simp; omega), countI_set pR _ f (by simp; omega), List.getElem_set_ne hft, zat t (by omega), zat f (by omega)]
  have rle : ∀ c : List DB, c.length = 12 → rightN c b ≤ 12 := fun c hc => by
    have := (countI_le pR (c.zip b)).2
    have e : (c.zip b).length = 12 := by simp; omega
    unfold rightN
    omega
  cases h1 : (a.zip b).findIdx? pT1 with
  | some i =>
    obtain ⟨hi, p1, _⟩ := List.findIdx?_eq_some_iff_getElem.1 h1
    rw [zat i hi] at p1
    simp only [pT1, Bool.and_eq_true, decide_eq_true_eq, Bool.not_eq_true', decide_eq_false_iff_not] at p1
    obtain ⟨e1, e2⟩ := p1
    obtain ⟨q, hq, q1, q2⟩ := pigeon hl hp (w := b.getD i zB) (List.getElem_mem hi) (by rw [zat i hi]) (by rw [zat i hi]; simp only [e1]; exact fun e => e2 e.symm)
    obtain ⟨f, hf⟩ := findIdx_some (p := pW false (b.getD i zB)) hq (by
      unfold pW
      rw [decF (by rw [q1]; exact e2), decF (by rw [q1]; exact fun e => q2 e.symm), decT q1]
      rfl)
    obtain ⟨hfl, p2, _⟩ := List.findIdx?_eq_some_iff_getElem.1 hf
    rw [zat f hfl] at p2
    simp only [pW, Bool.and_eq_true, decide_eq_true_eq, Bool.not_eq_true', decide_eq_false_iff_not, Bool.false_or] at p2
    obtain ⟨g1, g2, g3⟩ := p2
    have hft : f ≠ i := fun e => g1 (by rw [e]; exact e1)
    refine ⟨f, i, by unfold hand; rw [h1]; simp only [hf]; rfl, by omega, by omega, hft, g1, e1, ?_, keep f i (by omega) (by omega) hft e1⟩
    have hr := rmove f i (by omega) (by omega) hft
    have r1 : pR (a.getD f zB, b.getD f zB) = false := by unfold pR; rw [decF g2]; rfl
    have r2 : pR (zB, b.getD f zB) = false := by unfold pR; rw [decT (show (zB, b.getD f zB).1 = zB from rfl)]; simp
    have r3 : pR (a.getD i zB, b.getD i zB) = false := by unfold pR; rw [decT e1]; simp
    have r4 : pR (a.getD f zB, b.getD i zB) = true := by unfold pR; rw [decT g3, decF g1]; rfl
    rw [r1, r2, r3, r4] at hr
    simp only [cond_true, cond_false] at hr
    unfold mu
    rw [h1]
    have : (if ((moveS a f i).zip b |>.findIdx? pT1).isSome = true then (0 : Int) else 1) ≤ 1 := by split <;> omega
    simp only [Option.isSome_some, if_true]
    omega
  | none =>
    have hno : ∀ q, q ∈ a.zip b → pT1 q = false := List.findIdx?_eq_none_iff.1 h1
    have hno' : ∀ i, i < 12 → a.getD i zB = zB → b.getD i zB = zB := fun i hi e => by
      have := hno _ (List.getElem_mem (by omega : i < (a.zip b).length))
      rw [zat i (by omega)] at this
      unfold pT1 at this
      rw [decT e] at this
      simpa using this
    obtain ⟨j, hj, hjne⟩ : ∃ j, j < 12 ∧ a.getD j zB ≠ b.getD j zB := Classical.byContradiction fun hc => hne (by
      refine List.ext_getElem hl fun i h1 h2 => ?_
      rw [← getD_lt (d := zB) h1, ← getD_lt (d := zB) h2]
      exact Classical.byContradiction fun ne => hc ⟨i, by omega, ne⟩)
    have hjz : a.getD j zB ≠ zB := fun e => hjne (by rw [e, hno' j hj e])
    obtain ⟨f, hf⟩ := findIdx_some (p := pW true zB) (List.getElem_mem (by omega : j < (a.zip b).length)) (by
      rw [zat j (by omega)]
      unfold pW
      rw [decF hjz, decF hjne]
      rfl)
    obtain ⟨t, ht⟩ := findIdx_some (p := fun x => decide (x = zB)) hz (decT rfl)
    obtain ⟨hfl, p2, _⟩ := List.findIdx?_eq_some_iff_getElem.1 hf
    rw [zat f hfl] at p2
    simp only [pW, Bool.and_eq_true, Bool.not_eq_true', decide_eq_false_iff_not, Bool.true_or, and_true] at p2
    obtain ⟨g1, g2⟩ := p2
    obtain ⟨htl, p3, _⟩ := List.findIdx?_eq_some_iff_getElem.1 ht
    have e1 : a.getD t zB = zB := by rw [getD_lt htl]; exact of_decide_eq_true p3
    have hft : f ≠ t := fun e => g1 (by rw [e]; exact e1)
    have e2 : b.getD t zB = zB := hno' t (by omega) e1
    have e3 : b.getD f zB ≠ zB := fun e => by
      obtain ⟨q, hq, q1, q2⟩ := pigeon hl hp (w := zB) (List.getElem_mem hfl) (by rw [zat f hfl]; exact e) (by rw [zat f hfl]; exact g1)
      have := hno q hq
      unfold pT1 at this
      rw [decT q1, decF q2] at this
      cases this
    refine ⟨f, t, by unfold hand; rw [h1]; simp only [hf, ht], by omega, by omega, hft, g1, e1, ?_, keep f t (by omega) (by omega) hft e1⟩
    have hr := rmove f t (by omega) (by omega) hft
    have r1 : pR (a.getD f zB, b.getD f zB) = false := by unfold pR; rw [decF g2]; rfl
    have r2 : pR (zB, b.getD f zB) = false := by unfold pR; rw [decT (show (zB, b.getD f zB).1 = zB from rfl)]; simp
    have r3 : pR (a.getD t zB, b.getD t zB) = false := by unfold pR; rw [decT e1]; simp
    have r4 : pR (a.getD f zB, b.getD t zB) = false := by unfold pR; rw [decF (show ¬ (a.getD f zB, b.getD t zB).1 = (a.getD f zB, b.getD t zB).2 from fun e => g1 (e.trans e2))]; rfl
    rw [r1, r2, r3, r4] at hr
    simp only [cond_false] at hr
    have hT : ((moveS a f t).zip b |>.findIdx? pT1).isSome = true := by
      have hm : (zB, b.getD f zB) ∈ (moveS a f t).zip b := by
        unfold moveS
        rw [zip_set zB _ _ _ _ (by omega), zip_set zB _ _ _ _ (by omega)]
        rw [List.mem_iff_getElem]
        refine ⟨f, by simp; omega, ?_⟩
        rw [List.getElem_set_ne (Ne.symm hft), List.getElem_set_self]
      obtain ⟨i, hi⟩ := findIdx_some (p := pT1) hm (by unfold pT1; rw [decT (show (zB, b.getD f zB).1 = zB from rfl), decF e3]; rfl)
      rw [hi]; rfl
    unfold mu
    rw [h1, hT]
    simp only [Option.isSome_none, Bool.false_eq_true, if_false, if_true]
    omega
theorem mu_le {a b : List DB} : 0 ≤ mu a b + 2 * rightN a b ∧ mu a b ≤ 25 := by
  have := (countI_le pR (a.zip b)).1
  unfold mu rightN
  constructor
  · split <;> omega
  · split <;> omega
theorem mu_nn {a b : List DB} (ha : Cr a) (hb : Cr b) : 0 ≤ mu a b := by
  have := (countI_le pR (a.zip b)).2
  have ha : a.length = 12 := ha
  have hb : b.length = 12 := hb
  have e : (a.zip b).length = 12 := by simp; omega
  unfold mu rightN
  split <;> omega
def movesN (b : List DB) : Nat → List DB → List (Int × Int) → List (Int × Int)
  | 0, _, out => out
  | n + 1, a, out => if a = b then out else match hand a b with
    | some (f, t) => movesN b n (moveS a f t) (out ++ [((f : Int), (t : Int))])
    | none => out
def encH : Option (Nat × Nat) → Int × Int
  | some (f, t) => ((f : Int), (t : Int))
  | none => (0, 0)
def PH (x : List DB × List DB) : Prop := Cr x.1 ∧ Cr x.2 ∧ (hand x.1 x.2).isSome = true
theorem i8w {n : Int} (h0 : 0 ≤ n) (h1 : n ≤ 12) : IntKind.i8.wrap n = n := by
  exact IntWalk.i8_in n ⟨by omega, by omega⟩
theorem big30 : 30 < BIG := by unfold BIG; exact of_decide_eq_true rfl
theorem s_l01First : Fz51.S (cl (fun x => Cr x.1) fun x => indexI (fun y => decide (y = x.2)) x.1) := Fz51.of_cl fun x h k => by
  obtain ⟨c, b⟩ := x
  have hl : c.length = 12 := h
  show Fz51.pf BIG c b k = k (indexI (fun y => decide (y = b)) c)
  unfold Fz51.pf
  rw [iter_first c (fun i => (i : Int)) (fun y => decide (y = b)) (fun i _ => k (i : Int)) (k (-1)) (x := 0) rfl (big_lt (by omega)) ?_ ?_, firstOr_index]
  · unfold indexI
    congr 1
    cases c.findIdx? (fun y => decide (y = b)) <;> simp
  · intro i hi rec
    unfold Fz51.B1
    simp only [decT (show (i : Int) < 12 by omega), inB_nat (show i < 12 by omega), cond_true, Int.toNat_natCast, getD_lt hi, eqB, w64n (show i < 9223372036854775807 by omega)]
  · intro rec
    unfold Fz51.B1
    rw [decF (by omega)]
    rfl
def PWr (x : List DB × List DB × Bool × DB) : Prop := Cr x.1 ∧ Cr x.2.1
theorem s_l03Wrong : Fz62.S (cl PWr fun x => indexI (pW x.2.2.1 x.2.2.2) (x.1.zip x.2.1)) := Fz62.of_cl s_l01Free fun x h k => by
  obtain ⟨a, b, any, w⟩ := x
  have ha : a.length = 12 := h.1
  have hb : b.length = 12 := h.2
  show Fz62.pf _ BIG a b any w k = k (indexI (pW any w) (a.zip b))
  unfold Fz62.pf
  have hz : (a.zip b).length = 12 := by simp; omega
  rw [iter_first (a.zip b) (fun i => (i : Int)) (pW any w) (fun i _ => k (i : Int)) (k (-1)) (x := 0) rfl (big_lt (by omega)) ?_ ?_, firstOr_index]
  · unfold indexI
    congr 1
    cases (a.zip b).findIdx? (pW any w) <;> simp
  · intro i hi rec
    have h1 : i < a.length := by omega
    have h2 : i < b.length := by omega
    unfold Fz62.B1
    rw [zip_at hi]
    simp only [decT (show (i : Int) < 12 by omega), inB_nat (show i < 12 by omega), cond_true, Int.toNat_natCast, getD_lt h1, getD_lt h2, tot_eq, Option.bind_some, eqB, w64n (show i < 9223372036854775807 by omega), pW]
    by_cases c1 : a[i] = zB
    · rw [decT c1]; rfl
    · rw [decF c1]
      by_cases c2 : a[i] = b[i]
      · rw [decT c2]; rfl
      · rw [decF c2]
        cases any with
        | true => rfl
        | false =>
          by_cases c3 : a[i] = w
          · rw [decT c3]; rfl
          · rw [decF c3]; rfl
  · intro rec
    unfold Fz62.B1
    rw [hz, decF (by omega)]
    rfl
theorem indexI_some {β : Type} {p : β → Bool} {l : List β} {i : Nat} (h : l.findIdx? p = some i) : indexI p l = (i : Int) := by unfold indexI; rw [h]
theorem firstOr_at {α β : Type} (p : β → Bool) (F : Nat → Option α) (no : Option α) : ∀ (l : List β) (j : Nat), firstOr p (fun i _ => F i) no j l = (match l.findIdx? p with
    | some i => F (j + i)
    | none => no)
  | [], j => rfl
  | x :: l, j => by
    rw [firstOr, List.findIdx?_cons, firstOr_at p F no l (j + 1)]
    cases p x with
    | true => rfl
    | false =>
      simp only [cond_false, Bool.false_eq_true, if_false]
      cases l.findIdx? p with
      | some i => simp only [Option.map_some]; congr 1; omega
      | none => rfl
theorem s_l03Hand : Fz58.S (cl PH fun x => encH (hand x.1 x.2)) := Fz58.of_cl s_l01Free s_l03Wrong s_l01First fun x h k => by
  obtain ⟨a, b⟩ := x
  obtain ⟨ha, hb, hs⟩ := h
  have ha' : a.length = 12 := ha
  have hb' : b.length = 12 := hb
  show Fz58.pf _ _ _ BIG a b k = k (encH (hand a b))
  unfold Fz58.pf
  have hz : (a.zip b).length = 12 := by simp; omega
  have hs : (hand a b).isSome = true := hs
  rw [iter_first (a.zip b) (fun i => (i : Int)) pT1 (fun i _ => k (IntKind.i8.wrap (indexI (pW false (b.getD i zB)) (a.zip b)), IntKind.i8.wrap (i : Int))) (k (IntKind.i8.wrap (indexI (pW true zB) (a.zip b)), IntKind.i8.wrap (indexI (fun y => decide (y = zB)) a))) (x := 0) rfl (big_lt (by omega)) ?_ ?_, firstOr_at pT1 (fun i => k (IntKind.i8.wrap (indexI (pW false (b.getD i zB)) (a.zip b)), IntKind.i8.wrap (i : Int)))]
  · unfold hand at hs ⊢
    cases h1 : (a.zip b).findIdx? pT1 with
    | some i =>
      obtain ⟨hi, _⟩ := List.findIdx?_eq_some_iff_getElem.1 h1
      rw [h1] at hs
      simp only at hs ⊢
      cases h2 : (a.zip b).findIdx? (pW false (b.getD i zB)) with
      | none => rw [h2] at hs; cases hs
      | some f =>
        obtain ⟨hf, _⟩ := List.findIdx?_eq_some_iff_getElem.1 h2
        rw [Nat.zero_add, indexI_some h2, i8w (by omega) (by omega), i8w (by omega) (by omega)]
        rfl
    | none =>
      rw [h1] at hs
      simp only at hs ⊢
      cases h2 : (a.zip b).findIdx? (pW true zB) with
      | none => rw [h2] at hs; cases hs
      | some f =>
        cases h3 : a.findIdx? (fun x => decide (x = zB)) with
        | none => rw [h2, h3] at hs; cases hs
        | some t =>
          obtain ⟨hf, _⟩ := List.findIdx?_eq_some_iff_getElem.1 h2
          obtain ⟨ht, _⟩ := List.findIdx?_eq_some_iff_getElem.1 h3
          rw [indexI_some h2, indexI_some h3, i8w (by omega) (by omega), i8w (by omega) (by omega)]
          rfl
  · intro i hi rec
    have h1 : i < a.length := by omega
    have h2 : i < b.length := by omega
    unfold Fz58.B1
    rw [zip_at hi]
    simp only [decT (show (i : Int) < 12 by omega), inB_nat (show i < 12 by omega), cond_true, Int.toNat_natCast, getD_lt h1, getD_lt h2, tot_eq, Option.bind_some, w64n (show i < 9223372036854775807 by omega), cl_eq (show PWr (a, b, false, b[i]) from ⟨ha, hb⟩), pT1]
    by_cases c1 : a[i] = zB
    · rw [decT c1]
      by_cases c2 : b[i] = zB
      · rw [decT c2]; rfl
      · rw [decF c2]; rfl
    · rw [decF c1]; rfl
  · intro rec
    unfold Fz58.B1
    rw [hz, decF (by omega)]
    simp only [cond_false]
    rw [cl_eq (show PWr (a, b, true, zB) from ⟨ha, hb⟩), Option.bind_some, cl_eq (P := fun x : List DB × DB => Cr x.1) (x := (a, zB)) ha, Option.bind_some]
theorem s_l01Place : Fz54.S (tot fun x => decide (0 ≤ x) && decide (x ≤ 11)) := Fz54.of_tot s_l00In fun x k => by
  unfold Fz54.pf
  rw [tot_eq]
  rfl
def PSw (s : Int × Int) : Prop := (-128 ≤ s.1 ∧ s.1 ≤ 127) ∧ -128 ≤ s.2 ∧ s.2 ≤ 127
theorem s_l03Can : Fz56.S (cl PSw fun s => (decide (0 ≤ s.1) && decide (s.1 ≤ 11)) && (decide (0 ≤ s.2) && decide (s.2 ≤ 11))) := Fz56.of_cl s_l01Place fun s ⟨⟨h1, h2⟩, h3, h4⟩ k => by
  unfold Fz56.pf
  rw [w64 (n := s.1) (by omega) (by omega), w64 (n := s.2) (by omega) (by omega), tot_eq, Option.bind_some]
  cases decide (0 ≤ s.1) && decide (s.1 ≤ 11) <;> rfl
def PMd (x : List DB × Int × Int) : Prop := Cr x.1 ∧ ∃ f t : Nat, x.2 = ((f : Int), (t : Int)) ∧ f < 12 ∧ t < 12 ∧ f ≠ t ∧ x.1.getD f zB ≠ zB ∧ x.1.getD t zB = zB
theorem s_l03Moved : Fz59.S (cl PMd fun x => (0, moveS x.1 x.2.1.toNat x.2.2.toNat)) := Fz59.of_cl s_l03Can s_l01Free fun x h k => by
  obtain ⟨a, s⟩ := x
  obtain ⟨ha, f, t, e, hf, ht, hft, g1, g2⟩ := h
  have e : s = ((f : Int), (t : Int)) := e
  subst e
  have ha : a.length = 12 := ha
  have g1 : a.getD f zB ≠ zB := g1
  have g2 : a.getD t zB = zB := g2
  show Fz59.pf _ _ BIG a ((f : Int), (t : Int)) k = k (0, moveS a (f : Int).toNat (t : Int).toNat)
  unfold Fz59.pf
  rw [cl_eq (show PSw ((f : Int), (t : Int)) from ⟨⟨by simp only; omega, by simp only; omega⟩, by simp only; omega, by simp only; omega⟩), Option.bind_some]
  simp only [decT (show (0 : Int) ≤ (f : Int) by omega), decT (show (f : Int) ≤ 11 by omega), decT (show (0 : Int) ≤ (t : Int) by omega), decT (show (t : Int) ≤ 11 by omega), Bool.and_self, Bool.not_true, cond_false, inB_nat hf, inB_nat ht, cond_true, Int.toNat_natCast, tot_eq, Option.bind_some, decF g1, decT g2]
  unfold moveS
  rw [List.set_comm _ _ (Ne.symm hft)]
theorem spec_moves {α : Type} (b : List DB) (k : List (Int × Int) × Int → Option α) : ∀ (n : Nat) (fuel : Nat) (a : List DB) (out : List (Int × Int)), n < fuel → PMv a b → mu a b < n → out.length + n ≤ 100 →
    iter (Fz43.B1 (cl PH fun x => encH (hand x.1 x.2)) (cl PMd fun x => (0, moveS x.1 x.2.1.toNat x.2.2.toNat)) b (fun (x1 : List DB × List (Int × Int)) => k (x1.2, 0))) fuel (a, out) = k (movesN b n a out, 0)
  | n, 0, a, out, hf, _, _, _ => absurd hf (Nat.not_lt_zero _)
  | 0, f + 1, a, out, _, h, hm, _ => by have := mu_nn h.1 h.2.1; omega
  | n + 1, f + 1, a, out, hf, h, hm, ho => by
    have ih := spec_moves b k n f
    show Fz43.B1 _ _ _ _ (iter _ f) _ = _
    generalize hR : iter (Fz43.B1 (cl PH fun x => encH (hand x.1 x.2)) (cl PMd fun x => (0, moveS x.1 x.2.1.toNat x.2.2.toNat)) b (fun (x1 : List DB × List (Int × Int)) => k (x1.2, 0))) f = R at ih ⊢
    unfold Fz43.B1 movesN
    simp only
    rw [eqC h.1 h.2.1]
    by_cases c : a = b
    · rw [decT c, if_pos c]; rfl
    · obtain ⟨x, y, h1, h2, h3, h4, h5, h6, h7, h8⟩ := hand_ok h c
      rw [decF c, if_neg c, cl_eq (show PH (a, b) from ⟨h.1, h.2.1, by show (hand a b).isSome = true; rw [h1]; rfl⟩)]
      simp only [h1, Bool.not_false, cond_true, Option.bind_some, encH]
      rw [cl_eq (show PMd (a, (x : Int), (y : Int)) from ⟨h.1, x, y, rfl, h2, h3, h4, h5, h6⟩), Option.bind_some, okS (by simp; omega), cond_true]
      exact ih (moveS a x y) _ (by omega) h8 (by omega) (by simp; omega)
def idxs {β : Type} (p : β → Bool) : Nat → List β → List Int
  | _, [] => []
  | k, x :: l => if p x = true then (k : Int) :: idxs p (k + 1) l else idxs p (k + 1) l
theorem idxs_len {β : Type} (p : β → Bool) : ∀ (l : List β) (k : Nat), (idxs p k l).length ≤ l.length
  | [], _ => Nat.le_refl 0
  | x :: l, k => by
    have := idxs_len p l (k + 1)
    unfold idxs
    split <;> simp <;> omega
theorem idxs_mem {β : Type} (p : β → Bool) : ∀ (l : List β) (k : Nat) (i : Int), i ∈ idxs p k l → ∃ n : Nat, i = (n : Int) ∧ k ≤ n ∧ n < k + l.length
  | [], _, i, h => by cases h
  | x :: l, k, i, h => by
    unfold idxs at h
    split at h
    · rcases List.mem_cons.1 h with rfl | h
      · exact ⟨k, rfl, Nat.le_refl _, by simp⟩
      · obtain ⟨n, e, h1, h2⟩ := idxs_mem p l (k + 1) i h
        exact ⟨n, e, by omega, by simp; omega⟩
    · obtain ⟨n, e, h1, h2⟩ := idxs_mem p l (k + 1) i h
      exact ⟨n, e, by omega, by simp; omega⟩
theorem idxs_head {β : Type} (p : β → Bool) : ∀ (l : List β) (k i : Nat), l.findIdx? p = some i → ∃ r, idxs p k l = ((k + i : Nat) : Int) :: r
  | [], _, _, h => by cases h
  | x :: l, k, i, h => by
    rw [List.findIdx?_cons] at h
    unfold idxs
    cases hx : p x with
    | true =>
      rw [hx, if_pos rfl] at h
      obtain rfl := Option.some.inj h
      exact ⟨_, rfl⟩
    | false =>
      rw [hx] at h
      simp only [Bool.false_eq_true, if_false] at h ⊢
      obtain ⟨j, hj, rfl⟩ := Option.map_eq_some_iff.1 h
      obtain ⟨r, hr⟩ := idxs_head p l (k + 1) j hj
      exact ⟨r, by rw [hr]; congr 2; omega⟩
theorem idxs_nil {β : Type} (p : β → Bool) : ∀ (l : List β) (k : Nat), l.any p = false → idxs p k l = []
  | [], _, _ => rfl
  | x :: l, k, h => by
    rw [List.any_cons, Bool.or_eq_false_iff] at h
    unfold idxs
    rw [h.1, if_neg (by simp), idxs_nil p l (k + 1) h.2]
theorem idxs_snoc {β : Type} (p : β → Bool) (x : β) : ∀ (l : List β) (k : Nat), idxs p k (l ++ [x]) = idxs p k l ++ if p x = true then [((k + l.length : Nat) : Int)] else []
  | [], k => by
    simp only [List.nil_append, idxs, List.length_nil, Nat.add_zero]
  | y :: l, k => by
    rw [List.cons_append, idxs, idxs, idxs_snoc p x l (k + 1), List.length_cons, show k + 1 + l.length = k + (l.length + 1) by omega]
    split <;> rfl
theorem s_crateFree : Fz7.S (cl Cr fun c => idxs (fun x => decide (x = zB)) 0 c) := Fz7.of_cl fun c h k => by
  have hl : c.length = 12 := h
  unfold Fz7.pf
  refine iter_list c (fun i (o : List Int) => ((i : Int), o)) (fun _ _ => k (idxs (fun x => decide (x = zB)) 0 c)) (fun i o => o = idxs (fun x => decide (x = zB)) 0 (c.take i)) (c := []) rfl (big_lt (by omega)) rfl ?_ ?_
  · rintro i hi o rec rfl hrec
    have hb := idxs_len (fun x => decide (x = zB)) (c.take i) 0
    rw [List.length_take] at hb
    have e := idxs_snoc (fun x => decide (x = zB)) c[i] (c.take i) 0
    rw [← List.take_succ_eq_append_getElem hi, List.length_take, Nat.min_eq_left (by omega), Nat.zero_add] at e
    unfold Fz7.B1
    simp only [decT (show (i : Int) < 12 by omega), inB_nat (show i < 12 by omega), cond_true, Int.toNat_natCast, getD_lt hi, eqB, w64n (show i < 9223372036854775807 by omega)]
    by_cases q : c[i] = zB
    · rw [decT q, if_pos rfl] at e
      rw [decT q, okS (by simp; omega)]
      exact hrec _ e.symm
    · rw [decF q, if_neg (by simp), List.append_nil] at e
      rw [decF q]
      exact hrec _ e.symm
  · rintro o rec rfl
    unfold Fz7.B1
    rw [decF (by simp only; omega), List.take_of_length_le (Nat.le_refl _)]
    rfl
theorem s_crateFull : Fz8.S (cl Cr fun c => idxs (fun x => !decide (x = zB)) 0 c) := Fz8.of_cl fun c h k => by
  have hl : c.length = 12 := h
  unfold Fz8.pf
  refine iter_list c (fun i (o : List Int) => ((i : Int), o)) (fun _ _ => k (idxs (fun x => !decide (x = zB)) 0 c)) (fun i o => o = idxs (fun x => !decide (x = zB)) 0 (c.take i)) (c := []) rfl (big_lt (by omega)) rfl ?_ ?_
  · rintro i hi o rec rfl hrec
    have hb := idxs_len (fun x => !decide (x = zB)) (c.take i) 0
    rw [List.length_take] at hb
    have e := idxs_snoc (fun x => !decide (x = zB)) c[i] (c.take i) 0
    rw [← List.take_succ_eq_append_getElem hi, List.length_take, Nat.min_eq_left (by omega), Nat.zero_add] at e
    unfold Fz8.B1
    simp only [decT (show (i : Int) < 12 by omega), inB_nat (show i < 12 by omega), cond_true, Int.toNat_natCast, getD_lt hi, eqB, w64n (show i < 9223372036854775807 by omega)]
    by_cases q : c[i] = zB
    · rw [decT q, if_neg (by simp), List.append_nil] at e
      rw [decT q]
      exact hrec _ e.symm
    · rw [decF q, if_pos (by rfl)] at e
      rw [decF q, okS (by simp; omega)]
      exact hrec _ e.symm
  · rintro o rec rfl
    unfold Fz8.B1
    rw [decF (by simp only; omega), List.take_of_length_le (Nat.le_refl _)]
    rfl
def PN1 (x : Int × List DB × List DB) : Prop := 0 ≤ x.1 ∧ x.1 < 12
theorem s_nextMove_1 : Fz23.S (cl PN1 fun x => !decide (x.2.1.getD x.1.toNat zB = x.2.2.getD x.1.toNat zB)) := Fz23.of_cl fun x h k => by
  unfold Fz23.pf
  rw [inB_true h.1 h.2, eqB]
  rfl
def PNF (x : List Int × List DB × List DB) : Prop := PL x.1 ∧ ∀ i, i ∈ x.1 → 0 ≤ i ∧ i < 12
theorem s_indexNM : Fz35.S (cl PNF fun x => indexI (fun i => !decide (x.2.1.getD i.toNat zB = x.2.2.getD i.toNat zB)) x.1) := Fz35.of_cl s_nextMove_1 fun x h k => by
  obtain ⟨l, a, b⟩ := x
  obtain ⟨hl, hm⟩ := h
  have hl : l.length ≤ 1073741824 := hl
  show Fz35.pf _ BIG l a b k = k (indexI (fun i => !decide (a.getD i.toNat zB = b.getD i.toNat zB)) l)
  unfold Fz35.pf
  rw [iter_first l (fun i => (i : Int)) (fun i => !decide (a.getD i.toNat zB = b.getD i.toNat zB)) (fun i _ => k (i : Int)) (k (-1)) (x := 0) rfl (big_lt (by omega)) ?_ ?_, firstOr_index]
  · unfold indexI
    congr 1
    cases l.findIdx? (fun i => !decide (a.getD i.toNat zB = b.getD i.toNat zB)) <;> simp
  · intro i hi rec
    unfold Fz35.B1
    simp only [decT (show (i : Int) < (l.length : Int) by omega), inB_nat hi, cond_true, Int.toNat_natCast, getD_lt hi, cl_eq (show PN1 (l[i], a, b) from hm _ (List.getElem_mem hi)), Option.bind_some, w64n (show i < 9223372036854775807 by omega)]
  · intro rec
    unfold Fz35.B1
    rw [decF (by omega)]
    rfl
theorem full_first (g : Int → Bool) : ∀ (a b : List DB) (k : Nat), a.length = b.length → (∀ i, i < a.length → g ((k + i : Nat) : Int) = !decide (a.getD i zB = b.getD i zB)) →
    ∀ f, (a.zip b).findIdx? (pW true zB) = some f → ∃ j, (idxs (fun x => !decide (x = zB)) k a).findIdx? g = some j ∧ (idxs (fun x => !decide (x = zB)) k a).getD j 0 = ((k + f : Nat) : Int) ∧ j < (idxs (fun x => !decide (x = zB)) k a).length
  | [], _, _, _, _, f, h => by simp at h
  | x :: a, y :: b, k, hl, hg, f, h => by
    have h0 := hg 0 (by simp)
    rw [List.zip_cons_cons, List.findIdx?_cons] at h
    have ih := full_first g a b (k + 1) (by simpa using hl) (fun i hi => by
      have := hg (i + 1) (by simp; omega)
      rw [show k + 1 + i = k + (i + 1) by omega]
      exact this)
    unfold idxs
    by_cases c1 : x = zB
    · have e : pW true zB (x, y) = false := by unfold pW; rw [decT c1]; rfl
      rw [e] at h
      simp only [Bool.false_eq_true, if_false] at h
      obtain ⟨f', hf, rfl⟩ := Option.map_eq_some_iff.1 h
      rw [decT c1]
      simp only [Bool.not_true, Bool.false_eq_true, if_false]
      obtain ⟨j, e1, e2, e3⟩ := ih f' hf
      exact ⟨j, e1, by rw [e2]; congr 1; omega, e3⟩
    · rw [decF c1]
      simp only [Bool.not_false, if_true]
      have h0 : g ((k : Nat) : Int) = !decide (x = y) := h0
      by_cases c2 : x = y
      · have e : pW true zB (x, y) = false := by unfold pW; rw [decF c1, decT c2]; rfl
        rw [e] at h
        simp only [Bool.false_eq_true, if_false] at h
        obtain ⟨f', hf, rfl⟩ := Option.map_eq_some_iff.1 h
        obtain ⟨j, e1, e2, e3⟩ := ih f' hf
        refine ⟨j + 1, ?_, ?_, by simp; exact e3⟩
        · rw [List.findIdx?_cons, h0, decT c2, e1]; rfl
        · rw [List.getD_cons_succ, e2]; congr 1; omega
      · have e : pW true zB (x, y) = true := by unfold pW; rw [decF c1, decF c2]; rfl
        rw [e, if_pos rfl] at h
        obtain rfl := Option.some.inj h
        exact ⟨0, by rw [List.findIdx?_cons, h0, decF c2]; rfl, rfl, by simp⟩
theorem findIdx_congr {β : Type} {p r : β → Bool} {l : List β} (h : ∀ x, x ∈ l → p x = r x) : l.findIdx? p = l.findIdx? r := by
  induction l with
  | nil => rfl
  | cons x l ih => rw [List.findIdx?_cons, List.findIdx?_cons, h x (List.mem_cons_self ..), ih (fun y hy => h y (List.mem_cons_of_mem _ hy))]
theorem s_nextMove : Fz22.S (cl PH fun x => encH (hand x.1 x.2)) := Fz22.of_cl s_crateFull s_indexNM s_crateFree fun x h k => by
  obtain ⟨a, b⟩ := x
  obtain ⟨ha, hb, hs⟩ := h
  have ha' : a.length = 12 := ha
  have hb' : b.length = 12 := hb
  have hs : (hand a b).isSome = true := hs
  show Fz22.pf _ _ _ BIG a b k = k (encH (hand a b))
  unfold Fz22.pf
  have hz : (a.zip b).length = 12 := by simp; omega
  have zat : ∀ i (hi : i < (a.zip b).length), (a.zip b)[i] = (a.getD i zB, b.getD i zB) := fun i hi => by
    rw [zip_at hi, getD_lt (by omega : i < a.length), getD_lt (by omega : i < b.length)]
  -- the first place that lacks one
  have key : ∀ (n i fuel : Nat), i + n = 12 → n < fuel → (∀ j (hj : j < i), pT1 (a.getD j zB, b.getD j zB) = false) →
      iter (Fz22.B1 BIG a b zB (fun (x1 : Int) (x2 : Int) => k ((IntKind.i8.wrap x2), (IntKind.i8.wrap x1))) (fun (x1 : Int) => (cl Cr (fun c => idxs (fun x => !decide (x = zB)) 0 c) a).bind fun r1 => (cl PNF (fun x => indexI (fun i => !decide (x.2.1.getD i.toNat zB = x.2.2.getD i.toNat zB)) x.1) (r1, a, b)).bind fun r2 => (cl Cr (fun c => idxs (fun x => !decide (x = zB)) 0 c) a).bind fun r3 => cond (inB r2 (List.length r3)) ((cl Cr (fun c => idxs (fun x => decide (x = zB)) 0 c) a).bind fun r4 => cond (inB (0 : Int) (List.length r4)) (k ((IntKind.i8.wrap (List.getD r3 r2.toNat (0 : Int))), (IntKind.i8.wrap (List.getD r4 0 (0 : Int))))) none) none)) fuel (i : Int) = k (encH (hand a b)) := by
    intro n
    induction n with
    | zero =>
      intro i fuel hi hf hno
      match fuel, hf with
      | f + 1, _ =>
        obtain rfl : i = 12 := by omega
        show Fz22.B1 _ _ _ _ _ _ _ _ = _
        unfold Fz22.B1
        rw [decF (by omega), cond_false]
        have h1 : (a.zip b).findIdx? pT1 = none := List.findIdx?_eq_none_iff.2 fun q hq => by
          obtain ⟨j, hj, rfl⟩ := List.mem_iff_getElem.1 hq
          rw [zat j hj]
          exact hno j (by omega)
        unfold hand at hs ⊢
        rw [h1] at hs ⊢
        simp only at hs ⊢
        cases h2 : (a.zip b).findIdx? (pW true zB) with
        | none => rw [h2] at hs; cases hs
        | some f =>
          cases h3 : a.findIdx? (fun x => decide (x = zB)) with
          | none => rw [h2, h3] at hs; cases hs
          | some t =>
            obtain ⟨hf, _⟩ := List.findIdx?_eq_some_iff_getElem.1 h2
            obtain ⟨ht, _⟩ := List.findIdx?_eq_some_iff_getElem.1 h3
            obtain ⟨j, e1, e2, e3⟩ := full_first (fun i => !decide (a.getD i.toNat zB = b.getD i.toNat zB)) a b 0 (by omega) (fun i hi => by simp) f h2
            obtain ⟨r, e4⟩ := idxs_head (fun x => decide (x = zB)) a 0 t h3
            have hF := idxs_len (fun x => !decide (x = zB)) a 0
            rw [cl_eq ha, Option.bind_some, cl_eq (show PNF (idxs (fun x => !decide (x = zB)) 0 a, a, b) from ⟨by unfold PL; simp only; omega, fun i hi => by
              obtain ⟨n, rfl, _, hn⟩ := idxs_mem _ _ _ _ hi
              omega⟩), Option.bind_some, Option.bind_some, indexI_some e1, inB_nat e3, cond_true, cl_eq ha, Option.bind_some, e4, inB_true (Int.le_refl 0) (by simp), cond_true, Int.toNat_natCast, e2, List.getD_cons_zero, Nat.zero_add, Nat.zero_add, i8w (by omega) (by omega), i8w (by omega) (by omega)]
            rfl
    | succ n ih =>
      intro i fuel hi hf hno
      match fuel, hf with
      | f + 1, hf =>
        have ih := ih (i + 1) f (by omega) (by omega)
        have hia : i < a.length := by omega
        have hib : i < b.length := by omega
        show Fz22.B1 _ _ _ _ _ _ (iter _ f) _ = _
        generalize hR : iter (Fz22.B1 BIG a b zB (fun (x1 : Int) (x2 : Int) => k ((IntKind.i8.wrap x2), (IntKind.i8.wrap x1))) _) f = R at ih ⊢
        have next : pT1 (a.getD i zB, b.getD i zB) = false → R ((i + 1 : Nat) : Int) = k (encH (hand a b)) := fun e => ih fun j hj => by
          rcases Nat.lt_or_ge j i with q | q
          · exact hno j q
          · obtain rfl : j = i := by omega
            exact e
        unfold Fz22.B1
        simp only [decT (show (i : Int) < 12 by omega), inB_nat (show i < 12 by omega), cond_true, Int.toNat_natCast, eqB, w64n (show i < 9223372036854775807 by omega)]
        by_cases c1 : a.getD i zB = zB
        · rw [decT c1]
          by_cases c2 : b.getD i zB = zB
          · rw [decT c2]
            exact next (by unfold pT1; rw [decT c2]; simp)
          · rw [decF c2]
            simp only [Bool.not_true, cond_false]
            have hp1 : pT1 (a.getD i zB, b.getD i zB) = true := by unfold pT1; rw [decT c1, decF c2]; rfl
            have h1 : (a.zip b).findIdx? pT1 = some i := List.findIdx?_eq_some_iff_getElem.2 ⟨by omega, by rw [zat i (by omega)]; exact hp1, fun j hj => by
              rw [zat j (by omega), hno j hj]; simp⟩
            unfold hand at hs ⊢
            rw [h1] at hs ⊢
            simp only at hs ⊢
            have ep : (a.zip b).findIdx? (pW false (b.getD i zB)) = (a.zip b).findIdx? (fun q => decide (q.1 = b.getD i zB) && !decide (q.2 = q.1)) := findIdx_congr fun q hq => by
              unfold pW
              by_cases d1 : q.1 = b.getD i zB
              · rw [decT d1, decF (show ¬ q.1 = zB by rw [d1]; exact c2)]
                by_cases d2 : q.1 = q.2
                · rw [decT d2, decT d2.symm]; rfl
                · rw [decF d2, decF (Ne.symm d2)]; rfl
              · rw [decF d1]; simp
            rw [ep] at hs ⊢
            cases h2 : (a.zip b).findIdx? (fun q => decide (q.1 = b.getD i zB) && !decide (q.2 = q.1)) with
            | none => rw [h2] at hs; cases hs
            | some f =>
              obtain ⟨hf, _⟩ := List.findIdx?_eq_some_iff_getElem.1 h2
              rw [iter_first (a.zip b) (fun i => (i : Int)) (fun q => decide (q.1 = b.getD i zB) && !decide (q.2 = q.1)) (fun j _ => k (IntKind.i8.wrap (j : Int), IntKind.i8.wrap (i : Int))) (R ((i + 1 : Nat) : Int)) (x := 0) rfl (big_lt (by omega)) ?_ ?_, firstOr_at (fun q : DB × DB => decide (q.1 = b.getD i zB) && !decide (q.2 = q.1)) (fun j => k (IntKind.i8.wrap (j : Int), IntKind.i8.wrap (i : Int)))]
              · rw [h2]
                simp only [Nat.zero_add]
                rw [i8w (by omega) (by omega), i8w (by omega) (by omega)]
                rfl
              · intro j hj rec
                unfold Fz22.B2
                rw [zat j hj]
                simp only [decT (show (j : Int) < 12 by omega), inB_nat (show j < 12 by omega), inB_nat (show i < 12 by omega), cond_true, Int.toNat_natCast, eqB, w64n (show j < 9223372036854775807 by omega)]
                cases decide (a.getD j zB = b.getD i zB) with
                | false => rfl
                | true =>
                  cases decide (b.getD j zB = a.getD j zB) <;> rfl
              · intro rec
                unfold Fz22.B2
                rw [hz, decF (by omega)]
                rfl
        · rw [decF c1]
          exact next (by unfold pT1; rw [decF c1]; rfl)
  exact key 12 0 BIG (by omega) (big_lt (by omega)) (fun j hj => absurd hj (Nat.not_lt_zero _))
theorem s_swapped : Fz10.S (cl PMd fun x => moveS x.1 x.2.1.toNat x.2.2.toNat) := Fz10.of_cl fun x h k => by
  obtain ⟨a, s⟩ := x
  obtain ⟨ha, f, t, e, hf, ht, hft, g1, g2⟩ := h
  have e : s = ((f : Int), (t : Int)) := e
  subst e
  have g2 : a.getD t zB = zB := g2
  show Fz10.pf BIG a ((f : Int), (t : Int)) k = k (moveS a (f : Int).toNat (t : Int).toNat)
  unfold Fz10.pf
  simp only [inB_nat hf, inB_nat ht, cond_true, Int.toNat_natCast, g2]
  rfl
theorem impl_moves {α : Type} (b : List DB) (k : List (Int × Int) × Int → Option α) : ∀ (n : Nat) (fuel : Nat) (a : List DB) (out : List (Int × Int)), n < fuel → PMv a b → mu a b < n → out.length + n ≤ 100 →
    iter (Fz13.B1 (cl PH fun x => encH (hand x.1 x.2)) (cl PMd fun x => moveS x.1 x.2.1.toNat x.2.2.toNat) b (fun (x1 : List DB × List (Int × Int)) => k (x1.2, 0))) fuel (a, out) = k (movesN b n a out, 0)
  | n, 0, a, out, hf, _, _, _ => absurd hf (Nat.not_lt_zero _)
  | 0, f + 1, a, out, _, h, hm, _ => by have := mu_nn h.1 h.2.1; omega
  | n + 1, f + 1, a, out, hf, h, hm, ho => by
    have ih := impl_moves b k n f
    show Fz13.B1 _ _ _ _ (iter _ f) _ = _
    generalize hR : iter (Fz13.B1 (cl PH fun x => encH (hand x.1 x.2)) (cl PMd fun x => moveS x.1 x.2.1.toNat x.2.2.toNat) b (fun (x1 : List DB × List (Int × Int)) => k (x1.2, 0))) f = R at ih ⊢
    unfold Fz13.B1 movesN
    simp only
    rw [eqC h.1 h.2.1]
    by_cases c : a = b
    · rw [decT c, if_pos c]; rfl
    · obtain ⟨x, y, h1, h2, h3, h4, h5, h6, h7, h8⟩ := hand_ok h c
      rw [decF c, if_neg c, cl_eq (show PH (a, b) from ⟨h.1, h.2.1, by show (hand a b).isSome = true; rw [h1]; rfl⟩)]
      simp only [h1, Bool.not_false, cond_true, Option.bind_some, encH]
      rw [okS (by simp; omega), cond_true, cl_eq (show PMd (a, (x : Int), (y : Int)) from ⟨h.1, x, y, rfl, h2, h3, h4, h5, h6⟩), Option.bind_some]
      exact ih (moveS a x y) _ (by omega) h8 (by omega) (by simp; omega)
theorem allB_perm : ∀ a : List DB, a.Perm (allB a ++ List.replicate (a.length - (allB a).length) zB)
  | [] => List.Perm.refl _
  | x :: a => by
    have ih := allB_perm a
    have hl := allB_len a
    by_cases q : x = zB
    · have e : allB (x :: a) = allB a := by rw [allB, List.filter_cons, decT q]; rfl
      rw [e, List.length_cons, Nat.succ_sub hl, List.replicate_succ, q]
      exact (ih.cons zB).trans List.perm_middle.symm
    · have e : allB (x :: a) = x :: allB a := by rw [allB, List.filter_cons, decF q]; rfl
      rw [e, List.length_cons, List.length_cons, Nat.add_sub_add_right, List.cons_append]
      exact ih.cons x
theorem same_perm {a b : List DB} (ha : Cr a) (hb : Cr b) (h : sortB (allB a) = sortB (allB b)) : a.Perm b := by
  have ha : a.length = 12 := ha
  have hb : b.length = 12 := hb
  have h1 : (allB a).Perm (allB b) := (sortB_perm _).symm.trans (h ▸ sortB_perm _)
  refine (allB_perm a).trans (List.Perm.trans ?_ (allB_perm b).symm)
  rw [ha, hb, h1.length_eq]
  exact h1.append_right _
def movesFor (a b : List DB) : List (Int × Int) × Int :=
  if (crateOk a && crateOk b) = true then (if sortB (allB a) = sortB (allB b) then (if a ≠ b ∧ (a.any fun x => decide (x = zB)) = false then ([], 6) else (movesN b 30 a [], 0)) else ([], 4)) else ([], 1)
theorem any_z {a : List DB} (h : (a.any fun x => decide (x = zB)) = true) : zB ∈ a := by
  obtain ⟨x, hx, e⟩ := List.any_eq_true.1 h
  exact (of_decide_eq_true e) ▸ hx
theorem s_spec_MovesFor : Fz43.S (cl wC2 fun x => movesFor x.1 x.2) := Fz43.of_cl s_l01Ok s_l03Same s_l01First s_l03Hand s_l03Moved fun x h k => by
  obtain ⟨a, b⟩ := x
  have ha : Cr a := h.1.1
  have hb : Cr b := h.2.1
  show Fz43.pf _ _ _ _ _ BIG a b k = k (movesFor a b)
  unfold Fz43.pf movesFor
  rw [cl_eq h.1, Option.bind_some]
  cases crateOk a with
  | false => rfl
  | true =>
    simp only [Bool.not_true, cond_false, Bool.true_and]
    rw [cl_eq h.2, Option.bind_some]
    cases crateOk b with
    | false => rfl
    | true =>
      simp only [Bool.not_true, cond_false, if_true]
      rw [cl_eq h.cr, Option.bind_some]
      by_cases c : sortB (allB a) = sortB (allB b)
      · rw [decT c, if_pos c]
        simp only [Bool.not_true, cond_false]
        have hp := same_perm ha hb c
        have hm := (mu_le (a := a) (b := b)).2
        rw [eqC ha hb]
        by_cases e : a = b
        · rw [decT e, if_neg (fun q => q.1 e)]
          simp only [Bool.not_true, cond_false]
          exact spec_moves b k 30 BIG a [] big30 ⟨ha, hb, hp, .inl e⟩ (by omega) (by simp)
        · rw [decF e]
          simp only [Bool.not_false, cond_true]
          rw [cl_eq (P := fun x : List DB × DB => Cr x.1) (x := (a, zB)) ha, Option.bind_some]
          have hn := indexI_nn (fun x => decide (x = zB)) a
          cases z : a.any fun x => decide (x = zB) with
          | true =>
            rw [z] at hn
            have hn := of_decide_eq_true hn
            rw [decF (show ¬ indexI (fun y => decide (y = zB)) a < 0 by omega), if_neg (fun q => by cases q.2), cond_false]
            exact spec_moves b k 30 BIG a [] big30 ⟨ha, hb, hp, .inr (any_z z)⟩ (by omega) (by simp)
          | false =>
            rw [z] at hn
            have hn := of_decide_eq_false hn
            rw [decT (show indexI (fun y => decide (y = zB)) a < 0 by omega), if_pos ⟨e, rfl⟩]
            rfl
      · rw [decF c, if_neg c]; rfl
theorem s_impl_MovesFor : Fz13.S (cl wC2 fun x => movesFor x.1 x.2) := Fz13.of_cl s_ValidCrate s_crateSorted s_equalB s_crateFree s_nextMove s_swapped fun x h k => by
  obtain ⟨a, b⟩ := x
  have ha : Cr a := h.1.1
  have hb : Cr b := h.2.1
  have ha' : a.length = 12 := ha
  show Fz13.pf _ _ _ _ _ _ BIG a b k = k (movesFor a b)
  unfold Fz13.pf movesFor
  rw [cl_eq h.1, Option.bind_some]
  cases crateOk a with
  | false => rfl
  | true =>
    simp only [Bool.not_true, cond_false, Bool.true_and]
    rw [cl_eq h.2, Option.bind_some]
    cases crateOk b with
    | false => rfl
    | true =>
      simp only [Bool.not_true, cond_false, if_true]
      have h1 := sortB_len (allB a)
      have h2 := allB_len a
      rw [cl_eq ha, Option.bind_some, cl_eq hb, Option.bind_some, cl_eq (show PL1 (sortB (allB a), sortB (allB b)) by unfold PL1; simp only; omega), Option.bind_some]
      by_cases c : sortB (allB a) = sortB (allB b)
      · rw [decT c, if_pos c]
        simp only [Bool.not_true, cond_false]
        have hp := same_perm ha hb c
        have hm := (mu_le (a := a) (b := b)).2
        rw [eqC ha hb]
        by_cases e : a = b
        · rw [decT e, if_neg (fun q => q.1 e)]
          simp only [Bool.not_true, cond_false]
          exact impl_moves b k 30 BIG a [] big30 ⟨ha, hb, hp, .inl e⟩ (by omega) (by simp)
        · rw [decF e]
          simp only [Bool.not_false, cond_true]
          rw [cl_eq ha, Option.bind_some]
          cases z : a.any fun x => decide (x = zB) with
          | true =>
            obtain ⟨i, hi⟩ := findIdx_some (p := fun x => decide (x = zB)) (any_z z) (decT rfl)
            obtain ⟨r, hr⟩ := idxs_head (fun x => decide (x = zB)) a 0 i hi
            rw [hr, beqF (by simp; omega), if_neg (fun q => by cases q.2), cond_false]
            exact impl_moves b k 30 BIG a [] big30 ⟨ha, hb, hp, .inr (any_z z)⟩ (by omega) (by simp)
          | false =>
            rw [idxs_nil _ a 0 z, if_pos ⟨e, rfl⟩]
            rfl
      · rw [decF c, if_neg c]; rfl
theorem movesN_len (b : List DB) : ∀ (n : Nat) (a : List DB) (out : List (Int × Int)), (movesN b n a out).length ≤ out.length + n
  | 0, a, out => Nat.le_refl _
  | n + 1, a, out => by
    unfold movesN
    split
    · omega
    · split
      · rename_i f t _
        have := movesN_len b n (moveS a f t) (out ++ [((f : Int), (t : Int))])
        rw [List.length_append, List.length_singleton] at this
        omega
      · omega
theorem movesFor_len (a b : List DB) : (movesFor a b).1.length ≤ 30 := by
  unfold movesFor
  split
  · split
    · split
      · simp
      · have := movesN_len b 30 a []
        simpa using this
    · simp
  · simp

def iLt (x y : Int) : Bool := decide (x < y)
def leI (x y : Int) : Prop := iLt y x = false
theorem leI_iff (x y : Int) : leI x y ↔ x ≤ y := by
  unfold leI iLt
  rw [decide_eq_false_iff_not]
  omega
theorem leI_refl (x : Int) : leI x x := (leI_iff x x).2 (Int.le_refl x)
def SortedI (l : List Int) : Prop := l.Pairwise leI
theorem SortedI.get {l : List Int} (h : SortedI l) {i j : Nat} (hij : i ≤ j) (hj : j < l.length) : leI (l.getD i 0) (l.getD j 0) := by
  rcases Nat.lt_or_eq_of_le hij with q | rfl
  · rw [getD_lt (by omega : i < l.length), getD_lt hj]
    exact List.pairwise_iff_getElem.1 h i j (by omega) hj q
  · exact leI_refl _
def pNe (q : DB × DB) : Bool := !decide (q.1 = q.2)
abbrev differL (a b : List DB) : List Int := idxs pNe 0 (a.zip b)
theorem differL_ok {a b : List DB} (ha : Cr a) (hb : Cr b) : (differL a b).length ≤ 12 ∧ ∀ i, i ∈ differL a b → ∃ n : Nat, i = (n : Int) ∧ n < 12 := by
  have ha : a.length = 12 := ha
  have hb : b.length = 12 := hb
  have hz : (a.zip b).length = 12 := by simp; omega
  have := idxs_len pNe (a.zip b) 0
  refine ⟨(show (idxs pNe 0 (a.zip b)).length ≤ 12 by omega), fun i hi => ?_⟩
  obtain ⟨n, e, _, h⟩ := idxs_mem _ _ _ _ hi
  exact ⟨n, e, by omega⟩
theorem s_l03Differ : Fz57.S (cl Cr2 fun x => differL x.1 x.2) := Fz57.of_cl fun x h k => by
  obtain ⟨a, b⟩ := x
  have ha : a.length = 12 := h.1
  have hb : b.length = 12 := h.2
  have hz : (a.zip b).length = 12 := by simp; omega
  show Fz57.pf BIG a b k = k (differL a b)
  unfold Fz57.pf
  refine iter_list (a.zip b) (fun i (o : List Int) => ((i : Int), o)) (fun _ _ => k (differL a b)) (fun i o => o = idxs pNe 0 ((a.zip b).take i)) (c := []) rfl (big_lt (by omega)) rfl ?_ ?_
  · rintro i hi o rec rfl hrec
    have h1 : i < a.length := by omega
    have h2 : i < b.length := by omega
    have hbd := idxs_len pNe ((a.zip b).take i) 0
    rw [List.length_take] at hbd
    have e := idxs_snoc pNe (a.zip b)[i] ((a.zip b).take i) 0
    rw [← List.take_succ_eq_append_getElem hi, List.length_take, Nat.min_eq_left (by omega), Nat.zero_add, zip_at hi] at e
    unfold Fz57.B1
    simp only [decT (show (i : Int) < 12 by omega), inB_nat (show i < 12 by omega), cond_true, Int.toNat_natCast, getD_lt h1, getD_lt h2, eqB, w64n (show i < 9223372036854775807 by omega)]
    unfold pNe at e
    by_cases q : a[i] = b[i]
    · rw [decT q, if_neg (by simp), List.append_nil] at e
      rw [decT q]
      exact hrec _ e.symm
    · rw [decF q, if_pos (by rfl)] at e
      rw [decF q, okS (by simp; omega)]
      exact hrec _ e.symm
  · rintro o rec rfl
    unfold Fz57.B1
    rw [decF (by simp only; omega), List.take_of_length_le (Nat.le_refl _)]
    rfl

abbrev TyB2 : Ty := .st (.pair (.int .u8) (.int .i16))
theorem Sound.post {P : Program} {W : World} {f : FuncId} {A B : Type} {dec : List AV → Option A} {fn : A → Option B} {enc : List AV → B → Res} (S : Sound P f (mkSig [] dec fn enc)) {avs : List AV} {vs : List Value} (h : All2 (EntryOk W) avs vs) {x : A} (hd : dec avs = some x) {b : B} (hx : fn x = some b) (hgo : GO W []) :
    Calls P f vs.toArray W fun e W' => ∃ gh v, e = .returned v ∧ Post (mkSig [] dec fn enc) avs W gh [] (enc avs b) v W' := by
  obtain ⟨gh, hR⟩ := entry_R h hgo
  have := S.does avs (enc avs b) (by simp only [mkSig, hd, hx]; rfl) vs W gh [] hR
  refine this.mono (fun e w' he => ?_)
  cases e with
  | returned v => exact ⟨gh, v, rfl, he⟩
  | panicked _ => exact he.elim
  | outgrown => exact he.elim
theorem slots_all2 {w0 w' : World} {MB : Out} {xs : List SV} {objs : List (Option Ob)} {g : Gh} {vs : List Value} (Rc : R xs.length w0 MB ⟨xs, objs⟩ g ⟨vs.toArray, []⟩ w') : All2 (SRel objs g) xs vs := by
  have t1 := Rc.tm
  simp only [List.size_toArray] at t1
  refine ⟨t1.symm, fun i x y hx hy => ?_⟩
  have hi := (List.getElem?_eq_some_iff.1 hx).1
  have := Rc.slots i hi
  rw [List.getD_eq_getElem?_getD, hx] at this
  rw [show vs.toArray.getD i undef = y by
    have hi2 := (List.getElem?_eq_some_iff.1 hy).1
    have e := (List.getElem?_eq_some_iff.1 hy).2
    simp [hi2, e]] at this
  exact this
theorem below_of {w0 w' : World} (fr : Fr [] w0 w') : Go.RowKit.Below w0.heap.size w0 w' := ⟨fr.os, fr.tape.1, fr.output, fr.size, fun k hk => fr.block k hk List.not_mem_nil⟩
theorem outs_cons {base : Nat} {objs : List (Option Ob)} {names : List (Option Nat)} {xs : List SV} {ks : List Nat} {v : RV} {l : List RV} (h : outsOf base objs names xs ks = some (v :: l)) :
    ∃ x r k, xs = x :: r ∧ outOf base objs names x = some (v, k) ∧ outsOf base objs names r (k ++ ks) = some l := by
  cases xs with
  | nil => simp [outsOf] at h
  | cons x r =>
    unfold outsOf at h
    split at h
    · rename_i v' k hv
      split at h
      · split at h
        · rename_i l' hl
          simp only [Option.some.injEq, List.cons.injEq] at h
          obtain ⟨rfl, rfl⟩ := h
          exact ⟨x, r, k, rfl, hv, hl⟩
        · cases h
      · cases h
    · cases h
theorem outs_nil {base : Nat} {objs : List (Option Ob)} {names : List (Option Nat)} {xs : List SV} {ks : List Nat} (h : outsOf base objs names xs ks = some []) : xs = [] := by
  cases xs with
  | nil => rfl
  | cons x r =>
    unfold outsOf at h
    split at h
    · split at h
      · split at h <;> simp at h
      · cases h
    · cases h
theorem out_val {base : Nat} {objs : List (Option Ob)} {names : List (Option Nat)} {x : SV} {t : Ty} {y : t.den} {k : List Nat} (h : outOf base objs names x = some (.val t y, k)) : x = .val t y := by
  unfold outOf at h
  split at h
  · rename_i t' y'
    split at h
    · simp only [Option.some.injEq, Prod.mk.injEq, RV.val.injEq] at h
      obtain ⟨⟨rfl, h2⟩, _⟩ := h
      rw [eq_of_heq h2]
    · cases h
  · simp at h
  · split at h
    · split at h
      · split at h
        · simp only [] at h
          split at h <;> simp at h
        · split at h <;> simp at h
      · cases h
    · cases h
  · cases h
theorem Sound.valC {P : Program} {W : World} {f : FuncId} {A : Type} {t : Ty} {dec : List AV → Option A} {fn : A → Option t.den} {enc : List AV → t.den → Res} (S : Sound P f (mkSig [] dec fn enc)) (henc : ∀ avs r, enc avs r = ⟨[.val t r], []⟩) {avs : List AV} {vs : List Value} (h : All2 (EntryOk W) avs vs) {x : A} (hd : dec avs = some x) {b : t.den} (hx : fn x = some b) (hgo : GO W []) :
    Calls P f vs.toArray W fun e W' => e = .returned (toV t b) ∧ Go.RowKit.Below W.heap.size W W' := by
  refine (Sound.post S h hd hx hgo).mono fun e W' ⟨gh, v, he, objs', g', xs', vs', Rc, hou, _, hv⟩ => ?_
  rw [henc] at hou
  obtain ⟨x0, r0, k0, rfl, o2, hou⟩ := outs_cons hou
  obtain rfl := outs_nil hou
  obtain rfl := out_val o2
  have hall := slots_all2 Rc
  match vs', hall with
  | [v0], hall =>
    have e2 := (hall.2 0 _ _ rfl rfl).2.2
    refine ⟨?_, below_of Rc.frame⟩
    rw [he, hv, e2]
    rfl
  | [], hall => have := hall.1; simp at this
  | _ :: _ :: _, hall => have := hall.1; simp at this
def gU (l : List Int) : Prop := ∀ x, x ∈ l → 0 ≤ x ∧ x ≤ 255
theorem good_Us {e : TypeId} {l : List Int} (h : goodV (.row e (.int .u8)) l) : gU l := fun x hx => by
  obtain ⟨i, hi, rfl⟩ := List.mem_iff_getElem.1 hx
  have := h.2 i hi
  have e0 : l.getD i (Ty.int .u8).dflt = l[i] := getD_lt hi
  rw [e0] at this
  simp [goodV, Lit.wf, IntKind.min, IntKind.max, IntKind.signed, IntKind.bits] at this
  omega
def PCd (l : List Int) : Prop := l.length ≤ 4096 ∧ gU l
theorem u8_cells (l : List Int) (locs : Nat → Unit) (i : Nat) (h : i < l.length) : (rowCells (.int .u8) l locs)[i]? = some (.int .u8 l[i]) := by
  have e : rowCells (.int .u8) l locs = (List.range l.length).map fun i => Value.int .u8 (List.getD l i 0) := by
    rw [List.map_eq_flatMap]
    rfl
  rw [e, List.getElem?_map, List.getElem?_range h]
  simp only [Option.map_some]
  rw [getD_lt h]
theorem elems_rdB {w : World} {l : List Int} {locs : Nat → Unit} {A : Option Addr} {c : Nat} {o : Bool} (hc : l.length ≤ c) (h : Elems w o (.int .u8) l locs A) : Go.Proofs.RdB w (.slice A l.length c) l := by
  refine ⟨A, c, rfl, hc, fun h0 => ?_⟩
  obtain ⟨b, o, e, hb, hr⟩ := h.at_ h0
  exact ⟨b, o, e, hb, fun i hi => hr i _ (u8_cells l locs i hi)⟩
theorem enc_crate {c : List DB} (h : c.length = 12) : encV (.arr 12 TyB2) c = Go.Proofs.Dr.cellsC c := by
  have e : encV (.arr 12 TyB2) c = (List.range 12).flatMap fun i => [Value.int .u8 (c.getD i (0, 0)).1, Value.int .i16 (c.getD i (0, 0)).2] := rfl
  rw [e]
  unfold Go.Proofs.Dr.cellsC
  have e2 : c = (List.range 12).map fun i => c.getD i (0, 0) := by
    refine List.ext_getElem (by simp [h]) fun i h1 h2 => ?_
    rw [List.getElem_map, List.getElem_range, getD_lt h1]
  conv => rhs; rw [e2]
  rw [List.flatMap_map]
theorem okC {c : List DB} (h : c.length = 12) : okV (.arr 12 TyB2) c := ⟨h, fun i hi => ⟨trivial, trivial⟩⟩
def okD (b : DB) : Prop := b = (0, 0) ∨ (1 ≤ b.1 ∧ b.1 ≤ 3 ∧ 1998 ≤ b.2 ∧ b.2 ≤ 2000)
theorem one_ok {code : List Int} (h : gU code) (st : Nat × Int) : okD (Go.Proofs.Dr.one code st).1 := by
  unfold Go.Proofs.Dr.one
  obtain ⟨a1, a2, _⟩ := Go.Proofs.Dr.pick_bd h 3 st
  obtain ⟨b1, b2, _⟩ := Go.Proofs.Dr.pick_bd h 3 (Go.Proofs.Dr.pick code 3 st).2
  have a2 := a2 (by omega)
  have b2 := b2 (by omega)
  generalize Go.Proofs.Dr.pick code 3 (Go.Proofs.Dr.pick code 3 st).2 = r at b1 b2
  generalize Go.Proofs.Dr.pick code 3 st = q at a1 a2
  refine .inr ⟨?_, ?_, ?_, ?_⟩
  · show 1 ≤ 1 + q.1; omega
  · show 1 + q.1 ≤ 3; omega
  · show 1998 ≤ 1998 + r.1; omega
  · show 1998 + r.1 ≤ 2000; omega
theorem putN_ok {code : List Int} (h : gU code) (st : Nat × Int) : ∀ k, ∀ b, b ∈ (Go.Proofs.Dr.putN code st k).1 → okD b
  | 0, b, hb => by
    rw [Go.Proofs.Dr.putN_zero] at hb
    exact .inl (List.mem_replicate.1 hb).2
  | k + 1, b, hb => by
    have ih := putN_ok h st k
    rw [Go.Proofs.Dr.putN_succ] at hb
    generalize Go.Proofs.Dr.putN code st k = s at ih hb
    unfold Go.Proofs.Dr.put at hb
    generalize Go.Proofs.Dr.pick code 4 s.2 = q at hb
    have ho := one_ok h q.2
    generalize Go.Proofs.Dr.one code q.2 = o at hb ho
    split at hb
    · rcases List.mem_or_eq_of_mem_set hb with h1 | h1
      · exact ih b h1
      · rw [h1]; exact ho
    · exact ih b hb
def drawnC (code : List Int) : List DB := (Go.Proofs.Dr.drawn code (0, 0)).1
theorem drawn_ok {code : List Int} (h : gU code) : wC (drawnC code) ∧ crateOk (drawnC code) = true := by
  unfold drawnC
  rw [Go.Proofs.Dr.drawn_eq]
  have h1 := (Go.Proofs.Dr.putN_bd h (0, 0) 12).1
  have h2 := putN_ok h (0, 0) 12
  generalize Go.Proofs.Dr.putN code (0, 0) 12 = s at h1 h2
  refine ⟨⟨h1, fun b hb => ?_⟩, ?_⟩
  · rcases h2 b hb with rfl | ⟨a1, a2, a3, a4⟩
    · exact ⟨by decide, by decide, by decide, by decide⟩
    · exact ⟨by omega, by omega, by omega, by omega⟩
  · unfold crateOk
    rw [List.all_eq_true]
    intro b hb
    unfold okB validB
    rcases h2 b hb with rfl | ⟨a1, a2, a3, a4⟩
    · rfl
    · rw [decT (show 1 ≤ b.1 by omega), decT (show b.1 ≤ 20 by omega), decT (show 1900 ≤ b.2 by omega), decT (show b.2 ≤ 2099 by omega)]
      simp
theorem s_P6Crate : Fz44.S (cl PCd drawnC) where
  fn := ⟨Try.f30, by kernel_rfl, by decide, by decide⟩
  does := fun avs r hr vs w gh MBb hR => by
    obtain ⟨x, y, h1, h2, rfl⟩ := mkSig_run hr
    obtain ⟨e0, rfl⟩ := Fz44.dec_eq h1
    obtain ⟨hp, rfl⟩ := cl_some h2
    have hR : R 1 w ⟨MBb, _⟩ ⟨[.sl 0 [] none], [some (.dat ⟨e0, .int .u8, x, false, false, none⟩)]⟩ gh ⟨vs.toArray, []⟩ w := hR
    have hsz : vs.length = 1 := by simpa using hR.tm
    match vs, hsz with
    | [v0], _ =>
      have a0 : SlRel [some (.dat ⟨e0, .int .u8, x, false, false, none⟩)] gh 0 [] none v0 := hR.slots 0 (by omega)
      obtain ⟨d1, A1, c1, loc1, q1, rfl, u1, E1⟩ := sl_elems hR a0 (u := .int .u8) (l := x) rfl
      have hl := (drawn_ok hp.2).1.1
      have hcall := Go.Proofs.Try.crate_calls (.slice A1 x.length c1) x w (elems_rdB u1 E1) (by have := hp.1; omega) hp.2
      refine hcall.mono fun e w' ⟨he, hb⟩ => ?_
      subst he
      have ev : Value.agg (Go.Proofs.Dr.cellsC (Go.Proofs.Dr.drawn x (0, 0)).1).toArray = toV (.arr 12 TyB2) (drawnC x) := by
        show Value.agg (Go.Proofs.Dr.cellsC (drawnC x)).toArray = .agg (encV (.arr 12 TyB2) (drawnC x)).toArray
        rw [enc_crate hl]
      rw [ev]
      have hok : okV (.arr 12 TyB2) (drawnC x) := okC hl
      have r1 := hR.ret hb (fun h => h.elim) [.val (.arr 12 TyB2) (drawnC x)] [toV (.arr 12 TyB2) (drawnC x)] (All2.cons_iff.2 ⟨⟨rfl, hok, rfl⟩, All2.nil _⟩)
      exact ⟨_, _, [.val (.arr 12 TyB2) (drawnC x)], [toV (.arr 12 TyB2) (drawnC x)], r1, rfl, rfl, rfl⟩
def PSwp (x : List DB × Int × Int) : Prop := Cr x.1 ∧ ∃ i k : Nat, x.2 = ((i : Int), (k : Int)) ∧ i < 12 ∧ k < 12
theorem s_l03SwappedD : Fz61.S (cl PSwp fun x => Go.Proofs.Dr.swapD x.1 x.2.1.toNat x.2.2.toNat) := Fz61.of_cl fun x h k => by
  obtain ⟨a, s⟩ := x
  obtain ⟨ha, i, j, e, hi, hj⟩ := h
  have e : s = ((i : Int), (j : Int)) := e
  subst e
  show Fz61.pf BIG a ((i : Int), (j : Int)) k = k (Go.Proofs.Dr.swapD a (i : Int).toNat (j : Int).toNat)
  unfold Fz61.pf
  simp only [inB_nat hi, inB_nat hj, cond_true]
  rfl
theorem swapD_perm {a : List DB} {i k : Nat} (hi : i < a.length) (hk : k < a.length) : (Go.Proofs.Dr.swapD a i k).Perm a := by
  have := List.set_set_perm (i := i) (j := k) hi hk
  rw [← getD_lt (d := ((0, 0) : DB)) hk, ← getD_lt (d := ((0, 0) : DB)) hi] at this
  exact this
theorem steps_perm {code : List Int} (h : gU code) (s : List DB × Nat × Int) (hl : s.1.length = 12) : ∀ n, (Go.Proofs.Dr.steps code n s).1.Perm s.1
  | 0 => by unfold Go.Proofs.Dr.steps; exact List.Perm.refl _
  | n + 1 => by
    have ih := steps_perm h s hl n
    have hlen := (Go.Proofs.Dr.steps_bd h s n).1
    unfold Go.Proofs.Dr.steps
    generalize Go.Proofs.Dr.steps code n s = q at ih hlen
    unfold Go.Proofs.Dr.step
    obtain ⟨a1, a2, _⟩ := Go.Proofs.Dr.pick_bd h 12 q.2
    obtain ⟨b1, b2, _⟩ := Go.Proofs.Dr.pick_bd h 12 (Go.Proofs.Dr.pick code 12 q.2).2
    have a2 := a2 (by omega)
    have b2 := b2 (by omega)
    generalize Go.Proofs.Dr.pick code 12 (Go.Proofs.Dr.pick code 12 q.2).2 = r at b1 b2
    generalize Go.Proofs.Dr.pick code 12 q.2 = p at a1 a2
    exact (swapD_perm (by omega) (by omega)).trans ih
theorem swapped_perm {code : List Int} (h : gU code) {c : List DB} (hl : c.length = 12) : (Go.Proofs.Dr.swapped code c).Perm c := by
  unfold Go.Proofs.Dr.swapped
  exact steps_perm h _ hl _
def PSd (x : List Int × List DB) : Prop := PCd x.1 ∧ Cr x.2
theorem s_P6Swapped : Fz45.S (cl PSd fun x => Go.Proofs.Dr.swapped x.1 x.2) where
  fn := ⟨Try.f35, by kernel_rfl, by decide, by decide⟩
  does := fun avs r hr vs w gh MBb hR => by
    obtain ⟨x, y, h1, h2, rfl⟩ := mkSig_run hr
    obtain ⟨e0, rfl⟩ := Fz45.dec_eq h1
    obtain ⟨hp, rfl⟩ := cl_some h2
    obtain ⟨x, c⟩ := x
    obtain ⟨hp, hc⟩ := hp
    have hc : c.length = 12 := hc
    have hp : PCd x := hp
    have hR : R 2 w ⟨MBb, _⟩ ⟨[.sl 0 [] none, .val (.arr 12 TyB2) c], [some (.dat ⟨e0, .int .u8, x, false, false, none⟩)]⟩ gh ⟨vs.toArray, []⟩ w := hR
    have hsz : vs.length = 2 := by simpa using hR.tm
    match vs, hsz with
    | [v0, v1], _ =>
      have a0 : SlRel [some (.dat ⟨e0, .int .u8, x, false, false, none⟩)] gh 0 [] none v0 := hR.slots 0 (by omega)
      have a1 : v1 = toV (.arr 12 TyB2) c := (hR.slots 1 (by omega)).2.2
      obtain ⟨d1, A1, c1, loc1, q1, rfl, u1, E1⟩ := sl_elems hR a0 (u := .int .u8) (l := x) rfl
      have ec : ∀ {c : List DB}, c.length = 12 → toV (.arr 12 TyB2) c = Value.agg (Go.Proofs.Dr.cellsC c).toArray := fun {c} h => by
        show Value.agg (encV (.arr 12 TyB2) c).toArray = _
        rw [enc_crate h]
      rw [ec hc] at a1
      subst a1
      have hl : (Go.Proofs.Dr.swapped x c).length = 12 := (swapped_perm hp.2 hc).length_eq.trans hc
      have hcall := Go.Proofs.Try.swapped_calls (.slice A1 x.length c1) x c w (elems_rdB u1 E1) (by have := hp.1; omega) hp.2 hc
        (fun w' c i k h1 h2 h3 => by
          have := Sound.valC (W := w') (t := .arr 12 TyB2) s_l03SwappedD (fun _ _ => rfl) (avs := [.val (.arr 12 TyB2) c, .val (.st (.pair (.int .i8) (.int .i8))) ((i : Int), (k : Int))]) (vs := [toV (.arr 12 TyB2) c, .agg #[.int .i8 (i : Int), .int .i8 (k : Int)]]) (All2.cons_iff.2 ⟨⟨rfl, okC h1, rfl⟩, All2.cons_iff.2 ⟨⟨rfl, ⟨trivial, trivial⟩, rfl⟩, All2.nil _⟩⟩) (x := (c, (i : Int), (k : Int))) rfl (cl_eq (show PSwp (c, (i : Int), (k : Int)) from ⟨h1, i, k, rfl, h2, h3⟩)) (go0 rfl _ _)
          rw [ec h1] at this
          refine this.mono fun e w'' ⟨q1, q2⟩ => ⟨?_, q2⟩
          rw [q1]
          exact congrArg Ending.returned (ec (c := Go.Proofs.Dr.swapD c i k) ((Go.Proofs.Dr.swapD_len _ _ _).trans h1)))
      refine hcall.mono fun e w' ⟨he, hb⟩ => ?_
      subst he
      rw [← ec hl]
      have r1 := hR.ret hb (fun h => h.elim) [.val (.arr 12 TyB2) (Go.Proofs.Dr.swapped x c)] [toV (.arr 12 TyB2) (Go.Proofs.Dr.swapped x c)] (All2.cons_iff.2 ⟨⟨rfl, okC hl, rfl⟩, All2.nil _⟩)
      exact ⟨_, _, [.val (.arr 12 TyB2) (Go.Proofs.Dr.swapped x c)], [toV (.arr 12 TyB2) (Go.Proofs.Dr.swapped x c)], r1, rfl, rfl, rfl⟩
theorem s_f6big : Fz26.S (tot fun l => decide (((l.length : Nat) : Int) > 4096)) := Fz26.of_tot fun l k => by
  unfold Fz26.pf
  rfl
theorem s_isPlace : Fz19.S (tot fun n => decide (0 ≤ n) && decide (n ≤ 11)) := Fz19.of_tot s_within fun n k => by
  unfold Fz19.pf
  rw [tot_eq]
  rfl
theorem s_isSwap : Fz20.S (cl PSw fun s => (decide (0 ≤ s.1) && decide (s.1 ≤ 11)) && (decide (0 ≤ s.2) && decide (s.2 ≤ 11))) := Fz20.of_cl s_isPlace fun s ⟨⟨h1, h2⟩, h3, h4⟩ k => by
  unfold Fz20.pf
  rw [w64 (n := s.1) (by omega) (by omega), w64 (n := s.2) (by omega) (by omega), tot_eq, Option.bind_some]
  cases decide (0 ≤ s.1) && decide (s.1 ≤ 11) <;> rfl
theorem s_moveCode : Fz21.S (cl PMd fun _ => 0) := Fz21.of_cl s_isSwap fun x h k => by
  obtain ⟨a, s⟩ := x
  obtain ⟨ha, f, t, e, hf, ht, hft, g1, g2⟩ := h
  have e : s = ((f : Int), (t : Int)) := e
  subst e
  have g1 : a.getD f zB ≠ zB := g1
  have g2 : a.getD t zB = zB := g2
  show Fz21.pf _ BIG a ((f : Int), (t : Int)) k = k 0
  unfold Fz21.pf
  rw [cl_eq (show PSw ((f : Int), (t : Int)) from ⟨⟨by simp only; omega, by simp only; omega⟩, by simp only; omega, by simp only; omega⟩), Option.bind_some]
  simp only [decT (show (0 : Int) ≤ (f : Int) by omega), decT (show (f : Int) ≤ 11 by omega), decT (show (0 : Int) ≤ (t : Int) by omega), decT (show (t : Int) ≤ 11 by omega), Bool.and_self, Bool.not_true, cond_false, inB_nat hf, inB_nat ht, cond_true, Int.toNat_natCast, eqB, decF g1, decT g2]
def PMb (x : List DB × Int × Int) : Prop := PMd x ∧ wC x.1 ∧ crateOk x.1 = true
def vMb (x : List DB × Int × Int) : List DB × Int := (moveS x.1 x.2.1.toNat x.2.2.toNat, 0)
theorem s_spec_MoveBottle : Fz42.S (cl PMb vMb) := Fz42.of_cl s_l01Ok s_l03Moved fun x ⟨h1, h2, h3⟩ k => by
  obtain ⟨a, s⟩ := x
  show Fz42.pf _ _ BIG a s k = k (vMb (a, s))
  unfold Fz42.pf
  rw [cl_eq h2, Option.bind_some, h3, Bool.not_true, cond_false, cl_eq h1, Option.bind_some]
  rfl
theorem s_impl_MoveBottle : Fz12.S (cl PMb vMb) := Fz12.of_cl s_ValidCrate s_moveCode s_swapped fun x ⟨h1, h2, h3⟩ k => by
  obtain ⟨a, s⟩ := x
  show Fz12.pf _ _ _ BIG a s k = k (vMb (a, s))
  unfold Fz12.pf
  rw [cl_eq h2, Option.bind_some, h3, Bool.not_true, cond_false, cl_eq h1, Option.bind_some, bneS, cond_false, cl_eq h1, Option.bind_some]
  rfl
def Chain (b : List DB) : List DB → List (Int × Int) → Prop
  | a, [] => a = b
  | a, m :: ms => PMd (a, m) ∧ a.Perm b ∧ Chain b (moveS a m.1.toNat m.2.toNat) ms
def endMv (a : List DB) (ms : List (Int × Int)) : List DB := ms.foldl (fun c m => moveS c m.1.toNat m.2.toNat) a
theorem chain_end {b : List DB} : ∀ (ms : List (Int × Int)) (a : List DB), Chain b a ms → endMv a ms = b
  | [], a, h => h
  | m :: ms, a, h => chain_end ms _ h.2.2
def PMa (x : List DB × List (Int × Int)) : Prop := wC x.1 ∧ crateOk x.1 = true ∧ (∃ b, Chain b x.1 x.2) ∧ x.2.length ≤ 60
theorem s_MoveAll : Fz11.S (cl PMa fun x => (endMv x.1 x.2, 0)) := Fz11.of_cl s_ValidCrate s_moveCode s_swapped fun x ⟨h1, h2, ⟨b, h3⟩, h4⟩ k => by
  obtain ⟨a, ms⟩ := x
  have h3 : Chain b a ms := h3
  have h4 : ms.length ≤ 60 := h4
  show Fz11.pf _ _ _ BIG a ms k = k (endMv a ms, 0)
  rw [chain_end ms a h3]
  unfold Fz11.pf
  rw [cl_eq h1, Option.bind_some, h2, Bool.not_true, cond_false, decF (show ¬ ((ms.length : Nat) : Int) > 60 by omega), cond_false]
  refine iter_list ms (fun i (c : List DB) => ((i : Int), c)) (fun _ _ => k (b, 0)) (fun i c => Chain b c (ms.drop i)) (c := a) rfl (big_lt (by omega)) h3 ?_ ?_
  · rintro i hi c rec hc hrec
    rw [List.drop_eq_getElem_cons hi] at hc
    obtain ⟨q1, _, q2⟩ := hc
    unfold Fz11.B1
    simp only [Int.toNat_natCast]
    rw [decT (show (i : Int) < ((ms.length : Nat) : Int) by omega), cond_true, inB_nat hi, cond_true, getD_lt hi, cl_eq q1, Option.bind_some, bneS, cond_false, cl_eq q1, Option.bind_some, w64n (by omega)]
    exact hrec _ q2
  · rintro c rec hc
    rw [List.drop_length] at hc
    have hc : c = b := hc
    unfold Fz11.B1
    rw [decF (by simp only; omega), cond_false, hc]
def freeL (a : List DB) : List Int := idxs (fun x => decide (x = (0, 0))) 0 a
theorem s_l01Empty : Fz50.S (cl Cr freeL) := Fz50.of_cl s_l01Free fun a h k => by
  have ha : a.length = 12 := h
  show Fz50.pf _ BIG a k = k (freeL a)
  unfold Fz50.pf
  refine iter_list a (fun i (o : List Int) => ((i : Int), o)) (fun _ _ => k (freeL a)) (fun i o => o = idxs (fun x => decide (x = (0, 0))) 0 (a.take i)) (c := []) rfl (big_lt (by omega)) rfl ?_ ?_
  · rintro i hi o rec rfl hrec
    have hbd := idxs_len (fun x : DB => decide (x = (0, 0))) (a.take i) 0
    rw [List.length_take] at hbd
    have hbd2 : (idxs (fun x : DB => decide (x = (0, 0))) 0 (a.take i)).length + 1 ≤ 4294967296 := by omega
    have e := idxs_snoc (fun x : DB => decide (x = (0, 0))) a[i] (a.take i) 0
    rw [← List.take_succ_eq_append_getElem hi, List.length_take, Nat.min_eq_left (by omega), Nat.zero_add] at e
    unfold Fz50.B1
    simp only [decT (show (i : Int) < 12 by omega), inB_nat (show i < 12 by omega), cond_true, Int.toNat_natCast, getD_lt hi, tot_eq, Option.bind_some, w64n (show i < 9223372036854775807 by omega)]
    by_cases q : a[i] = (0, 0)
    · rw [decT q, if_pos rfl] at e
      rw [decT q, okS (by simp only [List.length_singleton]; exact hbd2)]
      exact hrec _ e.symm
    · rw [decF q, if_neg (by simp), List.append_nil] at e
      rw [decF q]
      exact hrec _ e.symm
  · rintro o rec rfl
    unfold Fz50.B1
    rw [decF (by simp only; omega), List.take_of_length_le (Nat.le_refl _)]
    rfl
def PvC (a : List DB) : Prop := wC a ∧ crateOk a = true
theorem s_FreePlaces : Fz41.S (cl PvC fun a => (freeL a, 0)) := Fz41.of_cl s_l01Ok s_l01Empty fun a ⟨h1, h2⟩ k => by
  show Fz41.pf _ _ BIG a k = k (freeL a, 0)
  unfold Fz41.pf
  rw [cl_eq h1, Option.bind_some, h2, Bool.not_true, cond_false, cl_eq (show Cr a from h1.1), Option.bind_some]
def PDfI (x : List DB × List DB) : Prop := PvC x.1 ∧ PvC x.2
theorem s_DifferIn : Fz40.S (cl PDfI fun x => (differL x.1 x.2, 0)) := Fz40.of_cl s_l01Ok s_l03Differ fun x ⟨⟨h1, h2⟩, h3, h4⟩ k => by
  obtain ⟨a, b⟩ := x
  show Fz40.pf _ _ BIG a b k = k (differL a b, 0)
  unfold Fz40.pf
  rw [cl_eq h1, Option.bind_some, h2, Bool.not_true, cond_false, cl_eq h3, Option.bind_some, h4, Bool.not_true, cond_false, cl_eq (show Cr2 (a, b) from ⟨h1.1, h3.1⟩), Option.bind_some]
theorem eqW8 (a b : DB) : eqV (.st (.pair (.int .i8) (.int .i8))) a b = decide (a = b) := by
  obtain ⟨a1, a2⟩ := a
  obtain ⟨b1, b2⟩ := b
  simp only [eqV]
  by_cases c1 : a1 = b1 <;> by_cases c2 : a2 = b2 <;> simp [c1, c2]
theorem s_SameSwaps : Fz46.S (cl PL1 fun x => decide (x.1 = x.2)) := Fz46.of_cl fun x h k => by
  obtain ⟨a, b⟩ := x
  have h : a.length ≤ 1073741824 := h
  show Fz46.pf BIG a b k = k (decide (a = b))
  unfold Fz46.pf
  by_cases c : a.length = b.length
  · rw [show (((a.length : Nat) : Int) != ((b.length : Nat) : Int)) = false by simp [c], cond_false]
    have hz : (a.zip b).length = a.length := by simp [c]
    rw [iter_first (a.zip b) (fun i => (i : Int)) (fun p => !decide (p.1 = p.2)) (fun _ _ => k false) (k true) (x := 0) rfl (big_lt (by omega)) ?_ ?_, firstOr_const, any_eq a b c]
    · by_cases e : a = b <;> simp [e]
    · intro i hi rec
      have h1 : i < a.length := by omega
      have h2 : i < b.length := by omega
      unfold Fz46.B1
      rw [zip_at hi]
      simp only [decT (show (i : Int) < (a.length : Int) by omega), inB_nat h1, inB_nat h2, cond_true, Int.toNat_natCast, getD_lt h1, getD_lt h2, eqW8, w64n (show i < 9223372036854775807 by omega)]
    · intro rec
      unfold Fz46.B1
      rw [decF (by omega)]
      rfl
  · rw [show (((a.length : Nat) : Int) != ((b.length : Nat) : Int)) = true by simpa using fun q => c (by omega), cond_true]
    rw [decF (fun e => c (by rw [e]))]

def mvs (b : List DB) : Nat → List DB → List (Int × Int)
  | 0, _ => []
  | n + 1, a => if a = b then [] else match hand a b with
    | some (f, t) => ((f : Int), (t : Int)) :: mvs b n (moveS a f t)
    | none => []
theorem movesN_mvs (b : List DB) : ∀ (n : Nat) (a : List DB) (out : List (Int × Int)), movesN b n a out = out ++ mvs b n a
  | 0, a, out => by simp [movesN, mvs]
  | n + 1, a, out => by
    unfold movesN mvs
    split
    · simp
    · cases hand a b with
      | none => simp
      | some q => simp only; rw [movesN_mvs b n]; simp
theorem mvs_ok {b : List DB} : ∀ (n : Nat) (a : List DB), PMv a b → mu a b < n → Chain b a (mvs b n a) ∧ ((mvs b n a).length : Int) + mu b b ≤ mu a b
  | 0, a, h, hm => by have := mu_nn h.1 h.2.1; omega
  | n + 1, a, h, hm => by
    unfold mvs
    by_cases c : a = b
    · rw [if_pos c]
      exact ⟨c, by rw [c]; simp⟩
    · rw [if_neg c]
      obtain ⟨f, t, h1, h2, h3, h4, h5, h6, h7, h8⟩ := hand_ok h c
      obtain ⟨i1, i2⟩ := mvs_ok n (moveS a f t) h8 (by omega)
      rw [h1]
      refine ⟨⟨⟨h.1, f, t, rfl, h2, h3, h4, h5, h6⟩, h.2.2.1, i1⟩, ?_⟩
      simp only [List.length_cons]
      push_cast
      omega
theorem chain_perm {b a : List DB} {ms : List (Int × Int)} (h : Chain b a ms) : a.Perm b := by
  cases ms with
  | nil =>
    have h : a = b := h
    rw [h]
  | cons m ms => exact h.2.1
theorem PvC_perm {a b : List DB} (hp : a.Perm b) (h : PvC b) : PvC a := by
  refine ⟨⟨hp.length_eq.trans h.1.1, fun x hx => h.1.2 x (hp.mem_iff.1 hx)⟩, ?_⟩
  have h2 := h.2
  unfold crateOk at h2 ⊢
  rw [List.all_eq_true] at h2 ⊢
  exact fun x hx => h2 x (hp.mem_iff.1 hx)
theorem sort_perm {a b : List DB} (hp : a.Perm b) : sortB (allB a) = sortB (allB b) :=
  List.Perm.eq_of_pairwise (le := leB) (fun a b _ _ h1 h2 => leB_anti h1 h2) (sortB_sorted _) (sortB_sorted _) ((sortB_perm _).trans ((hp.filter _).trans (sortB_perm _).symm))
theorem same_of {a b : List DB} (hp : a.Perm b) (h : PvC b) : sameBottles a b = (true, 0) := by
  unfold sameBottles
  rw [(PvC_perm hp h).2, h.2, Bool.and_self, if_pos rfl, decT (sort_perm hp)]
theorem idxs_count {β : Type} (p : β → Bool) : ∀ (l : List β) (k : Nat), ((idxs p k l).length : Int) = countI p l
  | [], _ => rfl
  | x :: l, k => by
    have := idxs_count p l (k + 1)
    unfold idxs countI
    cases p x with
    | true => simp only [if_true, cond_true, List.length_cons]; push_cast; omega
    | false => simp only [Bool.false_eq_true, if_false, cond_false]; omega
theorem right_all (b : List DB) : rightN b b = countI (fun x => !decide (x = zB)) b := by
  unfold rightN
  have : ∀ l : List DB, countI pR (l.zip l) = countI (fun x => !decide (x = zB)) l := fun l => by
    induction l with
    | nil => rfl
    | cons x l ih => simp only [List.zip_cons_cons, countI, ih]; unfold pR; simp
  exact this b
theorem right_le : ∀ (l : List (DB × DB)), countI (fun q : DB × DB => !decide (q.2 = zB)) l ≤ countI pR l + countI pNe l
  | [] => by simp [countI]
  | q :: l => by
    have ih := right_le l
    have h : cond (!decide (q.2 = zB)) (1 : Int) 0 ≤ cond (pR q) 1 0 + cond (pNe q) 1 0 := by
      unfold pR pNe
      by_cases c : q.1 = q.2
      · rw [decT c, c]
        cases decide (q.2 = zB) <;> simp
      · rw [decF c]
        cases decide (q.2 = zB) <;> simp
    simp only [countI]
    omega
theorem mvs_len {a b : List DB} (h : PMv a b) : (mvs b 30 a).length ≤ 2 * (differL a b).length ∧ (mvs b 30 a).length ≤ 25 ∧ Chain b a (mvs b 30 a) := by
  obtain ⟨h1, h2⟩ := mvs_ok 30 a h (by have := (mu_le (a := a) (b := b)).2; omega)
  have ha : a.length = 12 := h.1
  have hb : b.length = 12 := h.2.1
  have e1 := right_all b
  have e2 := countI_zip2 (fun x : DB => !decide (x = zB)) a b (by omega)
  have e3 := right_le (a.zip b)
  have e4 := idxs_count pNe (a.zip b) 0
  have e5 : mu b b = 25 - 2 * rightN b b := by
    unfold mu
    have : ((b.zip b).findIdx? pT1) = none := by
      rw [List.findIdx?_eq_none_iff]
      intro q hq
      have : q.1 = q.2 := by
        obtain ⟨i, hi, rfl⟩ := List.mem_iff_getElem.1 hq
        rw [zip_at hi]
      unfold pT1
      rw [this]
      cases decide (q.2 = zB) <;> rfl
    rw [this]
    simp
    omega
  have e6 : mu a b ≤ 25 - 2 * rightN a b := by
    unfold mu
    split <;> omega
  have e7 : rightN a b = countI pR (a.zip b) := rfl
  have e8 : 0 ≤ mu b b := mu_nn h.2.1 h.2.1
  have e9 := (mu_le (a := a) (b := b)).2
  refine ⟨?_, by omega, h1⟩
  show (mvs b 30 a).length ≤ 2 * (idxs pNe 0 (a.zip b)).length
  omega
theorem free_pos {a : List DB} : (0 < ((freeL a).length : Int)) ↔ zB ∈ a := by
  unfold freeL
  rw [idxs_count]
  constructor
  · intro h
    refine Classical.byContradiction fun c => ?_
    have : countI (fun x : DB => decide (x = (0, 0))) a = 0 := by
      have : ∀ l : List DB, (∀ x, x ∈ l → x ≠ zB) → countI (fun x : DB => decide (x = (0, 0))) l = 0 := fun l => by
        induction l with
        | nil => intro _; rfl
        | cons x l ih =>
          intro hl
          simp only [countI]
          rw [ih (fun y hy => hl y (List.mem_cons_of_mem _ hy)), decF (hl x List.mem_cons_self)]
          rfl
      exact this a (fun x hx q => c (q ▸ hx))
    exact absurd h (Int.not_lt.2 (Int.le_of_eq this))
  · intro h
    have : ∀ l : List DB, zB ∈ l → 0 < countI (fun x : DB => decide (x = (0, 0))) l := fun l => by
      induction l with
      | nil => intro q; cases q
      | cons x l ih =>
        intro hl
        simp only [countI]
        have := (countI_le (fun x : DB => decide (x = (0, 0))) l).1
        rcases List.mem_cons.1 hl with e | e
        · rw [decT e.symm]; simp only [cond_true]; omega
        · have := ih e
          cases decide (x = (0, 0)) <;> simp only [cond_true, cond_false] <;> omega
    exact this a h
theorem moves_law {α : Type} {a b : List DB} (ha : PvC a) (hb : PvC b) (hm : PMv a b) (x0 x1 : List Int) (k : Bool → Option α) (ms : List (Int × Int)) (hc : Chain b a ms) (hl : ms.length ≤ 25) (hl2 : ms.length ≤ 2 * (differL a b).length)
    (K0 K1 K2 K3 K4 : (Int × (List (Int × Int))) → ((List (Int × Int)) × Int) → ((List (Int × Int)) × Int) → (Bool × Int) → Option α) :
    iter (laws_FnMoved.B1 (cl PMb vMb) (cl PMb vMb) (cl wC2 fun x => sameBottles x.1 x.2) x0 x1 a b ms K0 K1 K2 K3 K4 (fun (x1 : Int × List (Int × Int)) => (cl PDfI (fun x => (differL x.1 x.2, (0 : Int))) (a, b)).bind fun r10 => cond (r10.2 == (0 : Int)) (cond (eqV (.arr 12 (.st (.pair (.int .u8) (.int .i16)))) x1.2 b) (k (decide (((ms.length : Nat) : Int) ≤ IntKind.i64.wrap (2 * ((r10.1.length : Nat) : Int))))) (k false)) (k false))) BIG (0, a) = k true := by
  refine iter_list ms (fun i (c : List DB) => ((i : Int), c)) (fun _ _ => k true) (fun i c => Chain b c (ms.drop i)) (c := a) rfl (big_lt (by omega)) hc ?_ ?_
  · rintro i hi c rec hcc hrec
    rw [List.drop_eq_getElem_cons hi] at hcc
    obtain ⟨q1, q2, q3⟩ := hcc
    have pc := PvC_perm q2 hb
    have pm := chain_perm q3
    have pa : (moveS c ms[i].1.toNat ms[i].2.toNat).Perm a := pm.trans hm.2.2.1.symm
    have pv := PvC_perm pm hb
    have pb : PMb (c, ms[i]) := ⟨q1, pc.1, pc.2⟩
    unfold laws_FnMoved.B1
    simp only [Int.toNat_natCast]
    rw [decT (show (i : Int) < ((ms.length : Nat) : Int) by omega), cond_true, inB_nat hi, cond_true, getD_lt hi, cl_eq pb, Option.bind_some, cond_true, Option.bind_some]
    unfold vMb
    simp only
    rw [cl_eq (show wC2 (moveS c ms[i].1.toNat ms[i].2.toNat, a) from ⟨pv.1, ha.1⟩), Option.bind_some]
    simp only
    rw [same_of pa ha, bneS, cond_false, eqC pv.1.1 pv.1.1, decT rfl, w64n (by omega)]
    exact hrec _ q3
  · rintro c rec hcc
    rw [List.drop_length] at hcc
    have hcc : c = b := hcc
    subst hcc
    have h12 := (differL_ok ha.1.1 hb.1.1).1
    unfold laws_FnMoved.B1
    rw [decF (by simp only; omega), cond_false]
    simp only
    rw [cl_eq (show PDfI (a, c) from ⟨ha, hb⟩), Option.bind_some]
    simp only
    rw [eqC hb.1.1 hb.1.1, decT rfl, w64 (by omega) (by omega), decT (show ((ms.length : Nat) : Int) ≤ 2 * (((differL a c).length : Nat) : Int) by omega)]
    rfl
theorem s_law_FnMoved : laws_FnMoved.S (cl (fun x => gU x.1 ∧ gU x.2) fun _ => true) := laws_FnMoved.of_cl s_f6big s_P6Crate s_P6Swapped s_impl_MovesFor s_spec_MovesFor s_FreePlaces s_SameSwaps s_MoveAll s_impl_MoveBottle s_spec_MoveBottle s_impl_SameBottles s_DifferIn fun x ⟨h1, h2⟩ k => by
  obtain ⟨x0, x1⟩ := x
  have h1 : gU x0 := h1
  have h2 : gU x1 := h2
  show laws_FnMoved.pf _ _ _ _ _ _ _ _ _ _ _ _ BIG x0 x1 k = k true
  unfold laws_FnMoved.pf
  rw [tot_eq, Option.bind_some]
  by_cases l0 : ((x0.length : Nat) : Int) > 4096
  · rw [decT l0, cond_true]
  rw [decF l0, cond_false, tot_eq, Option.bind_some]
  by_cases l1 : ((x1.length : Nat) : Int) > 4096
  · rw [decT l1, cond_true]
  have ha := drawn_ok h1
  rw [decF l1, cond_false, cl_eq (show PCd x0 from ⟨by omega, h1⟩), Option.bind_some]
  generalize drawnC x0 = a at ha
  have ha : PvC a := ha
  rw [cl_eq (show PSd (x1, a) from ⟨⟨by show x1.length ≤ 4096; omega, h2⟩, ha.1.1⟩), Option.bind_some]
  simp only
  have hp := swapped_perm h2 (show a.length = 12 from ha.1.1)
  generalize Go.Proofs.Dr.swapped x1 a = b at hp
  have hb : PvC b := PvC_perm hp ha
  have hw : wC2 (a, b) := ⟨ha.1, hb.1⟩
  rw [cl_eq hw, Option.bind_some, Option.bind_some, cl_eq ha, Option.bind_some]
  simp only
  have hlm := movesFor_len a b
  rw [bneS, cond_false, cl_eq (show PL1 ((movesFor a b).1, (movesFor a b).1) by unfold PL1; simp only; omega), Option.bind_some, decT rfl, Bool.not_true, cond_false, bneS, cond_false, eqC ha.1.1 hb.1.1]
  have em : movesFor a b = if a ≠ b ∧ (a.any fun x => decide (x = zB)) = false then ([], 6) else (mvs b 30 a, 0) := by
    unfold movesFor
    rw [ha.2, hb.2, Bool.and_self, if_pos rfl, if_pos (sort_perm hp.symm), movesN_mvs, List.nil_append]
  by_cases e : a = b
  · have pmv : PMv a b := ⟨ha.1.1, hb.1.1, hp.symm, .inl e⟩
    obtain ⟨c1, c2, c3⟩ := mvs_len pmv
    rw [em, if_neg (fun q => q.1 e), decT e, cond_true]
    simp only
    rw [show ((0 : Int) == 0) = true from rfl, show ((true : Bool) == true) = true from rfl, Bool.not_true, cond_false, bneS, cond_false]
    have pma : PMa (a, mvs b 30 a) := ⟨ha.1, ha.2, ⟨b, c3⟩, by show (mvs b 30 a).length ≤ 60; omega⟩
    rw [cl_eq pma, Option.bind_some]
    simp only
    rw [chain_end _ _ c3, bneS, cond_false, eqC hb.1.1 hb.1.1, decT rfl, Bool.not_true, cond_false]
    exact moves_law ha hb pmv x0 x1 k (mvs b 30 a) c3 c2 c1 _ _ _ _ _
  · rw [decF e, cond_false]
    by_cases z : zB ∈ a
    · have pmv : PMv a b := ⟨ha.1.1, hb.1.1, hp.symm, .inr z⟩
      obtain ⟨c1, c2, c3⟩ := mvs_len pmv
      have zf : ¬ (a ≠ b ∧ (a.any fun x => decide (x = zB)) = false) := fun q => by
        have h : (a.any fun x => decide (x = zB)) = true := List.any_eq_true.2 ⟨zB, z, decT rfl⟩
        rw [h] at q
        cases q.2
      rw [em, if_neg zf, decT (show ((freeL a).length : Int) > 0 from free_pos.2 z)]
      simp only
      rw [show ((0 : Int) == 0) = true from rfl, show ((true : Bool) == true) = true from rfl, Bool.not_true, cond_false, bneS, cond_false]
      have pma : PMa (a, mvs b 30 a) := ⟨ha.1, ha.2, ⟨b, c3⟩, by show (mvs b 30 a).length ≤ 60; omega⟩
      rw [cl_eq pma, Option.bind_some]
      simp only
      rw [chain_end _ _ c3, bneS, cond_false, eqC hb.1.1 hb.1.1, decT rfl, Bool.not_true, cond_false]
      exact moves_law ha hb pmv x0 x1 k (mvs b 30 a) c3 c2 c1 _ _ _ _ _
    · have zf : a ≠ b ∧ (a.any fun x => decide (x = zB)) = false := ⟨e, by
        cases q : (a.any fun x => decide (x = zB)) with
        | true => exact absurd (any_z q) z
        | false => rfl⟩
      rw [em, if_pos zf, decF (fun q => z (free_pos.1 q))]
      rfl
end Go.Proofs.Ytlipfbihlmlplaa.G
