/- Plain proofs: what the functions answer, in plain lists and numbers. -/
import Derived.Test.YtjajlmaldeoobaaRd0
import Derived.Test.YtjajlmaldeoobaaRd1
import Derived.Test.YtjajlmaldeoobaaRd2
namespace Go.Proofs.Ytjajlmaldeoobaa.G
open Go
set_option linter.unusedVariables false
set_option linter.unusedSimpArgs false
set_option maxRecDepth 10000
abbrev DB := Int × Int
abbrev DS := DB × Int
theorem s_toBottle : Fz15.S (tot fun x => x) := Fz15.of_tot fun x k => rfl
/-- A copy, element by element. -/
theorem copied {β : Type} {l o : List β} {k : Nat} {d : β} (h : k < l.length) (ho : o.length = l.length) (hp : o.take k = l.take k) : (o.set k l[k]).take (k + 1) = l.take (k + 1) ∧ (o.set k l[k]).length = l.length := by
  refine ⟨?_, by simpa using ho⟩
  rw [List.take_succ_eq_append_getElem (by simpa [ho] using h), List.take_succ_eq_append_getElem h, List.take_set_of_le (Nat.le_refl k), hp]
  simp
theorem eqB (a b : DB) : eqV (.st (.pair (.int .u8) (.int .i16))) a b = decide (a = b) := by
  obtain ⟨a1, a2⟩ := a
  obtain ⟨b1, b2⟩ := b
  simp only [eqV]
  rw [Bool.eq_iff_iff]
  simp
/-- Lists of one length are alike where no pair of elements differs. -/
theorem any_eq {β : Type} [DecidableEq β] : ∀ (a b : List β), a.length = b.length → (a.zip b).any (fun p => !decide (p.1 = p.2)) = !decide (a = b)
  | [], [], _ => by simp
  | [], _ :: _, h => by simp at h
  | _ :: _, [], h => by simp at h
  | x :: a, y :: b, h => by
    rw [List.zip_cons_cons, List.any_cons, any_eq a b (by simpa using h)]
    by_cases c : x = y <;> by_cases c2 : a = b <;> simp [c, c2]
theorem zip_at {β γ : Type} {a : List β} {b : List γ} {k : Nat} (h : k < (a.zip b).length) : (a.zip b)[k] = (a[k]'(by simp at h; omega), b[k]'(by simp at h; omega)) := by simp
theorem take_set {β : Type} {l : List β} {k : Nat} {x : β} (h : k < l.length) : (l.set k x).take (k + 1) = l.take k ++ [x] := by
  rw [List.take_succ_eq_append_getElem (by simpa using h), List.take_set_of_le (Nat.le_refl k)]
  simp
theorem zip_len {β γ : Type} {a : List β} {b : List γ} (h : a.length = b.length) : (a.zip b).length = a.length := by simp [h]
def validB (b : DB) : Bool := decide (1 ≤ b.1) && decide (b.1 ≤ 20) && (decide (1900 ≤ b.2) && decide (b.2 ≤ 2099))
/-- Whole numbers of their kinds. -/
def wB (b : DB) : Prop := 0 ≤ b.1 ∧ b.1 ≤ 255 ∧ -32768 ≤ b.2 ∧ b.2 ≤ 32767
theorem s_l00In : spec_l00In.S (tot fun x => decide (x.2.1 ≤ x.1) && decide (x.1 ≤ x.2.2)) := spec_l00In.of_tot fun x k => by
  unfold spec_l00In.pf
  by_cases c : x.2.1 ≤ x.1
  · rw [decT (show x.1 ≥ x.2.1 from c)]; rfl
  · rw [decF (show ¬ x.1 ≥ x.2.1 from c)]; rfl
theorem s_within : Fz13.S (tot fun x => decide (x.2.1 ≤ x.1) && decide (x.1 ≤ x.2.2)) := Fz13.of_tot fun x k => by
  unfold Fz13.pf
  by_cases c : x.2.1 ≤ x.1
  · rw [decT c]; rfl
  · rw [decF c]; rfl
theorem s_l01Bottle : Fz32.S (cl wB validB) := Fz32.of_cl s_l00In fun x ⟨h1, h2, h3, h4⟩ k => by
  unfold Fz32.pf validB
  simp only [tot_eq, Option.bind_some, w64 (n := x.1) (by omega) (by omega), w64 (n := x.2) (by omega) (by omega)]
  cases decide (1 ≤ x.1) && decide (x.1 ≤ 20) <;> rfl
theorem s_ValidBottle : Fz9.S (cl wB validB) := Fz9.of_cl s_within fun x ⟨h1, h2, h3, h4⟩ k => by
  unfold Fz9.pf validB
  simp only [tot_eq, Option.bind_some, w64 (n := x.1) (by omega) (by omega), w64 (n := x.2) (by omega) (by omega)]
  cases decide (1 ≤ x.1) && decide (x.1 ≤ 20) <;> rfl
theorem any_not {β : Type} (l : List β) (p : β → Bool) : (l.any fun x => !p x) = !l.all p := by
  induction l with
  | nil => rfl
  | cons x l ih => rw [List.any_cons, List.all_cons, ih, Bool.not_and]
/-- Where the first one is. -/
def indexI {β : Type} (p : β → Bool) (l : List β) : Int := match l.findIdx? p with
  | some i => i
  | none => -1
theorem firstOr_index {α β : Type} (p : β → Bool) (k : Int → Option α) : ∀ (l : List β) (j : Nat), firstOr p (fun i _ => k (i : Int)) (k (-1)) j l = k (match l.findIdx? p with | some i => ((j + i : Nat) : Int) | none => -1)
  | [], _ => rfl
  | x :: l, j => by
    rw [firstOr, List.findIdx?_cons]
    cases p x with
    | true => simp
    | false =>
      rw [cond_false, firstOr_index p k l]
      cases l.findIdx? p with
      | none => rfl
      | some i => simp [Nat.add_assoc, Nat.add_comm 1 i]
theorem indexI_nn {β : Type} (p : β → Bool) (l : List β) : decide (indexI p l ≥ 0) = l.any p := by
  unfold indexI
  cases h : l.findIdx? p with
  | none =>
    have := List.findIdx?_eq_none_iff.1 h
    simp only
    rw [decF (by omega)]
    symm
    rw [List.any_eq_false]
    intro x hx
    simpa using this x hx
  | some i =>
    simp only
    rw [decT (by omega)]
    symm
    obtain ⟨hi, hp, _⟩ := List.findIdx?_eq_some_iff_getElem.1 h
    exact List.any_eq_true.2 ⟨_, List.getElem_mem hi, hp⟩
theorem good_B {b : DB} (h : goodV (.st (.pair (.int .u8) (.int .i16))) b) : wB b := by
  obtain ⟨h1, h2⟩ := h
  simp only [goodV, Lit.wf, IntKind.min, IntKind.max, IntKind.bits, IntKind.signed] at h1 h2
  simp at h1 h2
  unfold wB
  omega
theorem bneS (a : Int) : (a != a) = false := by simp
theorem okS {n : Nat} (h : n ≤ 4294967296) : okL n = true := okL_true h
/-- Few lanes, each of them short. -/
def Few (o : List (List DS)) : Prop := o.length ≤ 8 ∧ ∀ x, x ∈ o → x.length ≤ 6
theorem Few.set {o : List (List DS)} (h : Few o) {n : Nat} {x : List DS} (hx : x.length ≤ 6) : Few (o.set n x) := ⟨by rw [List.length_set]; exact h.1, fun y hy => by
  rcases List.mem_or_eq_of_mem_set hy with q | rfl
  · exact h.2 y q
  · exact hx⟩
/-- What is left of some when those are gone that a test tells, and what lies behind it. -/
def keptOf {β : Type} (d : β) (p : β → Bool) (l : List β) : Option (Nat × Nat) × List β :=
  if l.any p = true then (some (0, (l.filter fun x => !p x).length), (l.filter fun x => !p x) ++ List.replicate (l.length - (l.filter fun x => !p x).length) d) else (none, l)
theorem kept_cut {β : Type} (d : β) (p : β → Bool) (l : List β) : Win.cut (keptOf d p l).1 (keptOf d p l).2 = l.filter fun x => !p x := by
  unfold keptOf
  by_cases c : l.any p = true
  · rw [if_pos c]
    simp [Win.cut]
  · rw [if_neg c]
    symm
    show l.filter _ = l
    rw [List.filter_eq_self]
    intro x hx
    simp only [List.any_eq_true, not_exists, not_and, Bool.not_eq_true] at c
    simp [c x hx]
def wBs (l : List DB) : Prop := l.length ≤ 1073741824 ∧ ∀ b, b ∈ l → wB b
/-- All that lies in a rack. -/
def AllIn (Q : DS → Prop) (o : List (List DS)) : Prop := ∀ l, l ∈ o → ∀ s, s ∈ l → Q s
theorem AllIn.set {Q : DS → Prop} {o : List (List DS)} (h : AllIn Q o) {n : Nat} {x : List DS} (hx : ∀ s, s ∈ x → Q s) : AllIn Q (o.set n x) := fun l hl s hs => by
  rcases List.mem_or_eq_of_mem_set hl with q | rfl
  · exact h l q s hs
  · exact hx s hs
/-- A crate: twelve places. -/
def Cr (c : List DB) : Prop := c.length = 12
theorem s_toCrate : Fz16.S (cl Cr fun c => c) := Fz16.of_cl s_toBottle fun l h k => by
  have h : l.length = 12 := h
  unfold Fz16.pf
  refine (iter_list (B := Fz16.B1 (tot fun x => x) l (List.replicate 12 (0, 0)) fun x1 => k x1.2) l (fun i (c : List DB) => ((i : Int), c)) (fun _ _ => k l) (fun i c => c.length = l.length ∧ c.take i = l.take i) (c := List.replicate 12 (0, 0)) (by simp) (big_lt (by omega)) (by simp [h]) ?_ ?_)
  · rintro i hi c rec ⟨h1, h2⟩ hrec
    unfold Fz16.B1
    simp only [decT (show (i : Int) < 12 by omega), inB_nat (show i < 12 by omega), cond_true, Int.toNat_natCast, getD_lt hi, tot_eq, Option.bind_some, w64n (show i < 9223372036854775807 by omega)]
    have := copied (d := ((0, 0) : DB)) hi h1 h2
    exact hrec _ ⟨this.2, this.1⟩
  · rintro c rec ⟨h1, h2⟩
    unfold Fz16.B1
    rw [decF (by simp only; omega)]
    rw [List.take_of_length_le (by omega), List.take_of_length_le (Nat.le_refl _)] at h2
    simp only [cond_false, h2]
def Cr2 (x : List DB × List DB) : Prop := Cr x.1 ∧ Cr x.2
theorem s_cloneB : Fz19.S (cl PL fun l => l) := Fz19.of_cl fun l h k => by
  have h : l.length ≤ 1073741824 := h
  unfold Fz19.pf
  simp only [List.nil_append, List.length_nil]
  rw [okS (by omega)]
  cases l with
  | nil => exact both_same _
  | cons x l => rfl

theorem s_l01Free : Fz33.S (tot fun b => decide (b = (0, 0))) := Fz33.of_tot fun b k => by
  unfold Fz33.pf
  rw [eqB]
def okB (b : DB) : Bool := decide (b = (0, 0)) || validB b
def crateOk (c : List DB) : Bool := c.all okB
def wC (c : List DB) : Prop := c.length = 12 ∧ ∀ b, b ∈ c → wB b
theorem s_l01Ok : spec_l01Ok.S (cl wC crateOk) := spec_l01Ok.of_cl s_l01Free s_l01Bottle fun c h k => by
  obtain ⟨hl, hw⟩ := h
  unfold spec_l01Ok.pf
  rw [iter_first c (fun i => (i : Int)) (fun b => !okB b) (fun _ _ => k false) (k true) (x := 0) rfl (big_lt (by omega)) ?_ ?_, firstOr_const, any_not]
  · unfold crateOk
    cases c.all okB <;> rfl
  · intro i hi rec
    unfold spec_l01Ok.B1
    simp only [decT (show (i : Int) < 12 by omega), inB_nat (show i < 12 by omega), cond_true, Int.toNat_natCast, getD_lt hi, tot_eq, cl_eq (hw _ (List.getElem_mem hi)), Option.bind_some, w64n (show i < 9223372036854775807 by omega), okB]
    cases decide (c[i] = (0, 0)) <;> cases validB c[i] <;> rfl
  · intro rec
    unfold spec_l01Ok.B1
    rw [decF (by omega)]
    rfl
theorem s_ValidCrate_1 : Fz11.S (cl wB fun s => !okB s) := Fz11.of_cl s_ValidBottle fun x h k => by
  unfold Fz11.pf okB
  rw [eqB]
  by_cases c : x = (0, 0)
  · rw [decT c]; rfl
  · rw [decF c, cl_eq h]; rfl
theorem s_index_vc : Fz24.S (cl wBs fun l => indexI (fun s => !okB s) l) := Fz24.of_cl s_ValidCrate_1 fun x h k => by
  have hl : x.length ≤ 1073741824 := h.1
  unfold Fz24.pf
  rw [iter_first x (fun i => (i : Int)) (fun s => !okB s) (fun i _ => k (i : Int)) (k (-1)) (x := 0) rfl (big_lt (by omega)) ?_ ?_, firstOr_index]
  · unfold indexI
    congr 1
    cases x.findIdx? (fun s => !okB s) <;> simp
  · intro i hi rec
    unfold Fz24.B1
    simp only [decT (show (i : Int) < (x.length : Int) by omega), inB_nat hi, cond_true, Int.toNat_natCast, getD_lt hi, cl_eq (h.2 _ (List.getElem_mem hi)), Option.bind_some, w64n (show i < 9223372036854775807 by omega)]
  · intro rec
    unfold Fz24.B1
    rw [decF (by omega)]
    rfl
theorem s_contains_vc : Fz20.S (cl wBs fun l => l.any (fun s => !okB s)) := Fz20.of_cl s_index_vc fun x h k => by
  unfold Fz20.pf
  rw [cl_eq h, Option.bind_some, indexI_nn]
theorem wC.bs {c : List DB} (h : wC c) : wBs c := ⟨by have := h.1; omega, h.2⟩
theorem s_ValidCrate : Fz10.S (cl wC crateOk) := Fz10.of_cl s_contains_vc fun x h k => by
  unfold Fz10.pf crateOk
  rw [cl_eq h.bs, Option.bind_some, any_not, Bool.not_not]
theorem s_bottles_1 : Fz6.S (tot fun b => decide (b = (0, 0))) := Fz6.of_tot fun x k => by
  unfold Fz6.pf
  rw [eqB]
theorem s_index_cb : Fz23.S (cl PL fun l => indexI (fun b => decide (b = (0, 0))) l) := Fz23.of_cl s_bottles_1 fun x h k => by
  have hl : x.length ≤ 1073741824 := h
  unfold Fz23.pf
  rw [iter_first x (fun i => (i : Int)) (fun b => decide (b = (0, 0))) (fun i _ => k (i : Int)) (k (-1)) (x := 0) rfl (big_lt (by omega)) ?_ ?_, firstOr_index]
  · unfold indexI
    congr 1
    cases x.findIdx? (fun b => decide (b = (0, 0))) <;> simp
  · intro i hi rec
    unfold Fz23.B1
    simp only [decT (show (i : Int) < (x.length : Int) by omega), inB_nat hi, cond_true, Int.toNat_natCast, getD_lt hi, tot_eq, Option.bind_some, w64n (show i < 9223372036854775807 by omega)]
  · intro rec
    unfold Fz23.B1
    rw [decF (by omega)]
    rfl
theorem s_delete_cb : Fz21.S (cl PL fun l => keptOf (0, 0) (fun b => decide (b = (0, 0))) l) := Fz21.of_cl s_index_cb s_bottles_1 fun l h k => by
  have hl : l.length ≤ 1073741824 := h
  show Fz21.pf _ _ BIG l k = k (keptOf (0, 0) (fun b => decide (b = (0, 0))) l)
  unfold Fz21.pf
  rw [cl_eq h, Option.bind_some]
  generalize hp : (fun b : DB => decide (b = (0, 0))) = p
  unfold indexI keptOf
  cases hf : l.findIdx? p with
  | none =>
    have := List.findIdx?_eq_none_iff.1 hf
    rw [if_neg (by simpa using this)]
    rfl
  | some i =>
    obtain ⟨hi, hpi, hbef⟩ := List.findIdx?_eq_some_iff_getElem.1 hf
    rw [if_pos (List.any_eq_true.2 ⟨_, List.getElem_mem hi, hpi⟩)]
    simp only
    rw [beqF (by omega), cond_false, w64n (by omega)]
    have h0 : (l.take i).filter (fun x => !p x) = l.take i := by
      rw [List.filter_eq_self]
      intro x hx
      obtain ⟨j, hj, rfl⟩ := List.mem_iff_getElem.1 hx
      have hj' : j < i := by simp at hj; omega
      have := hbef j hj'
      simpa using this
    have h1 : (l.take (i + 1)).filter (fun x => !p x) = l.take i := by
      rw [List.take_succ_eq_append_getElem hi, List.filter_append, h0]
      simp [hpi]
    have := iter_fold (B := Fz21.B1 (tot p) fun (x1 : Int × Int × List DB) => cond (inW x1.1 (((List.length x1.2.2) : Nat) : Int) (List.length x1.2.2)) (cond (inW 0 x1.1 (List.length (overL x1.2.2 x1.1.toNat (List.replicate ((((List.length x1.2.2) : Nat) : Int) - x1.1).toNat (0, 0))))) (k ((some (0, (x1.1 - 0).toNat)), (overL x1.2.2 x1.1.toNat (List.replicate ((((List.length x1.2.2) : Nat) : Int) - x1.1).toNat (0, 0))))) none) none)
      l (fun j (c : List DB) => ((((l.take j).filter fun x => !p x).length : Int), (j : Int), c)) (fun _ _ => k (some (0, (l.filter fun x => !p x).length), (l.filter fun x => !p x) ++ List.replicate (l.length - (l.filter fun x => !p x).length) (0, 0))) (fun j c => c.length = l.length ∧ c.drop j = l.drop j ∧ c.take ((l.take j).filter fun x => !p x).length = (l.take j).filter fun x => !p x) ?_ ?_ (l.length - (i + 1)) (i + 1) l BIG (by omega) (big_lt (by omega)) ⟨rfl, rfl, by rw [h1]; simp⟩
    · rw [h1, List.length_take, Nat.min_eq_left (by omega)] at this
      exact this
    · rintro j hj c rec ⟨e1, e2, e3⟩ hrec
      have hjc : j < c.length := by omega
      have hcj : c[j] = l[j] := by
        have := congrArg (fun z => z[0]?) e2
        simpa [hjc, hj] using this
      have hm : ((l.take j).filter fun x => !p x).length ≤ j := by
        have := List.length_filter_le (fun x => !p x) (l.take j)
        rw [List.length_take] at this
        omega
      have ht : (l.take (j + 1)).filter (fun x => !p x) = (l.take j).filter (fun x => !p x) ++ if p l[j] = true then [] else [l[j]] := by
        rw [List.take_succ_eq_append_getElem hj, List.filter_append]
        cases hq : p l[j] <;> simp [hq]
      unfold Fz21.B1
      simp only [e1, decT (show (j : Int) < (l.length : Int) by omega), inB_nat hj, cond_true, Int.toNat_natCast, getD_lt hjc, hcj, tot_eq, Option.bind_some, w64n (show j < 9223372036854775807 by omega)]
      cases hq : p l[j] with
      | true =>
        rw [hq, if_pos rfl, List.append_nil] at ht
        have := hrec c ⟨e1, by
          have := congrArg (List.drop 1) e2
          simpa [List.drop_drop, Nat.add_comm] using this, by rw [ht]; exact e3⟩
        rw [ht] at this
        exact this
      | false =>
        rw [hq] at ht
        simp only [Bool.false_eq_true, if_false] at ht
        have hlen : ((l.take (j + 1)).filter fun x => !p x).length = ((l.take j).filter fun x => !p x).length + 1 := by rw [ht]; simp
        have hmc : ((l.take j).filter fun x => !p x).length < c.length := by omega
        have := hrec (c.set ((l.take j).filter fun x => !p x).length l[j]) ⟨by simpa using e1, by
          rw [List.drop_set_of_lt (by omega)]
          have := congrArg (List.drop 1) e2
          simpa [List.drop_drop, Nat.add_comm] using this, by
          rw [hlen, take_set hmc, e3, ht]⟩
        rw [hlen] at this
        simp only [Bool.not_false, cond_true, inB_nat (show ((l.take j).filter fun x => !p x).length < l.length by omega), w64n (show ((l.take j).filter fun x => !p x).length < 9223372036854775807 by omega)]
        exact this
    · rintro c rec ⟨e1, e2, e3⟩
      have eT : l.take l.length = l := List.take_of_length_le (Nat.le_refl _)
      rw [eT] at e3
      simp only [eT]
      have hm := List.length_filter_le (fun x => !p x) l
      unfold Fz21.B1
      rw [decF (by simp only; omega)]
      simp only [cond_false, e1]
      rw [inW_true (by omega) (by omega) (by omega), cond_true]
      have e4 : overL c (((l.filter fun x => !p x).length : Nat) : Int).toNat (List.replicate ((((l.length : Nat) : Int)) - (((l.filter fun x => !p x).length : Nat) : Int)).toNat (0, 0)) = (l.filter fun x => !p x) ++ List.replicate (l.length - (l.filter fun x => !p x).length) (0, 0) := by
        unfold overL
        rw [Int.toNat_natCast, e3, List.drop_eq_nil_of_le (by simp; omega), List.append_nil]
        congr 2
        omega
      rw [e4, inW_true (by omega) (by omega) (by simp; omega), cond_true]
      congr 3
theorem s_crateBottles : Fz5.S (cl Cr fun c => c.filter fun b => !decide (b = (0, 0))) := Fz5.of_cl s_cloneB s_delete_cb fun c h k => by
  have hl : c.length = 12 := h
  have hp : PL c := by unfold PL; omega
  unfold Fz5.pf
  rw [cl_eq hp, Option.bind_some, cl_eq hp, Option.bind_some, kept_cut]
def bLt (x y : DB) : Bool := decide (x.1 < y.1) || (decide (x.1 = y.1) && decide (x.2 < y.2))
def cmpB (x : DB × DB) : Int := if x.1.1 < x.2.1 then -1 else if x.1.1 > x.2.1 then 1 else if x.1.2 < x.2.2 then -1 else if x.1.2 > x.2.2 then 1 else 0
theorem cmpB_lt (x y : DB) : decide (cmpB (x, y) < 0) = bLt x y := by
  obtain ⟨x1, x2⟩ := x
  obtain ⟨y1, y2⟩ := y
  unfold cmpB bLt
  simp only
  by_cases h1 : x1 < y1
  · simp [h1]
  · by_cases h2 : x1 > y1
    · simp [h1, h2]; omega
    · have : x1 = y1 := by omega
      subst this
      by_cases h3 : x2 < y2
      · simp [h3]
      · by_cases h4 : x2 > y2
        · simp [h3, h4]
        · simp [h3, h4]
theorem s_spec_Compare : Fz28.S (tot cmpB) := Fz28.of_tot fun x k => by
  obtain ⟨⟨x1, x2⟩, y1, y2⟩ := x
  unfold Fz28.pf cmpB
  simp only
  by_cases h1 : x1 < y1
  · rw [decT h1, if_pos h1]; rfl
  · rw [decF h1, if_neg h1]
    by_cases h2 : x1 > y1
    · rw [decT h2, if_pos h2]; rfl
    · rw [decF h2, if_neg h2]
      by_cases h3 : x2 < y2
      · rw [decT h3, if_pos h3]; rfl
      · rw [decF h3, if_neg h3]
        by_cases h4 : x2 > y2
        · rw [decT h4, if_pos h4]; rfl
        · rw [decF h4, if_neg h4]; rfl
def cmpI (x : Int × Int) : Int := if x.1 < x.2 then -1 else if x.1 > x.2 then 1 else 0
theorem s_isNaN8 : Fz4.S (tot fun _ => false) := Fz4.of_tot fun x k => by unfold Fz4.pf; rw [bneF rfl]
theorem s_isNaN16 : Fz3.S (tot fun _ => false) := Fz3.of_tot fun x k => by unfold Fz3.pf; rw [bneF rfl]
theorem s_cmp8 : Fz1.S (tot cmpI) := Fz1.of_tot s_isNaN8 fun x k => by
  obtain ⟨x, y⟩ := x
  unfold Fz1.pf cmpI
  simp only [tot_eq, Option.bind_some, cond_false]
  by_cases h1 : x < y
  · rw [decT h1, if_pos h1]; rfl
  · rw [decF h1, if_neg h1]
    by_cases h2 : x > y
    · rw [decT h2, if_pos h2]; rfl
    · rw [decF h2, if_neg h2]; rfl
theorem s_cmp16 : Fz0.S (tot cmpI) := Fz0.of_tot s_isNaN16 fun x k => by
  obtain ⟨x, y⟩ := x
  unfold Fz0.pf cmpI
  simp only [tot_eq, Option.bind_some, cond_false]
  by_cases h1 : x < y
  · rw [decT h1, if_pos h1]; rfl
  · rw [decF h1, if_neg h1]
    by_cases h2 : x > y
    · rw [decT h2, if_pos h2]; rfl
    · rw [decF h2, if_neg h2]; rfl
def orL (l : List Int) : Int := (l.find? fun x => x != 0).getD 0
theorem firstOr_find {α : Type} (k : Int → Option α) : ∀ (l : List Int) (j : Nat), firstOr (fun x => x != 0) (fun _ x => k x) (k 0) j l = k (orL l)
  | [], _ => rfl
  | x :: l, j => by
    rw [firstOr, firstOr_find k l]
    unfold orL
    rw [List.find?_cons]
    cases hx : x != 0 <;> rfl
theorem s_cmpOr : cmp_Or_int.S (cl PL orL) := cmp_Or_int.of_cl fun l h k => by
  have h : l.length ≤ 1073741824 := h
  unfold cmp_Or_int.pf
  rw [iter_first l (fun i => (i : Int)) (fun x => x != 0) (fun _ x => k x) (k 0) (x := 0) rfl (big_lt (by omega)) ?_ ?_, firstOr_find]
  · intro i hi rec
    unfold cmp_Or_int.B1
    simp only [decT (show (i : Int) < (l.length : Int) by omega), inB_nat hi, cond_true, Int.toNat_natCast, getD_lt hi, w64n (show i < 9223372036854775807 by omega)]
  · intro rec
    unfold cmp_Or_int.B1
    rw [decF (by omega)]
    rfl
theorem s_compare : Fz12.S (tot cmpB) := Fz12.of_tot s_cmp8 s_cmp16 s_cmpOr fun x k => by
  obtain ⟨⟨x1, x2⟩, y1, y2⟩ := x
  unfold Fz12.pf
  simp only [tot_eq, Option.bind_some]
  rw [cl_eq (show PL [cmpI (x1, y1), cmpI (x2, y2)] by unfold PL; simp), Option.bind_some]
  congr 1
  unfold orL cmpI cmpB
  simp only
  by_cases h1 : x1 < y1
  · simp [h1]
  · by_cases h2 : x1 > y1
    · simp [h1, h2]
    · by_cases h3 : x2 < y2
      · simp [h1, h2, h3]
      · by_cases h4 : x2 > y2
        · simp [h1, h2, h3, h4]
        · simp [h1, h2, h3, h4]
def spotB (o : List DB) (x : DB) : Nat → Nat
  | 0 => 0
  | i + 1 => if bLt x (o.getD i (0, 0)) = true then spotB o x i else i + 1
def putB (o : List DB) (x : DB) : List DB := o.take (spotB o x o.length) ++ x :: o.drop (spotB o x o.length)
def sortB (l : List DB) : List DB := l.foldl putB []
theorem putB_perm (o : List DB) (x : DB) : (putB o x).Perm (x :: o) := by
  unfold putB
  refine List.perm_middle.trans ?_
  rw [List.take_append_drop]
theorem sortB_perm (l : List DB) : (sortB l).Perm l := by
  have key : ∀ (l o : List DB), (l.foldl putB o).Perm (o ++ l) := by
    intro l
    induction l with
    | nil => intro o; simp
    | cons x l ih =>
      intro o
      rw [List.foldl_cons]
      refine (ih _).trans ?_
      refine ((putB_perm o x).append_right l).trans ?_
      exact List.perm_middle.symm
  have := key l []
  rwa [List.nil_append] at this
theorem sortB_len (l : List DB) : (sortB l).length = l.length := (sortB_perm l).length_eq
theorem sortB_take (l : List DB) {p : Nat} (h : p < l.length) : sortB (l.take (p + 1)) = putB (sortB (l.take p)) l[p] := by
  unfold sortB
  rw [List.take_succ_eq_append_getElem h, List.foldl_append]
  rfl
/-- One stands at a place, the others around it. -/
def amd {β : Type} (o : List β) (x : β) (j : Nat) (q : List β) : List β := o.take j ++ x :: (o.drop j ++ q)
theorem amd_len {β : Type} (o : List β) (x : β) (j : Nat) (q : List β) (h : j ≤ o.length) : (amd o x j q).length = o.length + 1 + q.length := by
  unfold amd
  simp
  omega
theorem amd_at {β : Type} (d : β) (o : List β) (x : β) (j : Nat) (q : List β) (h : j ≤ o.length) : (amd o x j q).getD j d = x := by
  unfold amd
  rw [List.getD_eq_getElem?_getD, List.getElem?_append_right (by simp; omega)]
  simp [Nat.min_eq_left h]
theorem amd_below {β : Type} (d : β) (o : List β) (x : β) (j : Nat) (q : List β) (h : j < o.length) : (amd o x (j + 1) q).getD j d = o[j] := by
  unfold amd
  rw [List.getD_eq_getElem?_getD, List.getElem?_append_left (by simp; omega), List.getElem?_take_of_lt (by omega), List.getElem?_eq_getElem h]
  rfl
theorem amd_swap {β : Type} (o : List β) (x : β) (j : Nat) (q : List β) (h : j < o.length) : ((amd o x (j + 1) q).set (j + 1) o[j]).set j x = amd o x j q := by
  unfold amd
  rw [List.set_append_right _ _ (by simp; omega)]
  have e : j + 1 - (o.take (j + 1)).length = 0 := by simp; omega
  rw [e, List.set_cons_zero, List.take_succ_eq_append_getElem h, List.append_assoc, List.set_append_right _ _ (by simp; omega)]
  have e2 : j - (o.take j).length = 0 := by simp; omega
  rw [e2]
  simp
  rw [drop_cons h, List.cons_append]
theorem insB2 {α : Type} (p1 p2 : Int) (o : List DB) (x : DB) (q : List DB) (ho : o.length ≤ 1073741824) (K : Int × List DB → Option α) (K' : Int × List DB → Int → Option α) (hK : ∀ a b, K' a b = K a) :
    iter (Fz26.B2 (tot cmpB) 0 p1 p2 K' K) BIG ((o.length : Int), amd o x o.length q) = K (((spotB o x o.length : Nat) : Int), amd o x (spotB o x o.length) q) := by
  have key : ∀ (j fuel : Nat), j < fuel → j ≤ o.length → iter (Fz26.B2 (tot cmpB) 0 p1 p2 K' K) fuel ((j : Int), amd o x j q) = K (((spotB o x j : Nat) : Int), amd o x (spotB o x j) q) := by
    intro j
    induction j with
    | zero =>
      intro fuel hf _
      match fuel, hf with
      | f + 1, _ =>
        show Fz26.B2 _ 0 p1 p2 K' K _ (((0 : Nat) : Int), _) = _
        unfold Fz26.B2
        rw [decF (by simp)]
        rfl
    | succ j ih =>
      intro fuel hf hj
      match fuel, hf with
      | f + 1, hf =>
        show Fz26.B2 _ 0 p1 p2 K' K (iter (Fz26.B2 (tot cmpB) 0 p1 p2 K' K) f) (((j + 1 : Nat) : Int), amd o x (j + 1) q) = _
        generalize hR : iter (Fz26.B2 (tot cmpB) 0 p1 p2 K' K) f = R
        unfold Fz26.B2
        have e : IntKind.i64.wrap (((j + 1 : Nat) : Int) - 1) = (j : Int) := by rw [w64 (by omega) (by omega)]; omega
        have hjo : j < o.length := by omega
        have hl := amd_len o x (j + 1) q hj
        have h1 : j + 1 < (amd o x (j + 1) q).length := by omega
        have h2 : j < (amd o x (j + 1) q).length := by omega
        have h3 : j < ((amd o x (j + 1) q).set (j + 1) o[j]).length := by rw [List.length_set]; exact h2
        simp only [e, decT (show ((j + 1 : Nat) : Int) > 0 by omega), inB_nat h1, inB_nat h2, Int.toNat_natCast, cond_true, amd_at _ o x (j + 1) q hj, amd_below _ o x j q hjo, tot_eq, Option.bind_some, inB_nat h3, amd_swap o x j q hjo, cmpB_lt]
        unfold spotB
        rw [getD_lt hjo]
        cases c : bLt x o[j] with
        | true => rw [if_pos rfl, cond_true, ← hR]; exact ih f (by omega) (by omega)
        | false => rw [if_neg (by simp), cond_false, hK]
  exact key _ _ (big_lt (by omega)) (Nat.le_refl _)
def PInB (x : List DB × Int × Int) : Prop := PL x.1 ∧ x.2.1 = 0 ∧ x.2.2 = x.1.length
theorem s_insB : Fz26.S (cl PInB fun x => sortB x.1) := Fz26.of_cl s_compare fun x h k => by
  obtain ⟨l, a, b⟩ := x
  obtain ⟨hl, h1, h2⟩ := h
  obtain rfl : a = 0 := h1
  obtain rfl : b = (l.length : Int) := h2
  have hl : l.length ≤ 1073741824 := hl
  show Fz26.pf _ BIG l 0 (l.length : Int) k = k (sortB l)
  unfold Fz26.pf
  rw [w64 (by omega) (by omega)]
  match hq : l with
  | [] =>
    refine iter_to (fun _ => (1, [])) 0 (by rfl) (big_lt (by omega)) (fun k hk => absurd hk (Nat.not_lt_zero _)) fun rec => ?_
    unfold Fz26.B1
    rfl
  | y :: l' =>
    rw [← hq] at hl ⊢
    have hpos : 1 ≤ l.length := by rw [hq]; simp
    have h1 : sortB (l.take 1) ++ l.drop 1 = l := by rw [hq]; rfl
    have := iter_fold (B := Fz26.B1 (tot cmpB) BIG 0 (l.length : Int) fun (x1 : Int × List DB) => k x1.2) l (fun p (c : List DB) => ((p : Int), c)) (fun _ _ => k (sortB l)) (fun p c => 1 ≤ p ∧ c = sortB (l.take p) ++ l.drop p) ?_ ?_ (l.length - 1) 1 l BIG (by omega) (big_lt (by omega)) ⟨by omega, h1.symm⟩
    · exact this
    · rintro p hp c rec ⟨hp1, rfl⟩ hrec
      unfold Fz26.B1
      have ho : (sortB (l.take p)).length = p := by rw [sortB_len, List.length_take]; omega
      have e0 : sortB (l.take p) ++ l.drop p = amd (sortB (l.take p)) l[p] p (l.drop (p + 1)) := by
        unfold amd
        have t1 : (sortB (l.take p)).take p = sortB (l.take p) := List.take_of_length_le (by omega)
        have t2 : (sortB (l.take p)).drop p = [] := List.drop_eq_nil_of_le (by omega)
        rw [t1, t2, List.nil_append, drop_cons hp]
      simp only [decT (show (p : Int) < (l.length : Int) by omega), cond_true]
      rw [e0]
      have e1 := insB2 (l.length : Int) (p : Int) (sortB (l.take p)) l[p] (l.drop (p + 1)) (by omega) (fun (x2 : Int × List DB) => rec (IntKind.i64.wrap ((p : Int) + 1), x2.2)) (fun (x2 : Int × List DB) (_ : Int) => rec (IntKind.i64.wrap ((p : Int) + 1), x2.2)) (fun _ _ => rfl)
      rw [ho] at e1
      rw [e1, w64n (by omega)]
      refine hrec _ ⟨by omega, ?_⟩
      rw [sortB_take l hp]
      unfold amd putB
      rw [ho, List.append_assoc, List.cons_append]
    · rintro c rec ⟨_, rfl⟩
      unfold Fz26.B1
      rw [decF (by omega)]
      simp
def PPdB (x : List DB × Int × Int × Int) : Prop := x.1.length ≤ 12 ∧ x.2.1 = 0 ∧ x.2.2.1 = x.1.length
theorem s_pdqB : Fz27.S (cl PPdB fun x => sortB x.1) := Fz27.of_cl s_insB fun x h k => by
  obtain ⟨l, a, b, c⟩ := x
  obtain ⟨hl, h1, h2⟩ := h
  obtain rfl : a = 0 := h1
  obtain rfl : b = (l.length : Int) := h2
  have hl : l.length ≤ 12 := hl
  show Fz27.pf _ BIG l 0 (l.length : Int) c k = k (sortB l)
  unfold Fz27.pf
  refine iter_to (fun _ => ()) 0 rfl (big_lt (by omega)) (fun k hk => absurd hk (Nat.not_lt_zero _)) fun rec => ?_
  unfold Fz27.B1
  rw [w64 (by omega) (by omega), decT (by omega), cond_true, cl_eq (show PInB (l, 0, (l.length : Int)) from ⟨(show l.length ≤ 1073741824 by omega), rfl, rfl⟩), Option.bind_some]
def P255 (x : Int) : Prop := 0 ≤ x ∧ x ≤ 255
theorem s_Len64_pf {α : Type} (x : Int) (h0 : 0 ≤ x) (h1 : x ≤ 255) (k : Int → Option α) : Fz18.pf BIG x k = k ((Fz18.pf BIG x some).getD 0) := by
  unfold Fz18.pf
  rw [decF (show ¬ x ≥ 4294967296 by omega), decF (show ¬ x ≥ 65536 by omega), decF (show ¬ x ≥ 256 by omega)]
  simp only [cond_false]
  have e : IntKind.u8.wrap x = x := by rw [IntKind.wrap_u8]; omega
  rw [e, inB_true (i := x) h0]
  · rfl
  · exact Int.lt_of_lt_of_le (show x < ((256 : Nat) : Int) by omega) (Int.le_of_eq rfl)
theorem s_Len64 : Fz18.S (cl P255 fun x => (Fz18.pf BIG x some).getD 0) := Fz18.of_cl fun x h k => s_Len64_pf x h.1 h.2 k
theorem s_bitsLen : Fz17.S (cl P255 fun x => (Fz18.pf BIG x some).getD 0) := Fz17.of_cl s_Len64 fun x h k => by
  unfold Fz17.pf
  rw [cl_eq h, Option.bind_some]
def PFew12 {β : Type} (l : List β) : Prop := l.length ≤ 12
theorem s_SortFuncB : Fz25.S (cl PFew12 sortB) := Fz25.of_cl s_bitsLen s_pdqB fun l h k => by
  have h : l.length ≤ 12 := h
  unfold Fz25.pf
  have e : IntKind.u64.wrap ((l.length : Nat) : Int) = (l.length : Int) := by rw [IntKind.wrap_u64]; omega
  rw [e, cl_eq (show P255 (l.length : Int) from ⟨by omega, by omega⟩), Option.bind_some, cl_eq (show PPdB (l, 0, (l.length : Int), _) from ⟨h, rfl, rfl⟩), Option.bind_some]
abbrev allB (c : List DB) : List DB := c.filter fun b => !decide (b = (0, 0))
theorem allB_len (c : List DB) : (allB c).length ≤ c.length := List.length_filter_le _ _
theorem s_crateSorted : Fz7.S (cl Cr fun c => sortB (allB c)) := Fz7.of_cl s_crateBottles s_SortFuncB fun c h k => by
  have hl : c.length = 12 := h
  have := allB_len c
  unfold Fz7.pf
  rw [cl_eq h, Option.bind_some, cl_eq (show PFew12 (allB c) by unfold PFew12; omega), Option.bind_some]
theorem s_equalB : Fz22.S (cl PL1 fun x => decide (x.1 = x.2)) := Fz22.of_cl fun x h k => by
  obtain ⟨a, b⟩ := x
  have h : a.length ≤ 1073741824 := h
  show Fz22.pf BIG a b k = k (decide (a = b))
  unfold Fz22.pf
  by_cases c : a.length = b.length
  · rw [bneF (by omega), cond_false]
    have hz := zip_len c
    rw [iter_first (a.zip b) (fun i => (i : Int)) (fun p => !decide (p.1 = p.2)) (fun _ _ => k false) (k true) (x := 0) rfl (big_lt (by omega)) ?_ ?_, firstOr_const, any_eq a b c]
    · by_cases e : a = b <;> simp [e]
    · intro i hi rec
      have h1 : i < a.length := by omega
      have h2 : i < b.length := by omega
      unfold Fz22.B1
      rw [zip_at hi]
      simp only [decT (show (i : Int) < (a.length : Int) by omega), inB_nat h1, inB_nat h2, cond_true, Int.toNat_natCast, getD_lt h1, getD_lt h2, eqB, w64n (show i < 9223372036854775807 by omega)]
    · intro rec
      unfold Fz22.B1
      rw [decF (by omega)]
      rfl
  · rw [bneT (by omega), cond_true, decF (fun e => c (by rw [e]))]
theorem s_l01All : Fz31.S (cl Cr allB) := Fz31.of_cl s_l01Free fun c h k => by
  have hl : c.length = 12 := h
  unfold Fz31.pf
  refine iter_list c (fun i (o : List DB) => ((i : Int), o)) (fun q o => k (o ++ allB q)) (fun i o => o.length ≤ i) (c := []) rfl (big_lt (by omega)) (Nat.le_refl 0) ?_ ?_
  · rintro i hi o rec ho hrec
    unfold Fz31.B1
    simp only [decT (show (i : Int) < 12 by omega), inB_nat (show i < 12 by omega), cond_true, Int.toNat_natCast, getD_lt hi, tot_eq, Option.bind_some, w64n (show i < 9223372036854775807 by omega), allB, List.filter_cons]
    by_cases q : c[i] = (0, 0)
    · rw [decT q]
      exact hrec _ (by omega)
    · rw [decF q, okS (by simp; omega)]
      simp only [Bool.not_false, cond_true, if_true]
      exact (hrec _ (by simp; omega)).trans (by simp [allB])
  · rintro o rec _
    unfold Fz31.B1
    rw [decF (by simp only; omega)]
    simp [allB]
theorem srtB2 {α : Type} (p1 : Int) (l0 : List DB) (o : List DB) (x : DB) (q : List DB) (ho : o.length ≤ 1073741824) (K : List DB → Option α) (K1 : Int × List DB → Option α) (K0 : Int × List DB → Int → Option α)
    (h1 : ∀ (j : Nat) (c : List DB), j < c.length → K1 ((j : Int), c) = K (c.set j x)) (h0 : ∀ (j : Nat) (c : List DB) r, j < c.length → K0 ((j : Int), c) r = K (c.set j x)) :
    iter (Fz35.B2 (tot cmpB) p1 l0 x K0 K1) BIG ((o.length : Int), amd o x o.length q) = K (amd o x (spotB o x o.length) q) := by
  have key : ∀ (j fuel : Nat) (c : List DB), j < fuel → j ≤ o.length → c.length = o.length + 1 + q.length → c.set j x = amd o x j q → iter (Fz35.B2 (tot cmpB) p1 l0 x K0 K1) fuel ((j : Int), c) = K (amd o x (spotB o x j) q) := by
    intro j
    induction j with
    | zero =>
      intro fuel c hf _ hc he
      match fuel, hf with
      | f + 1, _ =>
        show Fz35.B2 _ p1 l0 x K0 K1 _ (((0 : Nat) : Int), _) = _
        unfold Fz35.B2
        rw [decF (by simp)]
        simp only [cond_false]
        rw [h1 0 c (by omega), he]
        rfl
    | succ j ih =>
      intro fuel c hf hj hc he
      match fuel, hf with
      | f + 1, hf =>
        show Fz35.B2 _ p1 l0 x K0 K1 (iter (Fz35.B2 (tot cmpB) p1 l0 x K0 K1) f) (((j + 1 : Nat) : Int), c) = _
        generalize hR : iter (Fz35.B2 (tot cmpB) p1 l0 x K0 K1) f = R
        unfold Fz35.B2
        have e : IntKind.i64.wrap (((j + 1 : Nat) : Int) - 1) = (j : Int) := by rw [w64 (by omega) (by omega)]; omega
        have hjo : j < o.length := by omega
        have hjc : j < c.length := by omega
        have hcj : c.getD j (0, 0) = o[j] := by
          have := amd_below (0, 0) o x j q hjo
          rw [← he, List.getD_eq_getElem?_getD, List.getElem?_set_ne (by omega), ← List.getD_eq_getElem?_getD] at this
          exact this
        simp only [e, decT (show ((j + 1 : Nat) : Int) > 0 by omega), inB_nat hjc, inB_nat (show j + 1 < c.length by omega), Int.toNat_natCast, cond_true, hcj, tot_eq, Option.bind_some, cmpB_lt]
        unfold spotB
        rw [getD_lt hjo]
        cases hb : bLt x o[j] with
        | true =>
          rw [if_pos rfl, cond_true, ← hR]
          refine ih f _ (by omega) (by omega) (by simpa using hc) ?_
          rw [← amd_swap o x j q hjo, ← he, List.set_set]
        | false => rw [if_neg (by simp), cond_false, h0 (j + 1) c _ (by omega), he]
  refine key _ _ _ (big_lt (by omega)) (Nat.le_refl _) (amd_len o x _ q (Nat.le_refl _)) ?_
  have hl := amd_len o x o.length q (Nat.le_refl _)
  refine List.ext_getElem (by simp) fun i h1 h2 => ?_
  rw [List.getElem_set]
  split
  · rename_i e
    subst e
    have := amd_at (0, 0) o x o.length q (Nat.le_refl _)
    rw [getD_lt h2] at this
    exact this.symm
  · rfl
theorem s_l01Sorted : Fz35.S (cl PL sortB) := Fz35.of_cl s_spec_Compare fun l h k => by
  have hl : l.length ≤ 1073741824 := h
  unfold Fz35.pf
  simp only [List.nil_append, List.length_nil]
  rw [okS (by omega), cond_true]
  match hq : l with
  | [] =>
    refine iter_to (fun _ => (1, [])) 0 (by rfl) (big_lt (by omega)) (fun k hk => absurd hk (Nat.not_lt_zero _)) fun rec => ?_
    unfold Fz35.B1
    rfl
  | y :: l' =>
    rw [← hq] at hl ⊢
    have hpos : 1 ≤ l.length := by rw [hq]; simp
    have h1 : sortB (l.take 1) ++ l.drop 1 = l := by rw [hq]; rfl
    have := iter_fold (B := Fz35.B1 (tot cmpB) BIG l fun (x1 : Int × List DB) => k x1.2) l (fun p (c : List DB) => ((p : Int), c)) (fun _ _ => k (sortB l)) (fun p c => 1 ≤ p ∧ c = sortB (l.take p) ++ l.drop p) ?_ ?_ (l.length - 1) 1 l BIG (by omega) (big_lt (by omega)) ⟨by omega, h1.symm⟩
    · exact this
    · rintro p hp c rec ⟨hp1, rfl⟩ hrec
      unfold Fz35.B1
      have ho : (sortB (l.take p)).length = p := by rw [sortB_len, List.length_take]; omega
      have e0 : sortB (l.take p) ++ l.drop p = amd (sortB (l.take p)) l[p] p (l.drop (p + 1)) := by
        unfold amd
        have t1 : (sortB (l.take p)).take p = sortB (l.take p) := List.take_of_length_le (by omega)
        have t2 : (sortB (l.take p)).drop p = [] := List.drop_eq_nil_of_le (by omega)
        rw [t1, t2, List.nil_append, drop_cons hp]
      have hlen : (sortB (l.take p) ++ l.drop p).length = l.length := by rw [List.length_append, ho, List.length_drop]; omega
      simp only [hlen, decT (show (p : Int) < (l.length : Int) by omega), inB_nat (show p < l.length by omega), cond_true, Int.toNat_natCast]
      have hx : (sortB (l.take p) ++ l.drop p).getD p (0, 0) = l[p] := by
        rw [e0]
        exact amd_at _ _ _ _ _ (by omega)
      rw [hx, e0]
      have e1 := srtB2 (p : Int) l (sortB (l.take p)) l[p] (l.drop (p + 1)) (by omega) (fun c => rec (IntKind.i64.wrap ((p : Int) + 1), c))
        (fun (x2 : Int × List DB) => cond (inB x2.1 (List.length x2.2)) (rec (((IntKind.i64.wrap ((p : Int) + 1)), (List.set x2.2 x2.1.toNat l[p])))) none)
        (fun (x2 : Int × List DB) (_ : Int) => cond (inB x2.1 (List.length x2.2)) (rec (((IntKind.i64.wrap ((p : Int) + 1)), (List.set x2.2 x2.1.toNat l[p])))) none)
        (fun j c hj => by simp only [inB_nat hj, cond_true, Int.toNat_natCast]) (fun j c r hj => by simp only [inB_nat hj, cond_true, Int.toNat_natCast])
      rw [ho] at e1
      refine e1.trans ?_
      simp only [w64n (show p < 9223372036854775807 by omega)]
      refine hrec _ ⟨by omega, ?_⟩
      rw [sortB_take l hp]
      unfold amd putB
      rw [ho, List.append_assoc, List.cons_append]
    · rintro c rec ⟨_, rfl⟩
      unfold Fz35.B1
      have hlen : (sortB (l.take l.length) ++ l.drop l.length).length = l.length := by rw [List.take_length, List.drop_length, List.append_nil, sortB_len]
      rw [decF (by simp only [hlen]; omega)]
      simp
theorem s_l03Same : Fz36.S (cl Cr2 fun x => decide (sortB (allB x.1) = sortB (allB x.2))) := Fz36.of_cl s_l01All s_l01Sorted fun x h k => by
  obtain ⟨a, b⟩ := x
  obtain ⟨ha, hb⟩ := h
  have ha' : a.length = 12 := ha
  have hb' : b.length = 12 := hb
  have h1 := allB_len a
  have h2 := allB_len b
  show Fz36.pf _ _ BIG a b k = k (decide (sortB (allB a) = sortB (allB b)))
  unfold Fz36.pf
  rw [cl_eq ha, Option.bind_some, cl_eq (show PL (allB a) by unfold PL; omega), Option.bind_some, cl_eq hb, Option.bind_some, cl_eq (show PL (allB b) by unfold PL; omega), Option.bind_some]
  have h3 := sortB_len (allB a)
  have h4 := sortB_len (allB b)
  generalize sortB (allB a) = x at h3 ⊢
  generalize sortB (allB b) = y at h4 ⊢
  by_cases c : x.length = y.length
  · rw [bneF (by omega), cond_false]
    have hz := zip_len c
    rw [iter_first (x.zip y) (fun i => (i : Int)) (fun p => !decide (p.1 = p.2)) (fun _ _ => k false) (k true) (x := 0) rfl (big_lt (by omega)) ?_ ?_, firstOr_const, any_eq x y c]
    · by_cases e : x = y <;> simp [e]
    · intro i hi rec
      have h1 : i < x.length := by omega
      have h2 : i < y.length := by omega
      unfold Fz36.B1
      rw [zip_at hi]
      simp only [decT (show (i : Int) < (x.length : Int) by omega), inB_nat h1, inB_nat h2, cond_true, Int.toNat_natCast, getD_lt h1, getD_lt h2, eqB, w64n (show i < 9223372036854775807 by omega)]
    · intro rec
      unfold Fz36.B1
      rw [decF (by omega)]
      rfl
  · rw [bneT (by omega), cond_true, decF (fun e => c (by rw [e]))]
def wC2 (x : List DB × List DB) : Prop := wC x.1 ∧ wC x.2
theorem wC2.cr {x : List DB × List DB} (h : wC2 x) : Cr2 x := ⟨h.1.1, h.2.1⟩
def sameBottles (a b : List DB) : Bool × Int := if (crateOk a && crateOk b) = true then (decide (sortB (allB a) = sortB (allB b)), 0) else (false, 1)
theorem s_spec_SameBottles : Fz29.S (cl wC2 fun x => sameBottles x.1 x.2) := Fz29.of_cl s_l01Ok s_l03Same fun x h k => by
  obtain ⟨a, b⟩ := x
  show Fz29.pf _ _ BIG a b k = k (sameBottles a b)
  unfold Fz29.pf sameBottles
  rw [cl_eq h.1, Option.bind_some]
  cases crateOk a with
  | false => rfl
  | true =>
    simp only [Bool.not_true, cond_false, Bool.true_and]
    rw [cl_eq h.2, Option.bind_some]
    cases crateOk b with
    | false => rfl
    | true =>
      simp only [Bool.not_true, cond_false]
      rw [cl_eq h.cr, Option.bind_some]
      rfl
theorem s_impl_SameBottles : Fz8.S (cl wC2 fun x => sameBottles x.1 x.2) := Fz8.of_cl s_ValidCrate s_crateSorted s_equalB fun x h k => by
  obtain ⟨a, b⟩ := x
  have ha : a.length = 12 := h.1.1
  show Fz8.pf _ _ _ BIG a b k = k (sameBottles a b)
  unfold Fz8.pf sameBottles
  rw [cl_eq h.1, Option.bind_some]
  cases crateOk a with
  | false => rfl
  | true =>
    simp only [Bool.not_true, cond_false, Bool.true_and]
    rw [cl_eq h.2, Option.bind_some]
    cases crateOk b with
    | false => rfl
    | true =>
      simp only [Bool.not_true, cond_false]
      have h1 := sortB_len (allB a)
      have h2 := allB_len a
      rw [cl_eq (show Cr a from h.1.1), Option.bind_some, cl_eq (show Cr b from h.2.1), Option.bind_some, cl_eq (show PL1 (sortB (allB a), sortB (allB b)) by unfold PL1; simp only; omega), Option.bind_some]
      rfl
theorem good_crate {c : List DB} (h : goodV (.arr 12 (.st (.pair (.int .u8) (.int .i16)))) c) : wC c := by
  obtain ⟨g1, g2⟩ := h
  refine ⟨g1, fun b hb => ?_⟩
  obtain ⟨j, hj, rfl⟩ := List.mem_iff_getElem.1 hb
  have hj12 : j < 12 := by rw [← g1]; exact hj
  have := g2 j (by first | exact hj12 | exact hj)
  rw [getD_lt hj] at this
  exact good_B this
theorem s_law_SameBottles : laws_FnExactSameBottles.S (cl (fun x => wC x.1 ∧ wC x.2) fun _ => true) := laws_FnExactSameBottles.of_cl s_toCrate s_spec_SameBottles s_impl_SameBottles fun x ⟨ha, hb⟩ k => by
  obtain ⟨a, b⟩ := x
  have ha : wC a := ha
  have hb : wC b := hb
  show laws_FnExactSameBottles.pf _ _ _ BIG a b k = k true
  unfold laws_FnExactSameBottles.pf
  simp only [cl_eq (show Cr a from ha.1), cl_eq (show Cr b from hb.1), Option.bind_some, cl_eq (show wC2 (a, b) from ⟨ha, hb⟩), bneS, beq_self_eq_true, Bool.not_true, cond_false]
end Go.Proofs.Ytjajlmaldeoobaa.G
