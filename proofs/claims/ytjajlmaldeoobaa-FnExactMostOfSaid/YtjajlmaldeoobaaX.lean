/- Plain proofs: what the functions answer, in plain lists and numbers. -/
import Derived.Test.YtjajlmaldeoobaaRd0
import Derived.Test.YtjajlmaldeoobaaRd1
import Derived.Test.YtjajlmaldeoobaaRd2
namespace Go.Proofs.Ytjajlmaldeoobaa.G
open Go
set_option linter.unusedVariables false
set_option linter.unusedSimpArgs false
set_option maxRecDepth 10000
abbrev DB := Int × Int
abbrev DS := DB × Int
theorem s_toBottle : Fz17.S (tot fun x => x) := Fz17.of_tot fun x k => rfl
/-- A copy, element by element. -/
theorem copied {β : Type} {l o : List β} {k : Nat} {d : β} (h : k < l.length) (ho : o.length = l.length) (hp : o.take k = l.take k) : (o.set k l[k]).take (k + 1) = l.take (k + 1) ∧ (o.set k l[k]).length = l.length := by
  refine ⟨?_, by simpa using ho⟩
  rw [List.take_succ_eq_append_getElem (by simpa [ho] using h), List.take_succ_eq_append_getElem h, List.take_set_of_le (Nat.le_refl k), hp]
  simp
theorem eqB (a b : DB) : eqV (.st (.pair (.int .u8) (.int .i16))) a b = decide (a = b) := by
  obtain ⟨a1, a2⟩ := a
  obtain ⟨b1, b2⟩ := b
  simp only [eqV]
  rw [Bool.eq_iff_iff]
  simp
theorem s_eqBottle : Fz16.S (tot fun x => decide (x.1 = x.2)) := Fz16.of_tot fun x k => by
  obtain ⟨⟨a1, a2⟩, b1, b2⟩ := x
  unfold Fz16.pf
  by_cases h1 : a1 = b1
  · by_cases h2 : a2 = b2
    · simp [h1, h2]
    · simp [h1, h2, bneT h2]
  · simp [h1, bneT h1]
theorem take_set {β : Type} {l : List β} {k : Nat} {x : β} (h : k < l.length) : (l.set k x).take (k + 1) = l.take k ++ [x] := by
  rw [List.take_succ_eq_append_getElem (by simpa using h), List.take_set_of_le (Nat.le_refl k)]
  simp
def validB (b : DB) : Bool := decide (1 ≤ b.1) && decide (b.1 ≤ 20) && (decide (1900 ≤ b.2) && decide (b.2 ≤ 2099))
def validS (s : DS) : Bool := validB s.1 && (decide (0 ≤ s.2) && decide (s.2 ≤ 2000))
def validR (r : List (List DS)) : Bool := decide (r.length ≤ 8) && r.all fun l => decide (l.length ≤ 6) && l.all validS
/-- Whole numbers of their kinds. -/
def wB (b : DB) : Prop := 0 ≤ b.1 ∧ b.1 ≤ 255 ∧ -32768 ≤ b.2 ∧ b.2 ≤ 32767
theorem s_l00In : spec_l00In.S (tot fun x => decide (x.2.1 ≤ x.1) && decide (x.1 ≤ x.2.2)) := spec_l00In.of_tot fun x k => by
  unfold spec_l00In.pf
  by_cases c : x.2.1 ≤ x.1
  · rw [decT (show x.1 ≥ x.2.1 from c)]; rfl
  · rw [decF (show ¬ x.1 ≥ x.2.1 from c)]; rfl
theorem s_within : Fz14.S (tot fun x => decide (x.2.1 ≤ x.1) && decide (x.1 ≤ x.2.2)) := Fz14.of_tot fun x k => by
  unfold Fz14.pf
  by_cases c : x.2.1 ≤ x.1
  · rw [decT c]; rfl
  · rw [decF c]; rfl
theorem s_l01Bottle : Fz33.S (cl wB validB) := Fz33.of_cl s_l00In fun x ⟨h1, h2, h3, h4⟩ k => by
  unfold Fz33.pf validB
  simp only [tot_eq, Option.bind_some, w64 (n := x.1) (by omega) (by omega), w64 (n := x.2) (by omega) (by omega)]
  cases decide (1 ≤ x.1) && decide (x.1 ≤ 20) <;> rfl
theorem s_ValidBottle : Fz9.S (cl wB validB) := Fz9.of_cl s_within fun x ⟨h1, h2, h3, h4⟩ k => by
  unfold Fz9.pf validB
  simp only [tot_eq, Option.bind_some, w64 (n := x.1) (by omega) (by omega), w64 (n := x.2) (by omega) (by omega)]
  cases decide (1 ≤ x.1) && decide (x.1 ≤ 20) <;> rfl
theorem any_not {β : Type} (l : List β) (p : β → Bool) : (l.any fun x => !p x) = !l.all p := by
  induction l with
  | nil => rfl
  | cons x l ih => rw [List.any_cons, List.all_cons, ih, Bool.not_and]
/-- Where the first one is. -/
def indexI {β : Type} (p : β → Bool) (l : List β) : Int := match l.findIdx? p with
  | some i => i
  | none => -1
theorem firstOr_index {α β : Type} (p : β → Bool) (k : Int → Option α) : ∀ (l : List β) (j : Nat), firstOr p (fun i _ => k (i : Int)) (k (-1)) j l = k (match l.findIdx? p with | some i => ((j + i : Nat) : Int) | none => -1)
  | [], _ => rfl
  | x :: l, j => by
    rw [firstOr, List.findIdx?_cons]
    cases p x with
    | true => simp
    | false =>
      rw [cond_false, firstOr_index p k l]
      cases l.findIdx? p with
      | none => rfl
      | some i => simp [Nat.add_assoc, Nat.add_comm 1 i]
theorem indexI_nn {β : Type} (p : β → Bool) (l : List β) : decide (indexI p l ≥ 0) = l.any p := by
  unfold indexI
  cases h : l.findIdx? p with
  | none =>
    have := List.findIdx?_eq_none_iff.1 h
    simp only
    rw [decF (by omega)]
    symm
    rw [List.any_eq_false]
    intro x hx
    simpa using this x hx
  | some i =>
    simp only
    rw [decT (by omega)]
    symm
    obtain ⟨hi, hp, _⟩ := List.findIdx?_eq_some_iff_getElem.1 h
    exact List.any_eq_true.2 ⟨_, List.getElem_mem hi, hp⟩
theorem good_B {b : DB} (h : goodV (.st (.pair (.int .u8) (.int .i16))) b) : wB b := by
  obtain ⟨h1, h2⟩ := h
  simp only [goodV, Lit.wf, IntKind.min, IntKind.max, IntKind.bits, IntKind.signed] at h1 h2
  simp at h1 h2
  unfold wB
  omega
/-- A number told as a place of n. -/
def isIn (n : Nat) (i : Int) : Bool := decide (0 ≤ i) && decide (i ≤ (n : Int) - 1)
def isAt (r : List (List DS)) (i j : Int) : Bool := isIn r.length i && isIn (r.getD i.toNat []).length j
def codeOf (a b : Bool) : Int := cond a (cond b 0 2) 1
/-- What is asked of a rack, a lane and an index. -/
def asked (r : List (List DS)) (i j : Int) : Int := codeOf (validR r) (isAt r i j)
theorem bneS (a : Int) : (a != a) = false := by simp
theorem okS {n : Nat} (h : n ≤ 4294967296) : okL n = true := okL_true h
/-- Few lanes, each of them short. -/
def Few (o : List (List DS)) : Prop := o.length ≤ 8 ∧ ∀ x, x ∈ o → x.length ≤ 6
theorem Few.set {o : List (List DS)} (h : Few o) {n : Nat} {x : List DS} (hx : x.length ≤ 6) : Few (o.set n x) := ⟨by rw [List.length_set]; exact h.1, fun y hy => by
  rcases List.mem_or_eq_of_mem_set hy with q | rfl
  · exact h.2 y q
  · exact hx⟩
/-- What is left of some when those are gone that a test tells, and what lies behind it. -/
def keptOf {β : Type} (d : β) (p : β → Bool) (l : List β) : Option (Nat × Nat) × List β :=
  if l.any p = true then (some (0, (l.filter fun x => !p x).length), (l.filter fun x => !p x) ++ List.replicate (l.length - (l.filter fun x => !p x).length) d) else (none, l)
theorem kept_cut {β : Type} (d : β) (p : β → Bool) (l : List β) : Win.cut (keptOf d p l).1 (keptOf d p l).2 = l.filter fun x => !p x := by
  unfold keptOf
  by_cases c : l.any p = true
  · rw [if_pos c]
    simp [Win.cut]
  · rw [if_neg c]
    symm
    show l.filter _ = l
    rw [List.filter_eq_self]
    intro x hx
    simp only [List.any_eq_true, not_exists, not_and, Bool.not_eq_true] at c
    simp [c x hx]
def wBs (l : List DB) : Prop := l.length ≤ 1073741824 ∧ ∀ b, b ∈ l → wB b
/-- All that lies in a rack. -/
def AllIn (Q : DS → Prop) (o : List (List DS)) : Prop := ∀ l, l ∈ o → ∀ s, s ∈ l → Q s
theorem AllIn.set {Q : DS → Prop} {o : List (List DS)} (h : AllIn Q o) {n : Nat} {x : List DS} (hx : ∀ s, s ∈ x → Q s) : AllIn Q (o.set n x) := fun l hl s hs => by
  rcases List.mem_or_eq_of_mem_set hl with q | rfl
  · exact h l q s hs
  · exact hx s hs
/-- A crate: twelve places. -/
def Cr (c : List DB) : Prop := c.length = 12
theorem s_toCrate : Fz18.S (cl Cr fun c => c) := Fz18.of_cl s_toBottle fun l h k => by
  have h : l.length = 12 := h
  unfold Fz18.pf
  refine (iter_list (B := Fz18.B1 (tot fun x => x) l (List.replicate 12 (0, 0)) fun x1 => k x1.2) l (fun i (c : List DB) => ((i : Int), c)) (fun _ _ => k l) (fun i c => c.length = l.length ∧ c.take i = l.take i) (c := List.replicate 12 (0, 0)) (by simp) (big_lt (by omega)) (by simp [h]) ?_ ?_)
  · rintro i hi c rec ⟨h1, h2⟩ hrec
    unfold Fz18.B1
    simp only [decT (show (i : Int) < 12 by omega), inB_nat (show i < 12 by omega), cond_true, Int.toNat_natCast, getD_lt hi, tot_eq, Option.bind_some, w64n (show i < 9223372036854775807 by omega)]
    have := copied (d := ((0, 0) : DB)) hi h1 h2
    exact hrec _ ⟨this.2, this.1⟩
  · rintro c rec ⟨h1, h2⟩
    unfold Fz18.B1
    rw [decF (by simp only; omega)]
    rw [List.take_of_length_le (by omega), List.take_of_length_le (Nat.le_refl _)] at h2
    simp only [cond_false, h2]
theorem s_cloneB : Fz21.S (cl PL fun l => l) := Fz21.of_cl fun l h k => by
  have h : l.length ≤ 1073741824 := h
  unfold Fz21.pf
  simp only [List.nil_append, List.length_nil]
  rw [okS (by omega)]
  cases l with
  | nil => exact both_same _
  | cons x l => rfl

theorem s_l01Free : Fz35.S (tot fun b => decide (b = (0, 0))) := Fz35.of_tot fun b k => by
  unfold Fz35.pf
  rw [eqB]
def okB (b : DB) : Bool := decide (b = (0, 0)) || validB b
def crateOk (c : List DB) : Bool := c.all okB
def wC (c : List DB) : Prop := c.length = 12 ∧ ∀ b, b ∈ c → wB b
theorem s_l01Ok : spec_l01Ok.S (cl wC crateOk) := spec_l01Ok.of_cl s_l01Free s_l01Bottle fun c h k => by
  obtain ⟨hl, hw⟩ := h
  unfold spec_l01Ok.pf
  rw [iter_first c (fun i => (i : Int)) (fun b => !okB b) (fun _ _ => k false) (k true) (x := 0) rfl (big_lt (by omega)) ?_ ?_, firstOr_const, any_not]
  · unfold crateOk
    cases c.all okB <;> rfl
  · intro i hi rec
    unfold spec_l01Ok.B1
    simp only [decT (show (i : Int) < 12 by omega), inB_nat (show i < 12 by omega), cond_true, Int.toNat_natCast, getD_lt hi, tot_eq, cl_eq (hw _ (List.getElem_mem hi)), Option.bind_some, w64n (show i < 9223372036854775807 by omega), okB]
    cases decide (c[i] = (0, 0)) <;> cases validB c[i] <;> rfl
  · intro rec
    unfold spec_l01Ok.B1
    rw [decF (by omega)]
    rfl
/-- How many are told by a test. -/
def countI {β : Type} (p : β → Bool) : List β → Int
  | [] => 0
  | x :: l => cond (p x) 1 0 + countI p l
theorem countI_le {β : Type} (p : β → Bool) : ∀ (l : List β), 0 ≤ countI p l ∧ countI p l ≤ l.length
  | [] => ⟨by simp [countI], by simp [countI]⟩
  | x :: l => by
    have := countI_le p l
    unfold countI
    cases p x <;> simp <;> omega
theorem s_ValidCrate_1 : Fz11.S (cl wB fun s => !okB s) := Fz11.of_cl s_ValidBottle fun x h k => by
  unfold Fz11.pf okB
  rw [eqB]
  by_cases c : x = (0, 0)
  · rw [decT c]; rfl
  · rw [decF c, cl_eq h]; rfl
theorem s_index_vc : Fz25.S (cl wBs fun l => indexI (fun s => !okB s) l) := Fz25.of_cl s_ValidCrate_1 fun x h k => by
  have hl : x.length ≤ 1073741824 := h.1
  unfold Fz25.pf
  rw [iter_first x (fun i => (i : Int)) (fun s => !okB s) (fun i _ => k (i : Int)) (k (-1)) (x := 0) rfl (big_lt (by omega)) ?_ ?_, firstOr_index]
  · unfold indexI
    congr 1
    cases x.findIdx? (fun s => !okB s) <;> simp
  · intro i hi rec
    unfold Fz25.B1
    simp only [decT (show (i : Int) < (x.length : Int) by omega), inB_nat hi, cond_true, Int.toNat_natCast, getD_lt hi, cl_eq (h.2 _ (List.getElem_mem hi)), Option.bind_some, w64n (show i < 9223372036854775807 by omega)]
  · intro rec
    unfold Fz25.B1
    rw [decF (by omega)]
    rfl
theorem s_contains_vc : Fz22.S (cl wBs fun l => l.any (fun s => !okB s)) := Fz22.of_cl s_index_vc fun x h k => by
  unfold Fz22.pf
  rw [cl_eq h, Option.bind_some, indexI_nn]
theorem wC.bs {c : List DB} (h : wC c) : wBs c := ⟨by have := h.1; omega, h.2⟩
theorem s_ValidCrate : Fz10.S (cl wC crateOk) := Fz10.of_cl s_contains_vc fun x h k => by
  unfold Fz10.pf crateOk
  rw [cl_eq h.bs, Option.bind_some, any_not, Bool.not_not]
theorem s_bottles_1 : Fz6.S (tot fun b => decide (b = (0, 0))) := Fz6.of_tot fun x k => by
  unfold Fz6.pf
  rw [eqB]
theorem s_index_cb : Fz24.S (cl PL fun l => indexI (fun b => decide (b = (0, 0))) l) := Fz24.of_cl s_bottles_1 fun x h k => by
  have hl : x.length ≤ 1073741824 := h
  unfold Fz24.pf
  rw [iter_first x (fun i => (i : Int)) (fun b => decide (b = (0, 0))) (fun i _ => k (i : Int)) (k (-1)) (x := 0) rfl (big_lt (by omega)) ?_ ?_, firstOr_index]
  · unfold indexI
    congr 1
    cases x.findIdx? (fun b => decide (b = (0, 0))) <;> simp
  · intro i hi rec
    unfold Fz24.B1
    simp only [decT (show (i : Int) < (x.length : Int) by omega), inB_nat hi, cond_true, Int.toNat_natCast, getD_lt hi, tot_eq, Option.bind_some, w64n (show i < 9223372036854775807 by omega)]
  · intro rec
    unfold Fz24.B1
    rw [decF (by omega)]
    rfl
theorem s_delete_cb : Fz23.S (cl PL fun l => keptOf (0, 0) (fun b => decide (b = (0, 0))) l) := Fz23.of_cl s_index_cb s_bottles_1 fun l h k => by
  have hl : l.length ≤ 1073741824 := h
  show Fz23.pf _ _ BIG l k = k (keptOf (0, 0) (fun b => decide (b = (0, 0))) l)
  unfold Fz23.pf
  rw [cl_eq h, Option.bind_some]
  generalize hp : (fun b : DB => decide (b = (0, 0))) = p
  unfold indexI keptOf
  cases hf : l.findIdx? p with
  | none =>
    have := List.findIdx?_eq_none_iff.1 hf
    rw [if_neg (by simpa using this)]
    rfl
  | some i =>
    obtain ⟨hi, hpi, hbef⟩ := List.findIdx?_eq_some_iff_getElem.1 hf
    rw [if_pos (List.any_eq_true.2 ⟨_, List.getElem_mem hi, hpi⟩)]
    simp only
    rw [beqF (by omega), cond_false, w64n (by omega)]
    have h0 : (l.take i).filter (fun x => !p x) = l.take i := by
      rw [List.filter_eq_self]
      intro x hx
      obtain ⟨j, hj, rfl⟩ := List.mem_iff_getElem.1 hx
      have hj' : j < i := by simp at hj; omega
      have := hbef j hj'
      simpa using this
    have h1 : (l.take (i + 1)).filter (fun x => !p x) = l.take i := by
      rw [List.take_succ_eq_append_getElem hi, List.filter_append, h0]
      simp [hpi]
    have := iter_fold (B := Fz23.B1 (tot p) fun (x1 : Int × Int × List DB) => cond (inW x1.1 (((List.length x1.2.2) : Nat) : Int) (List.length x1.2.2)) (cond (inW 0 x1.1 (List.length (overL x1.2.2 x1.1.toNat (List.replicate ((((List.length x1.2.2) : Nat) : Int) - x1.1).toNat (0, 0))))) (k ((some (0, (x1.1 - 0).toNat)), (overL x1.2.2 x1.1.toNat (List.replicate ((((List.length x1.2.2) : Nat) : Int) - x1.1).toNat (0, 0))))) none) none)
      l (fun j (c : List DB) => ((((l.take j).filter fun x => !p x).length : Int), (j : Int), c)) (fun _ _ => k (some (0, (l.filter fun x => !p x).length), (l.filter fun x => !p x) ++ List.replicate (l.length - (l.filter fun x => !p x).length) (0, 0))) (fun j c => c.length = l.length ∧ c.drop j = l.drop j ∧ c.take ((l.take j).filter fun x => !p x).length = (l.take j).filter fun x => !p x) ?_ ?_ (l.length - (i + 1)) (i + 1) l BIG (by omega) (big_lt (by omega)) ⟨rfl, rfl, by rw [h1]; simp⟩
    · rw [h1, List.length_take, Nat.min_eq_left (by omega)] at this
      exact this
    · rintro j hj c rec ⟨e1, e2, e3⟩ hrec
      have hjc : j < c.length := by omega
      have hcj : c[j] = l[j] := by
        have := congrArg (fun z => z[0]?) e2
        simpa [hjc, hj] using this
      have hm : ((l.take j).filter fun x => !p x).length ≤ j := by
        have := List.length_filter_le (fun x => !p x) (l.take j)
        rw [List.length_take] at this
        omega
      have ht : (l.take (j + 1)).filter (fun x => !p x) = (l.take j).filter (fun x => !p x) ++ if p l[j] = true then [] else [l[j]] := by
        rw [List.take_succ_eq_append_getElem hj, List.filter_append]
        cases hq : p l[j] <;> simp [hq]
      unfold Fz23.B1
      simp only [e1, decT (show (j : Int) < (l.length : Int) by omega), inB_nat hj, cond_true, Int.toNat_natCast, getD_lt hjc, hcj, tot_eq, Option.bind_some, w64n (show j < 9223372036854775807 by omega)]
      cases hq : p l[j] with
      | true =>
        rw [hq, if_pos rfl, List.append_nil] at ht
        have := hrec c ⟨e1, by
          have := congrArg (List.drop 1) e2
          simpa [List.drop_drop, Nat.add_comm] using this, by rw [ht]; exact e3⟩
        rw [ht] at this
        exact this
      | false =>
        rw [hq] at ht
        simp only [Bool.false_eq_true, if_false] at ht
        have hlen : ((l.take (j + 1)).filter fun x => !p x).length = ((l.take j).filter fun x => !p x).length + 1 := by rw [ht]; simp
        have hmc : ((l.take j).filter fun x => !p x).length < c.length := by omega
        have := hrec (c.set ((l.take j).filter fun x => !p x).length l[j]) ⟨by simpa using e1, by
          rw [List.drop_set_of_lt (by omega)]
          have := congrArg (List.drop 1) e2
          simpa [List.drop_drop, Nat.add_comm] using this, by
          rw [hlen, take_set hmc, e3, ht]⟩
        rw [hlen] at this
        simp only [Bool.not_false, cond_true, inB_nat (show ((l.take j).filter fun x => !p x).length < l.length by omega), w64n (show ((l.take j).filter fun x => !p x).length < 9223372036854775807 by omega)]
        exact this
    · rintro c rec ⟨e1, e2, e3⟩
      have eT : l.take l.length = l := List.take_of_length_le (Nat.le_refl _)
      rw [eT] at e3
      simp only [eT]
      have hm := List.length_filter_le (fun x => !p x) l
      unfold Fz23.B1
      rw [decF (by simp only; omega)]
      simp only [cond_false, e1]
      rw [inW_true (by omega) (by omega) (by omega), cond_true]
      have e4 : overL c (((l.filter fun x => !p x).length : Nat) : Int).toNat (List.replicate ((((l.length : Nat) : Int)) - (((l.filter fun x => !p x).length : Nat) : Int)).toNat (0, 0)) = (l.filter fun x => !p x) ++ List.replicate (l.length - (l.filter fun x => !p x).length) (0, 0) := by
        unfold overL
        rw [Int.toNat_natCast, e3, List.drop_eq_nil_of_le (by simp; omega), List.append_nil]
        congr 2
        omega
      rw [e4, inW_true (by omega) (by omega) (by simp; omega), cond_true]
      congr 3
theorem s_crateBottles : Fz5.S (cl Cr fun c => c.filter fun b => !decide (b = (0, 0))) := Fz5.of_cl s_cloneB s_delete_cb fun c h k => by
  have hl : c.length = 12 := h
  have hp : PL c := by unfold PL; omega
  unfold Fz5.pf
  rw [cl_eq hp, Option.bind_some, cl_eq hp, Option.bind_some, kept_cut]
theorem count2 {α : Type} (p0 p1 : Int) (c : List DB) (hc : c.length = 12) (s : List (List DB)) (b : DB) (n0 : Int) (h0 : 0 ≤ n0) (h1 : n0 ≤ 100000000000) (K : Int × Int → Option α) :
    iter (Fz13.B2 p0 p1 c s b K) BIG (n0, 0) = K (n0 + countI (fun x => decide (x = b)) c, 12) := by
  refine (iter_list c (fun p (n : Int) => (n, (p : Int))) (fun q n => K (n + countI (fun x => decide (x = b)) q, 12)) (fun p n => n0 ≤ n ∧ n ≤ n0 + p) (c := n0) rfl (big_lt (by omega)) ⟨by omega, by omega⟩ ?_ ?_)
  · rintro p hp n rec ⟨h1, h2⟩ hrec
    unfold Fz13.B2
    simp only [decT (show (p : Int) < 12 by omega), inB_nat (show p < 12 by omega), cond_true, Int.toNat_natCast, getD_lt hp, eqB, w64n (show p < 9223372036854775807 by omega), w64 (show -9223372036854775808 ≤ n + 1 by omega) (by omega), countI]
    by_cases q2 : c[p] = b
    · rw [decT q2]
      exact (hrec _ (by omega)).trans (by simp [Int.add_assoc])
    · rw [decF q2]
      exact (hrec _ (by omega)).trans (by simp)
  · rintro n rec _
    unfold Fz13.B2
    rw [decF (by simp only; omega)]
    simp [countI, hc]
def POne (x : List (List DB) × DB) : Prop := ∃ c, x.1 = [c] ∧ c.length = 12
theorem s_countOf : Fz13.S (cl POne fun x => countI (fun y => decide (y = x.2)) (x.1.getD 0 [])) := Fz13.of_cl fun x h k => by
  obtain ⟨s, b⟩ := x
  obtain ⟨c, e, hc⟩ := h
  have e : s = [c] := e
  subst e
  show Fz13.pf BIG [c] b k = k (countI (fun y => decide (y = b)) c)
  unfold Fz13.pf
  refine iter_list [c] (fun p (n : Int) => (n, (p : Int))) (fun q n => k (n + (q.map (countI (fun y => decide (y = b)))).sum)) (fun p n => 0 ≤ n ∧ n ≤ 100 * p) (c := 0) rfl (big_lt (by simp)) ⟨by omega, by omega⟩ ?_ ?_ |>.trans (by simp)
  · rintro p hp n rec ⟨h1, h2⟩ hrec
    have hp1 : p = 0 := by simp at hp; exact hp
    subst hp1
    have := countI_le (fun y => decide (y = b)) c
    unfold Fz13.B1
    simp only [List.length_cons, List.length_nil]
    rw [decT (by simp), cond_true, inB_true (by simp) (by simp), cond_true]
    simp only [Int.toNat_natCast, List.getD_cons_zero]
    rw [count2 _ _ c hc _ b n h1 (by omega)]
    exact (hrec (n + countI (fun y => decide (y = b)) c) (by omega)).trans (by simp)
  · rintro n rec _
    unfold Fz13.B1
    rw [decF (by simp)]
    simp
def bLt (x y : DB) : Bool := decide (x.1 < y.1) || (decide (x.1 = y.1) && decide (x.2 < y.2))
def cmpB (x : DB × DB) : Int := if x.1.1 < x.2.1 then -1 else if x.1.1 > x.2.1 then 1 else if x.1.2 < x.2.2 then -1 else if x.1.2 > x.2.2 then 1 else 0
theorem cmpB_lt (x y : DB) : decide (cmpB (x, y) < 0) = bLt x y := by
  obtain ⟨x1, x2⟩ := x
  obtain ⟨y1, y2⟩ := y
  unfold cmpB bLt
  simp only
  by_cases h1 : x1 < y1
  · simp [h1]
  · by_cases h2 : x1 > y1
    · simp [h1, h2]; omega
    · have : x1 = y1 := by omega
      subst this
      by_cases h3 : x2 < y2
      · simp [h3]
      · by_cases h4 : x2 > y2
        · simp [h3, h4]
        · simp [h3, h4]
theorem s_spec_Compare : Fz29.S (tot cmpB) := Fz29.of_tot fun x k => by
  obtain ⟨⟨x1, x2⟩, y1, y2⟩ := x
  unfold Fz29.pf cmpB
  simp only
  by_cases h1 : x1 < y1
  · rw [decT h1, if_pos h1]; rfl
  · rw [decF h1, if_neg h1]
    by_cases h2 : x1 > y1
    · rw [decT h2, if_pos h2]; rfl
    · rw [decF h2, if_neg h2]
      by_cases h3 : x2 < y2
      · rw [decT h3, if_pos h3]; rfl
      · rw [decF h3, if_neg h3]
        by_cases h4 : x2 > y2
        · rw [decT h4, if_pos h4]; rfl
        · rw [decF h4, if_neg h4]; rfl
def cmpI (x : Int × Int) : Int := if x.1 < x.2 then -1 else if x.1 > x.2 then 1 else 0
theorem s_isNaN8 : Fz4.S (tot fun _ => false) := Fz4.of_tot fun x k => by unfold Fz4.pf; rw [bneF rfl]
theorem s_isNaN16 : Fz3.S (tot fun _ => false) := Fz3.of_tot fun x k => by unfold Fz3.pf; rw [bneF rfl]
theorem s_cmp8 : Fz1.S (tot cmpI) := Fz1.of_tot s_isNaN8 fun x k => by
  obtain ⟨x, y⟩ := x
  unfold Fz1.pf cmpI
  simp only [tot_eq, Option.bind_some, cond_false]
  by_cases h1 : x < y
  · rw [decT h1, if_pos h1]; rfl
  · rw [decF h1, if_neg h1]
    by_cases h2 : x > y
    · rw [decT h2, if_pos h2]; rfl
    · rw [decF h2, if_neg h2]; rfl
theorem s_cmp16 : Fz0.S (tot cmpI) := Fz0.of_tot s_isNaN16 fun x k => by
  obtain ⟨x, y⟩ := x
  unfold Fz0.pf cmpI
  simp only [tot_eq, Option.bind_some, cond_false]
  by_cases h1 : x < y
  · rw [decT h1, if_pos h1]; rfl
  · rw [decF h1, if_neg h1]
    by_cases h2 : x > y
    · rw [decT h2, if_pos h2]; rfl
    · rw [decF h2, if_neg h2]; rfl
def orL (l : List Int) : Int := (l.find? fun x => x != 0).getD 0
theorem firstOr_find {α : Type} (k : Int → Option α) : ∀ (l : List Int) (j : Nat), firstOr (fun x => x != 0) (fun _ x => k x) (k 0) j l = k (orL l)
  | [], _ => rfl
  | x :: l, j => by
    rw [firstOr, firstOr_find k l]
    unfold orL
    rw [List.find?_cons]
    cases hx : x != 0 <;> rfl
theorem s_cmpOr : cmp_Or_int.S (cl PL orL) := cmp_Or_int.of_cl fun l h k => by
  have h : l.length ≤ 1073741824 := h
  unfold cmp_Or_int.pf
  rw [iter_first l (fun i => (i : Int)) (fun x => x != 0) (fun _ x => k x) (k 0) (x := 0) rfl (big_lt (by omega)) ?_ ?_, firstOr_find]
  · intro i hi rec
    unfold cmp_Or_int.B1
    simp only [decT (show (i : Int) < (l.length : Int) by omega), inB_nat hi, cond_true, Int.toNat_natCast, getD_lt hi, w64n (show i < 9223372036854775807 by omega)]
  · intro rec
    unfold cmp_Or_int.B1
    rw [decF (by omega)]
    rfl
theorem s_compare : Fz12.S (tot cmpB) := Fz12.of_tot s_cmp8 s_cmp16 s_cmpOr fun x k => by
  obtain ⟨⟨x1, x2⟩, y1, y2⟩ := x
  unfold Fz12.pf
  simp only [tot_eq, Option.bind_some]
  rw [cl_eq (show PL [cmpI (x1, y1), cmpI (x2, y2)] by unfold PL; simp), Option.bind_some]
  congr 1
  unfold orL cmpI cmpB
  simp only
  by_cases h1 : x1 < y1
  · simp [h1]
  · by_cases h2 : x1 > y1
    · simp [h1, h2]
    · by_cases h3 : x2 < y2
      · simp [h1, h2, h3]
      · by_cases h4 : x2 > y2
        · simp [h1, h2, h3, h4]
        · simp [h1, h2, h3, h4]
def spotB (o : List DB) (x : DB) : Nat → Nat
  | 0 => 0
  | i + 1 => if bLt x (o.getD i (0, 0)) = true then spotB o x i else i + 1
def putB (o : List DB) (x : DB) : List DB := o.take (spotB o x o.length) ++ x :: o.drop (spotB o x o.length)
def sortB (l : List DB) : List DB := l.foldl putB []
theorem spotB_le (o : List DB) (x : DB) : ∀ i, spotB o x i ≤ i
  | 0 => Nat.le_refl 0
  | i + 1 => by
    have := spotB_le o x i
    unfold spotB
    split <;> omega
theorem putB_perm (o : List DB) (x : DB) : (putB o x).Perm (x :: o) := by
  unfold putB
  refine List.perm_middle.trans ?_
  rw [List.take_append_drop]
theorem sortB_perm (l : List DB) : (sortB l).Perm l := by
  have key : ∀ (l o : List DB), (l.foldl putB o).Perm (o ++ l) := by
    intro l
    induction l with
    | nil => intro o; simp
    | cons x l ih =>
      intro o
      rw [List.foldl_cons]
      refine (ih _).trans ?_
      refine ((putB_perm o x).append_right l).trans ?_
      exact List.perm_middle.symm
  have := key l []
  rwa [List.nil_append] at this
theorem sortB_len (l : List DB) : (sortB l).length = l.length := (sortB_perm l).length_eq
theorem sortB_take (l : List DB) {p : Nat} (h : p < l.length) : sortB (l.take (p + 1)) = putB (sortB (l.take p)) l[p] := by
  unfold sortB
  rw [List.take_succ_eq_append_getElem h, List.foldl_append]
  rfl
/-- One stands at a place, the others around it. -/
def amd {β : Type} (o : List β) (x : β) (j : Nat) (q : List β) : List β := o.take j ++ x :: (o.drop j ++ q)
theorem amd_len {β : Type} (o : List β) (x : β) (j : Nat) (q : List β) (h : j ≤ o.length) : (amd o x j q).length = o.length + 1 + q.length := by
  unfold amd
  simp
  omega
theorem amd_at {β : Type} (d : β) (o : List β) (x : β) (j : Nat) (q : List β) (h : j ≤ o.length) : (amd o x j q).getD j d = x := by
  unfold amd
  rw [List.getD_eq_getElem?_getD, List.getElem?_append_right (by simp; omega)]
  simp [Nat.min_eq_left h]
theorem amd_below {β : Type} (d : β) (o : List β) (x : β) (j : Nat) (q : List β) (h : j < o.length) : (amd o x (j + 1) q).getD j d = o[j] := by
  unfold amd
  rw [List.getD_eq_getElem?_getD, List.getElem?_append_left (by simp; omega), List.getElem?_take_of_lt (by omega), List.getElem?_eq_getElem h]
  rfl
theorem amd_swap {β : Type} (o : List β) (x : β) (j : Nat) (q : List β) (h : j < o.length) : ((amd o x (j + 1) q).set (j + 1) o[j]).set j x = amd o x j q := by
  unfold amd
  rw [List.set_append_right _ _ (by simp; omega)]
  have e : j + 1 - (o.take (j + 1)).length = 0 := by simp; omega
  rw [e, List.set_cons_zero, List.take_succ_eq_append_getElem h, List.append_assoc, List.set_append_right _ _ (by simp; omega)]
  have e2 : j - (o.take j).length = 0 := by simp; omega
  rw [e2]
  simp
  rw [drop_cons h, List.cons_append]
theorem insB2 {α : Type} (p1 p2 : Int) (o : List DB) (x : DB) (q : List DB) (ho : o.length ≤ 1073741824) (K : Int × List DB → Option α) (K' : Int × List DB → Int → Option α) (hK : ∀ a b, K' a b = K a) :
    iter (Fz27.B2 (tot cmpB) 0 p1 p2 K' K) BIG ((o.length : Int), amd o x o.length q) = K (((spotB o x o.length : Nat) : Int), amd o x (spotB o x o.length) q) := by
  have key : ∀ (j fuel : Nat), j < fuel → j ≤ o.length → iter (Fz27.B2 (tot cmpB) 0 p1 p2 K' K) fuel ((j : Int), amd o x j q) = K (((spotB o x j : Nat) : Int), amd o x (spotB o x j) q) := by
    intro j
    induction j with
    | zero =>
      intro fuel hf _
      match fuel, hf with
      | f + 1, _ =>
        show Fz27.B2 _ 0 p1 p2 K' K _ (((0 : Nat) : Int), _) = _
        unfold Fz27.B2
        rw [decF (by simp)]
        rfl
    | succ j ih =>
      intro fuel hf hj
      match fuel, hf with
      | f + 1, hf =>
        show Fz27.B2 _ 0 p1 p2 K' K (iter (Fz27.B2 (tot cmpB) 0 p1 p2 K' K) f) (((j + 1 : Nat) : Int), amd o x (j + 1) q) = _
        generalize hR : iter (Fz27.B2 (tot cmpB) 0 p1 p2 K' K) f = R
        unfold Fz27.B2
        have e : IntKind.i64.wrap (((j + 1 : Nat) : Int) - 1) = (j : Int) := by rw [w64 (by omega) (by omega)]; omega
        have hjo : j < o.length := by omega
        have hl := amd_len o x (j + 1) q hj
        have h1 : j + 1 < (amd o x (j + 1) q).length := by omega
        have h2 : j < (amd o x (j + 1) q).length := by omega
        have h3 : j < ((amd o x (j + 1) q).set (j + 1) o[j]).length := by rw [List.length_set]; exact h2
        simp only [e, decT (show ((j + 1 : Nat) : Int) > 0 by omega), inB_nat h1, inB_nat h2, Int.toNat_natCast, cond_true, amd_at _ o x (j + 1) q hj, amd_below _ o x j q hjo, tot_eq, Option.bind_some, inB_nat h3, amd_swap o x j q hjo, cmpB_lt]
        unfold spotB
        rw [getD_lt hjo]
        cases c : bLt x o[j] with
        | true => rw [if_pos rfl, cond_true, ← hR]; exact ih f (by omega) (by omega)
        | false => rw [if_neg (by simp), cond_false, hK]
  exact key _ _ (big_lt (by omega)) (Nat.le_refl _)
def PInB (x : List DB × Int × Int) : Prop := PL x.1 ∧ x.2.1 = 0 ∧ x.2.2 = x.1.length
theorem s_insB : Fz27.S (cl PInB fun x => sortB x.1) := Fz27.of_cl s_compare fun x h k => by
  obtain ⟨l, a, b⟩ := x
  obtain ⟨hl, h1, h2⟩ := h
  obtain rfl : a = 0 := h1
  obtain rfl : b = (l.length : Int) := h2
  have hl : l.length ≤ 1073741824 := hl
  show Fz27.pf _ BIG l 0 (l.length : Int) k = k (sortB l)
  unfold Fz27.pf
  rw [w64 (by omega) (by omega)]
  match hq : l with
  | [] =>
    refine iter_to (fun _ => (1, [])) 0 (by rfl) (big_lt (by omega)) (fun k hk => absurd hk (Nat.not_lt_zero _)) fun rec => ?_
    unfold Fz27.B1
    rfl
  | y :: l' =>
    rw [← hq] at hl ⊢
    have hpos : 1 ≤ l.length := by rw [hq]; simp
    have h1 : sortB (l.take 1) ++ l.drop 1 = l := by rw [hq]; rfl
    have := iter_fold (B := Fz27.B1 (tot cmpB) BIG 0 (l.length : Int) fun (x1 : Int × List DB) => k x1.2) l (fun p (c : List DB) => ((p : Int), c)) (fun _ _ => k (sortB l)) (fun p c => 1 ≤ p ∧ c = sortB (l.take p) ++ l.drop p) ?_ ?_ (l.length - 1) 1 l BIG (by omega) (big_lt (by omega)) ⟨by omega, h1.symm⟩
    · exact this
    · rintro p hp c rec ⟨hp1, rfl⟩ hrec
      unfold Fz27.B1
      have ho : (sortB (l.take p)).length = p := by rw [sortB_len, List.length_take]; omega
      have e0 : sortB (l.take p) ++ l.drop p = amd (sortB (l.take p)) l[p] p (l.drop (p + 1)) := by
        unfold amd
        have t1 : (sortB (l.take p)).take p = sortB (l.take p) := List.take_of_length_le (by omega)
        have t2 : (sortB (l.take p)).drop p = [] := List.drop_eq_nil_of_le (by omega)
        rw [t1, t2, List.nil_append, drop_cons hp]
      simp only [decT (show (p : Int) < (l.length : Int) by omega), cond_true]
      rw [e0]
      have e1 := insB2 (l.length : Int) (p : Int) (sortB (l.take p)) l[p] (l.drop (p + 1)) (by omega) (fun (x2 : Int × List DB) => rec (IntKind.i64.wrap ((p : Int) + 1), x2.2)) (fun (x2 : Int × List DB) (_ : Int) => rec (IntKind.i64.wrap ((p : Int) + 1), x2.2)) (fun _ _ => rfl)
      rw [ho] at e1
      rw [e1, w64n (by omega)]
      refine hrec _ ⟨by omega, ?_⟩
      rw [sortB_take l hp]
      unfold amd putB
      rw [ho, List.append_assoc, List.cons_append]
    · rintro c rec ⟨_, rfl⟩
      unfold Fz27.B1
      rw [decF (by omega)]
      simp
def PPdB (x : List DB × Int × Int × Int) : Prop := x.1.length ≤ 12 ∧ x.2.1 = 0 ∧ x.2.2.1 = x.1.length
theorem s_pdqB : Fz28.S (cl PPdB fun x => sortB x.1) := Fz28.of_cl s_insB fun x h k => by
  obtain ⟨l, a, b, c⟩ := x
  obtain ⟨hl, h1, h2⟩ := h
  obtain rfl : a = 0 := h1
  obtain rfl : b = (l.length : Int) := h2
  have hl : l.length ≤ 12 := hl
  show Fz28.pf _ BIG l 0 (l.length : Int) c k = k (sortB l)
  unfold Fz28.pf
  refine iter_to (fun _ => ()) 0 rfl (big_lt (by omega)) (fun k hk => absurd hk (Nat.not_lt_zero _)) fun rec => ?_
  unfold Fz28.B1
  rw [w64 (by omega) (by omega), decT (by omega), cond_true, cl_eq (show PInB (l, 0, (l.length : Int)) from ⟨(show l.length ≤ 1073741824 by omega), rfl, rfl⟩), Option.bind_some]
def P255 (x : Int) : Prop := 0 ≤ x ∧ x ≤ 255
theorem s_Len64_pf {α : Type} (x : Int) (h0 : 0 ≤ x) (h1 : x ≤ 255) (k : Int → Option α) : Fz20.pf BIG x k = k ((Fz20.pf BIG x some).getD 0) := by
  unfold Fz20.pf
  rw [decF (show ¬ x ≥ 4294967296 by omega), decF (show ¬ x ≥ 65536 by omega), decF (show ¬ x ≥ 256 by omega)]
  simp only [cond_false]
  have e : IntKind.u8.wrap x = x := by rw [IntKind.wrap_u8]; omega
  rw [e, inB_true (i := x) h0]
  · rfl
  · exact Int.lt_of_lt_of_le (show x < ((256 : Nat) : Int) by omega) (Int.le_of_eq rfl)
theorem s_Len64 : Fz20.S (cl P255 fun x => (Fz20.pf BIG x some).getD 0) := Fz20.of_cl fun x h k => s_Len64_pf x h.1 h.2 k
theorem s_bitsLen : Fz19.S (cl P255 fun x => (Fz20.pf BIG x some).getD 0) := Fz19.of_cl s_Len64 fun x h k => by
  unfold Fz19.pf
  rw [cl_eq h, Option.bind_some]
def PFew12 {β : Type} (l : List β) : Prop := l.length ≤ 12
theorem s_SortFuncB : Fz26.S (cl PFew12 sortB) := Fz26.of_cl s_bitsLen s_pdqB fun l h k => by
  have h : l.length ≤ 12 := h
  unfold Fz26.pf
  have e : IntKind.u64.wrap ((l.length : Nat) : Int) = (l.length : Int) := by rw [IntKind.wrap_u64]; omega
  rw [e, cl_eq (show P255 (l.length : Int) from ⟨by omega, by omega⟩), Option.bind_some, cl_eq (show PPdB (l, 0, (l.length : Int), _) from ⟨h, rfl, rfl⟩), Option.bind_some]
abbrev allB (c : List DB) : List DB := c.filter fun b => !decide (b = (0, 0))
theorem allB_len (c : List DB) : (allB c).length ≤ c.length := List.length_filter_le _ _
theorem s_crateSorted : Fz7.S (cl Cr fun c => sortB (allB c)) := Fz7.of_cl s_crateBottles s_SortFuncB fun c h k => by
  have hl : c.length = 12 := h
  have := allB_len c
  unfold Fz7.pf
  rw [cl_eq h, Option.bind_some, cl_eq (show PFew12 (allB c) by unfold PFew12; omega), Option.bind_some]
theorem s_l01All : Fz32.S (cl Cr allB) := Fz32.of_cl s_l01Free fun c h k => by
  have hl : c.length = 12 := h
  unfold Fz32.pf
  refine iter_list c (fun i (o : List DB) => ((i : Int), o)) (fun q o => k (o ++ allB q)) (fun i o => o.length ≤ i) (c := []) rfl (big_lt (by omega)) (Nat.le_refl 0) ?_ ?_
  · rintro i hi o rec ho hrec
    unfold Fz32.B1
    simp only [decT (show (i : Int) < 12 by omega), inB_nat (show i < 12 by omega), cond_true, Int.toNat_natCast, getD_lt hi, tot_eq, Option.bind_some, w64n (show i < 9223372036854775807 by omega), allB, List.filter_cons]
    by_cases q : c[i] = (0, 0)
    · rw [decT q]
      exact hrec _ (by omega)
    · rw [decF q, okS (by simp; omega)]
      simp only [Bool.not_false, cond_true, if_true]
      exact (hrec _ (by simp; omega)).trans (by simp [allB])
  · rintro o rec _
    unfold Fz32.B1
    rw [decF (by simp only; omega)]
    simp [allB]
theorem srtB2 {α : Type} (p1 : Int) (l0 : List DB) (o : List DB) (x : DB) (q : List DB) (ho : o.length ≤ 1073741824) (K : List DB → Option α) (K1 : Int × List DB → Option α) (K0 : Int × List DB → Int → Option α)
    (h1 : ∀ (j : Nat) (c : List DB), j < c.length → K1 ((j : Int), c) = K (c.set j x)) (h0 : ∀ (j : Nat) (c : List DB) r, j < c.length → K0 ((j : Int), c) r = K (c.set j x)) :
    iter (Fz37.B2 (tot cmpB) p1 l0 x K0 K1) BIG ((o.length : Int), amd o x o.length q) = K (amd o x (spotB o x o.length) q) := by
  have key : ∀ (j fuel : Nat) (c : List DB), j < fuel → j ≤ o.length → c.length = o.length + 1 + q.length → c.set j x = amd o x j q → iter (Fz37.B2 (tot cmpB) p1 l0 x K0 K1) fuel ((j : Int), c) = K (amd o x (spotB o x j) q) := by
    intro j
    induction j with
    | zero =>
      intro fuel c hf _ hc he
      match fuel, hf with
      | f + 1, _ =>
        show Fz37.B2 _ p1 l0 x K0 K1 _ (((0 : Nat) : Int), _) = _
        unfold Fz37.B2
        rw [decF (by simp)]
        simp only [cond_false]
        rw [h1 0 c (by omega), he]
        rfl
    | succ j ih =>
      intro fuel c hf hj hc he
      match fuel, hf with
      | f + 1, hf =>
        show Fz37.B2 _ p1 l0 x K0 K1 (iter (Fz37.B2 (tot cmpB) p1 l0 x K0 K1) f) (((j + 1 : Nat) : Int), c) = _
        generalize hR : iter (Fz37.B2 (tot cmpB) p1 l0 x K0 K1) f = R
        unfold Fz37.B2
        have e : IntKind.i64.wrap (((j + 1 : Nat) : Int) - 1) = (j : Int) := by rw [w64 (by omega) (by omega)]; omega
        have hjo : j < o.length := by omega
        have hjc : j < c.length := by omega
        have hcj : c.getD j (0, 0) = o[j] := by
          have := amd_below (0, 0) o x j q hjo
          rw [← he, List.getD_eq_getElem?_getD, List.getElem?_set_ne (by omega), ← List.getD_eq_getElem?_getD] at this
          exact this
        simp only [e, decT (show ((j + 1 : Nat) : Int) > 0 by omega), inB_nat hjc, inB_nat (show j + 1 < c.length by omega), Int.toNat_natCast, cond_true, hcj, tot_eq, Option.bind_some, cmpB_lt]
        unfold spotB
        rw [getD_lt hjo]
        cases hb : bLt x o[j] with
        | true =>
          rw [if_pos rfl, cond_true, ← hR]
          refine ih f _ (by omega) (by omega) (by simpa using hc) ?_
          rw [← amd_swap o x j q hjo, ← he, List.set_set]
        | false => rw [if_neg (by simp), cond_false, h0 (j + 1) c _ (by omega), he]
  refine key _ _ _ (big_lt (by omega)) (Nat.le_refl _) (amd_len o x _ q (Nat.le_refl _)) ?_
  have hl := amd_len o x o.length q (Nat.le_refl _)
  refine List.ext_getElem (by simp) fun i h1 h2 => ?_
  rw [List.getElem_set]
  split
  · rename_i e
    subst e
    have := amd_at (0, 0) o x o.length q (Nat.le_refl _)
    rw [getD_lt h2] at this
    exact this.symm
  · rfl
theorem s_l01Sorted : Fz37.S (cl PL sortB) := Fz37.of_cl s_spec_Compare fun l h k => by
  have hl : l.length ≤ 1073741824 := h
  unfold Fz37.pf
  simp only [List.nil_append, List.length_nil]
  rw [okS (by omega), cond_true]
  match hq : l with
  | [] =>
    refine iter_to (fun _ => (1, [])) 0 (by rfl) (big_lt (by omega)) (fun k hk => absurd hk (Nat.not_lt_zero _)) fun rec => ?_
    unfold Fz37.B1
    rfl
  | y :: l' =>
    rw [← hq] at hl ⊢
    have hpos : 1 ≤ l.length := by rw [hq]; simp
    have h1 : sortB (l.take 1) ++ l.drop 1 = l := by rw [hq]; rfl
    have := iter_fold (B := Fz37.B1 (tot cmpB) BIG l fun (x1 : Int × List DB) => k x1.2) l (fun p (c : List DB) => ((p : Int), c)) (fun _ _ => k (sortB l)) (fun p c => 1 ≤ p ∧ c = sortB (l.take p) ++ l.drop p) ?_ ?_ (l.length - 1) 1 l BIG (by omega) (big_lt (by omega)) ⟨by omega, h1.symm⟩
    · exact this
    · rintro p hp c rec ⟨hp1, rfl⟩ hrec
      unfold Fz37.B1
      have ho : (sortB (l.take p)).length = p := by rw [sortB_len, List.length_take]; omega
      have e0 : sortB (l.take p) ++ l.drop p = amd (sortB (l.take p)) l[p] p (l.drop (p + 1)) := by
        unfold amd
        have t1 : (sortB (l.take p)).take p = sortB (l.take p) := List.take_of_length_le (by omega)
        have t2 : (sortB (l.take p)).drop p = [] := List.drop_eq_nil_of_le (by omega)
        rw [t1, t2, List.nil_append, drop_cons hp]
      have hlen : (sortB (l.take p) ++ l.drop p).length = l.length := by rw [List.length_append, ho, List.length_drop]; omega
      simp only [hlen, decT (show (p : Int) < (l.length : Int) by omega), inB_nat (show p < l.length by omega), cond_true, Int.toNat_natCast]
      have hx : (sortB (l.take p) ++ l.drop p).getD p (0, 0) = l[p] := by
        rw [e0]
        exact amd_at _ _ _ _ _ (by omega)
      rw [hx, e0]
      have e1 := srtB2 (p : Int) l (sortB (l.take p)) l[p] (l.drop (p + 1)) (by omega) (fun c => rec (IntKind.i64.wrap ((p : Int) + 1), c))
        (fun (x2 : Int × List DB) => cond (inB x2.1 (List.length x2.2)) (rec (((IntKind.i64.wrap ((p : Int) + 1)), (List.set x2.2 x2.1.toNat l[p])))) none)
        (fun (x2 : Int × List DB) (_ : Int) => cond (inB x2.1 (List.length x2.2)) (rec (((IntKind.i64.wrap ((p : Int) + 1)), (List.set x2.2 x2.1.toNat l[p])))) none)
        (fun j c hj => by simp only [inB_nat hj, cond_true, Int.toNat_natCast]) (fun j c r hj => by simp only [inB_nat hj, cond_true, Int.toNat_natCast])
      rw [ho] at e1
      refine e1.trans ?_
      simp only [w64n (show p < 9223372036854775807 by omega)]
      refine hrec _ ⟨by omega, ?_⟩
      rw [sortB_take l hp]
      unfold amd putB
      rw [ho, List.append_assoc, List.cons_append]
    · rintro c rec ⟨_, rfl⟩
      unfold Fz37.B1
      have hlen : (sortB (l.take l.length) ++ l.drop l.length).length = l.length := by rw [List.take_length, List.drop_length, List.append_nil, sortB_len]
      rw [decF (by simp only [hlen]; omega)]
      simp
theorem good_crate {c : List DB} (h : goodV (.arr 12 (.st (.pair (.int .u8) (.int .i16)))) c) : wC c := by
  obtain ⟨g1, g2⟩ := h
  refine ⟨g1, fun b hb => ?_⟩
  obtain ⟨j, hj, rfl⟩ := List.mem_iff_getElem.1 hb
  have hj12 : j < 12 := by rw [← g1]; exact hj
  have := g2 j (by first | exact hj12 | exact hj)
  rw [getD_lt hj] at this
  exact good_B this

theorem bLt_iff (x y : DB) : bLt x y = true ↔ x.1 < y.1 ∨ (x.1 = y.1 ∧ x.2 < y.2) := by
  unfold bLt
  simp
def leB (x y : DB) : Prop := bLt y x = false
theorem leB_iff (x y : DB) : leB x y ↔ ¬ (y.1 < x.1 ∨ (y.1 = x.1 ∧ y.2 < x.2)) := by
  unfold leB
  rw [← bLt_iff]
  simp
theorem leB_trans {x y z : DB} (h1 : leB x y) (h2 : leB y z) : leB x z := by
  rw [leB_iff] at *
  omega
theorem leB_refl (x : DB) : leB x x := by
  rw [leB_iff]
  omega
theorem leB_anti {x y : DB} (h1 : leB x y) (h2 : leB y x) : x = y := by
  rw [leB_iff] at *
  refine Prod.ext ?_ ?_ <;> omega
theorem leB_of_lt {x y : DB} (h : bLt x y = true) : leB x y := by
  rw [leB_iff]
  rw [bLt_iff] at h
  omega
theorem spotB_spec (o : List DB) (x : DB) : ∀ j, j ≤ o.length → (∀ i, spotB o x j ≤ i → i < j → bLt x (o.getD i (0, 0)) = true) ∧ (∀ i, i + 1 = spotB o x j → bLt x (o.getD i (0, 0)) = false)
  | 0, _ => ⟨fun i _ h => absurd h (Nat.not_lt_zero i), fun i h => by simp [spotB] at h⟩
  | j + 1, h => by
    obtain ⟨h1, h2⟩ := spotB_spec o x j (by omega)
    unfold spotB
    split
    · rename_i c
      refine ⟨fun i hi hj => ?_, h2⟩
      rcases Nat.lt_or_ge i j with q | q
      · exact h1 i hi q
      · obtain rfl : i = j := by omega
        exact c
    · rename_i c
      refine ⟨fun i hi hj => by omega, fun i hi => ?_⟩
      obtain rfl : i = j := by omega
      simpa using c
def SortedB (l : List DB) : Prop := l.Pairwise leB
theorem SortedB.get {l : List DB} (h : SortedB l) {i j : Nat} (hij : i ≤ j) (hj : j < l.length) : leB (l.getD i (0, 0)) (l.getD j (0, 0)) := by
  rcases Nat.lt_or_eq_of_le hij with q | rfl
  · rw [getD_lt (by omega : i < l.length), getD_lt hj]
    exact List.pairwise_iff_getElem.1 h i j (by omega) hj q
  · exact leB_refl _
theorem putB_sorted {o : List DB} {x : DB} (h : SortedB o) : SortedB (putB o x) := by
  obtain ⟨h1, h2⟩ := spotB_spec o x o.length (Nat.le_refl _)
  have hk := spotB_le o x o.length
  unfold putB
  generalize spotB o x o.length = k at *
  have ht : ∀ a, a ∈ o.take k → leB a x := by
    intro a ha
    obtain ⟨i, hi, rfl⟩ := List.mem_iff_getElem.1 ha
    rw [List.length_take] at hi
    rw [List.getElem_take]
    have h3 := h2 (k - 1) (by omega)
    have h4 := h.get (i := i) (j := k - 1) (by omega) (by omega)
    rw [getD_lt (by omega : i < o.length)] at h4
    exact leB_trans h4 h3
  have hd : ∀ b, b ∈ o.drop k → leB x b := by
    intro b hb
    obtain ⟨i, hi, rfl⟩ := List.mem_iff_getElem.1 hb
    rw [List.length_drop] at hi
    rw [List.getElem_drop]
    have h3 := h1 (k + i) (by omega) (by omega)
    rw [getD_lt (by omega : k + i < o.length)] at h3
    exact leB_of_lt h3
  unfold SortedB at *
  rw [List.pairwise_append, List.pairwise_cons]
  rw [← List.take_append_drop k o, List.pairwise_append] at h
  refine ⟨h.1, ⟨hd, h.2.1⟩, fun a ha b hb => ?_⟩
  rcases List.mem_cons.1 hb with rfl | hb
  · exact ht a ha
  · exact h.2.2 a ha b hb
theorem sortB_sorted (l : List DB) : SortedB (sortB l) := by
  have key : ∀ (l o : List DB), SortedB o → SortedB (l.foldl putB o) := by
    intro l
    induction l with
    | nil => intro o h; exact h
    | cons x l ih => intro o h; exact ih _ (putB_sorted h)
  exact key l [] List.Pairwise.nil
def cmpGo {β : Type} [DecidableEq β] (p : β) : List β → List β
  | [] => []
  | x :: l => if x = p then cmpGo p l else x :: cmpGo x l
def compact {β : Type} [DecidableEq β] : List β → List β
  | [] => []
  | x :: l => x :: cmpGo x l
theorem cmpGo_snoc {β : Type} [DecidableEq β] (x d : β) : ∀ (l : List β) (p : β), cmpGo p (l ++ [x]) = cmpGo p l ++ if x = (p :: l).getLastD d then [] else [x]
  | [], p => by
    simp only [List.nil_append, cmpGo, List.getLastD_cons]
    rfl
  | y :: l, p => by
    rw [List.cons_append, cmpGo, cmpGo]
    have e : ∀ q, (q :: y :: l).getLastD d = (y :: l).getLastD d := fun q => rfl
    split
    · rename_i h
      subst h
      rw [cmpGo_snoc x d l y, e]
    · rw [cmpGo_snoc x d l y, e]
      rfl
theorem compact_succ {β : Type} [DecidableEq β] (d : β) {l : List β} {j : Nat} (h : j + 1 < l.length) : compact (l.take (j + 2)) = compact (l.take (j + 1)) ++ if l.getD (j + 1) d = l.getD j d then [] else [l.getD (j + 1) d] := by
  match l, h with
  | x :: l, h =>
    have hj : j < l.length := by simpa using h
    rw [List.take_succ_cons, List.take_succ_cons, compact, compact, List.take_succ_eq_append_getElem hj, cmpGo_snoc l[j] d]
    have e1 : (x :: l).getD (j + 1) d = l[j] := by rw [getD_lt h]; rfl
    have e2 : (x :: l.take j).getLastD d = (x :: l).getD j d := by
      rw [List.getLastD_eq_getLast?, List.getLast?_eq_getElem?, List.getD_eq_getElem?_getD]
      simp only [List.length_cons, List.length_take, Nat.min_eq_left (Nat.le_of_lt hj), Nat.add_sub_cancel]
      congr 1
      cases j with
      | zero => rfl
      | succ j => rw [List.getElem?_cons_succ, List.getElem?_cons_succ, List.getElem?_take_of_lt (by omega)]
    rw [e1, e2]
    rfl
theorem notDT {p : Prop} [Decidable p] (h : p) : (!decide p) = false := by rw [decT h]; rfl
theorem notDF {p : Prop} [Decidable p] (h : ¬ p) : (!decide p) = true := by rw [decF h]; rfl
/-- How many there are of each, one after another. -/
def addRun (o : List DS) (b : DB) : List DS := match o.getLast? with
  | some x => if x.1 = b then o.dropLast ++ [(b, x.2 + 1)] else o ++ [(b, 1)]
  | none => [(b, 1)]
def runs (l : List DB) : List DS := l.foldl addRun []
theorem runs_take (l : List DB) {p : Nat} (h : p < l.length) : runs (l.take (p + 1)) = addRun (runs (l.take p)) l[p] := by
  unfold runs
  rw [List.take_succ_eq_append_getElem h, List.foldl_append]
  rfl
theorem addRun_last (o : List DS) (b : DB) : ∃ q n, addRun o b = q ++ [(b, n)] := by
  unfold addRun
  split
  · split
    · exact ⟨_, _, rfl⟩
    · exact ⟨_, _, rfl⟩
  · exact ⟨[], 1, rfl⟩
theorem runs_last (l : List DB) {p : Nat} (h : p < l.length) : ∃ q n, runs (l.take (p + 1)) = q ++ [(l[p], n)] := by
  rw [runs_take l h]
  exact addRun_last _ _
theorem runs_bd (l : List DB) : ∀ p, p ≤ l.length → (runs (l.take p)).length ≤ p ∧ ∀ x, x ∈ runs (l.take p) → 0 ≤ x.2 ∧ x.2 ≤ p
  | 0, _ => by simp [runs]
  | p + 1, h => by
    obtain ⟨h1, h2⟩ := runs_bd l p (by omega)
    rw [runs_take l h]
    generalize runs (l.take p) = o at *
    unfold addRun
    split
    · rename_i y hy
      have hm : y ∈ o := List.mem_of_getLast? hy
      have hb := h2 y hm
      have ho : 0 < o.length := List.length_pos_of_mem hm
      split
      · refine ⟨by simp; omega, fun x hx => ?_⟩
        rcases List.mem_append.1 hx with hx | hx
        · have := h2 x ((List.dropLast_prefix _).subset hx); omega
        · obtain rfl := List.mem_singleton.1 hx
          simp only; omega
      · refine ⟨by simp; omega, fun x hx => ?_⟩
        rcases List.mem_append.1 hx with hx | hx
        · have := h2 x hx; omega
        · obtain rfl := List.mem_singleton.1 hx
          simp only; omega
    · refine ⟨by simp, fun x hx => ?_⟩
      obtain rfl := List.mem_singleton.1 hx
      simp only; omega
theorem snoc_set {β : Type} (q : List β) (x y : β) : (q ++ [x]).set q.length y = q ++ [y] := by
  rw [List.set_append_right _ _ (Nat.le_refl _), Nat.sub_self]
  rfl
theorem snoc_getD {β : Type} (q : List β) (x d : β) : (q ++ [x]).getD q.length d = x := by
  rw [List.getD_eq_getElem?_getD, List.getElem?_append_right (Nat.le_refl _), Nat.sub_self]
  rfl
theorem s_l01Counts : Fz34.S (cl PL runs) := Fz34.of_cl fun l h k => by
  have hl : l.length ≤ 1073741824 := h
  unfold Fz34.pf
  refine iter_list l (fun p (o : List DS) => ((p : Int), o)) (fun _ _ => k (runs l)) (fun p o => o = runs (l.take p)) (c := []) rfl (big_lt (by omega)) rfl ?_ ?_
  · rintro p hp o rec rfl hrec
    obtain ⟨b1, b2⟩ := runs_bd l p (by omega)
    have hr := runs_take l hp
    have hnew : ∀ o : List DS, o.length ≤ p → ((((o ++ [(l[p], (0 : Int))]).length : Nat) : Int) - 1 = (o.length : Int)) := fun o ho => by simp
    unfold Fz34.B1
    have app : ∀ o : List DS, o.length ≤ p → rec (((p + 1 : Nat) : Int), o ++ [(l[p], 1)]) = (cond (okL (List.length o + List.length [(l[p], (0 : Int))])) (cond (inB (IntKind.i64.wrap ((((List.length (o ++ [(l[p], (0 : Int))])) : Nat) : Int) - 1)) (List.length (o ++ [(l[p], (0 : Int))]))) (cond (inB (IntKind.i64.wrap ((((List.length (o ++ [(l[p], (0 : Int))])) : Nat) : Int) - 1)) (List.length (o ++ [(l[p], (0 : Int))]))) (rec (((p + 1 : Nat) : Int), (List.set (o ++ [(l[p], (0 : Int))]) (IntKind.i64.wrap ((((List.length (o ++ [(l[p], (0 : Int))])) : Nat) : Int) - 1)).toNat ((List.getD (o ++ [(l[p], (0 : Int))]) (IntKind.i64.wrap ((((List.length (o ++ [(l[p], (0 : Int))])) : Nat) : Int) - 1)).toNat ((0, 0), 0)).1, (IntKind.i64.wrap ((List.getD (o ++ [(l[p], (0 : Int))]) (IntKind.i64.wrap ((((List.length (o ++ [(l[p], (0 : Int))])) : Nat) : Int) - 1)).toNat ((0, 0), 0)).2 + 1)))))) none) none) none) := fun o ho => by
      rw [okS (by simp; omega), hnew o ho, w64 (by omega) (by omega), inB_nat (by simp)]
      simp only [cond_true, Int.toNat_natCast, snoc_getD, snoc_set]
      rw [w64 (by omega) (by omega)]
      rfl
    by_cases c : p = 0
    · subst c
      have e0 : runs (l.take 0) = [] := rfl
      simp only [decT (show ((0 : Nat) : Int) < (l.length : Int) by omega), inB_nat hp, cond_true, Int.toNat_natCast, getD_lt hp, e0, w64n (show 0 < 9223372036854775807 by omega), beqT (show ((0 : Nat) : Int) = 0 from rfl)]
      refine (app [] (Nat.le_refl _)).symm.trans ?_
      exact hrec _ (by rw [hr, e0]; rfl)
    · have ep : IntKind.i64.wrap ((p : Int) - 1) = ((p - 1 : Nat) : Int) := by rw [w64 (by omega) (by omega)]; omega
      have hp1 : p - 1 < l.length := by omega
      obtain ⟨q, n, hq⟩ := runs_last l hp1
      rw [show p - 1 + 1 = p by omega] at hq
      rw [beqF (by omega)]
      simp only [decT (show (p : Int) < (l.length : Int) by omega), inB_nat hp, ep, inB_nat hp1, cond_true, cond_false, Int.toNat_natCast, getD_lt hp, getD_lt hp1, eqB, w64n (show p < 9223372036854775807 by omega)]
      by_cases cc : l[p] = l[p - 1]
      · rw [notDT cc, cond_false]
        have hlen : (((runs (l.take p)).length : Nat) : Int) - 1 = (q.length : Int) := by rw [hq]; simp
        have hn := b2 (l[p - 1], n) (by rw [hq]; simp)
        simp only at hn
        rw [hlen, w64 (by omega) (by rw [hq] at b1; simp at b1; omega), inB_nat (by rw [hq]; simp)]
        simp only [cond_true, Int.toNat_natCast]
        rw [hq, snoc_getD, snoc_set]
        simp only
        rw [w64 (by omega) (by omega)]
        refine hrec _ ?_
        rw [hr, hq]
        unfold addRun
        simp [cc]
      · rw [notDF cc, cond_true]
        refine (app _ b1).symm.trans (hrec _ ?_)
        rw [hr, hq]
        unfold addRun
        simp
        exact fun e => absurd e.symm cc
  · rintro o rec rfl
    unfold Fz34.B1
    rw [decF (by simp), List.take_of_length_le (Nat.le_refl _)]
    rfl
theorem countI_append {β : Type} (p : β → Bool) : ∀ (a b : List β), countI p (a ++ b) = countI p a + countI p b
  | [], b => by simp [countI]
  | x :: a, b => by rw [List.cons_append, countI, countI, countI_append p a b, Int.add_assoc]
theorem countI_perm {β : Type} (p : β → Bool) {a b : List β} (h : a.Perm b) : countI p a = countI p b := by
  induction h with
  | nil => rfl
  | cons x _ ih => rw [countI, countI, ih]
  | swap x y l => rw [countI, countI, countI, countI]; omega
  | trans _ _ h1 h2 => rw [h1, h2]
theorem countI_zero {β : Type} (p : β → Bool) : ∀ (l : List β), (∀ x, x ∈ l → p x = false) → countI p l = 0
  | [], _ => rfl
  | x :: l, h => by
    rw [countI, h x (List.mem_cons_self ..), countI_zero p l (fun y hy => h y (List.mem_cons_of_mem _ hy))]
    rfl
abbrev cntB (b : DB) (l : List DB) : Int := countI (fun y => decide (y = b)) l
/-- So many of each that stands there: in order of their first. -/
def tally (l : List DB) : List DS := (compact l).map fun b => (b, cntB b l)
theorem sorted_last {l : List DB} (h : SortedB l) {p : Nat} (hp : p + 1 < l.length) (hm : l[p + 1] ∈ l.take (p + 1)) : l[p + 1] = l[p] := by
  obtain ⟨i, hi, e⟩ := List.mem_iff_getElem.1 hm
  rw [List.length_take] at hi
  rw [List.getElem_take] at e
  have h1 := h.get (i := i) (j := p) (by omega) (by omega)
  have h2 := h.get (i := p) (j := p + 1) (by omega) hp
  rw [getD_lt (by omega : i < l.length), getD_lt (by omega : p < l.length), e] at h1
  rw [getD_lt (by omega : p < l.length), getD_lt hp] at h2
  exact leB_anti h1 h2
theorem compact_sub {β : Type} [DecidableEq β] : ∀ (l : List β) (x : β), x ∈ compact l → x ∈ l := by
  have key : ∀ (l : List β) (p x : β), x ∈ cmpGo p l → x ∈ l := by
    intro l
    induction l with
    | nil => intro p x h; cases h
    | cons y l ih =>
      intro p x h
      unfold cmpGo at h
      split at h
      · exact List.mem_cons_of_mem _ (ih p x h)
      · rcases List.mem_cons.1 h with rfl | h
        · exact List.mem_cons_self ..
        · exact List.mem_cons_of_mem _ (ih y x h)
  intro l x h
  match l, h with
  | y :: l, h =>
    rcases List.mem_cons.1 h with rfl | h
    · exact List.mem_cons_self ..
    · exact List.mem_cons_of_mem _ (key l y x h)
/-- The last that is left is the last. -/
theorem compact_last {β : Type} [DecidableEq β] (d : β) (l : List β) : ∀ p, p < l.length → ∃ q, compact (l.take (p + 1)) = q ++ [l.getD p d] ∧ compact (l.take p) = (if p = 0 then [] else compact (l.take p))
  | 0, h => ⟨[], by
      match l, h with
      | x :: l, _ => rfl, by simp [compact]⟩
  | p + 1, h => by
    obtain ⟨q, h1, _⟩ := compact_last d l p (by omega)
    rw [compact_succ d h]
    by_cases c : l.getD (p + 1) d = l.getD p d
    · rw [if_pos c, List.append_nil, h1, c]; exact ⟨q, rfl, by simp⟩
    · rw [if_neg c]; exact ⟨_, rfl, by simp⟩
theorem runs_tally (l : List DB) (h : SortedB l) : ∀ p, p ≤ l.length → runs (l.take p) = tally (l.take p)
  | 0, _ => rfl
  | 1, h1 => by
    match l, h1 with
    | x :: l, _ => simp [runs, tally, addRun, compact, cmpGo, countI]
  | p + 2, hp => by
    have ih := runs_tally l h (p + 1) (by omega)
    have hp1 : p + 1 < l.length := by omega
    have hp0 : p < l.length := by omega
    rw [runs_take l hp1, ih]
    have hc := compact_succ (0, 0) hp1
    obtain ⟨q, hq, _⟩ := compact_last (0, 0) l p hp0
    rw [getD_lt hp1, getD_lt hp0] at hc
    rw [getD_lt hp0] at hq
    have ht : l.take (p + 2) = l.take (p + 1) ++ [l[p + 1]] := List.take_succ_eq_append_getElem hp1
    have hcnt : ∀ b, cntB b (l.take (p + 2)) = cntB b (l.take (p + 1)) + cond (decide (l[p + 1] = b)) 1 0 := fun b => by
      rw [cntB, ht, countI_append]
      simp [countI]
    unfold tally
    rw [hc]
    by_cases c : l[p + 1] = l[p]
    · rw [if_pos c, List.append_nil, hq, List.map_append, List.map_append]
      have hnd : ∀ b, b ∈ q → l[p + 1] ≠ b := fun b hb e => by
        -- what is left is each but once
        have key : ∀ j, j ≤ l.length → (compact (l.take j)).Nodup := by
          intro j
          induction j with
          | zero => intro _; simp [compact]
          | succ j ihj =>
            intro hj
            match j, ihj, hj with
            | 0, _, hj =>
              match l, hj with
              | x :: l, _ => simp [compact, cmpGo]
            | j + 1, ihj, hj =>
              rw [compact_succ (0, 0) (by omega)]
              split
              · rw [List.append_nil]; exact ihj (by omega)
              · rename_i hne
                rw [List.nodup_append]
                refine ⟨ihj (by omega), by simp, fun a ha b hb => ?_⟩
                obtain rfl := List.mem_singleton.1 hb
                intro e
                have hm := compact_sub _ _ ha
                rw [e, getD_lt (by omega : j + 1 < l.length)] at hm
                have := sorted_last h (by omega) hm
                rw [getD_lt (by omega : j + 1 < l.length), getD_lt (by omega : j < l.length)] at hne
                exact hne this
        have := key (p + 1) (by omega)
        rw [hq, List.nodup_append] at this
        exact this.2.2 b hb l[p] (by simp) (by rw [← e, c])
      unfold addRun
      simp only [List.map_cons, List.map_nil, List.getLast?_concat, List.dropLast_concat]
      rw [if_pos c.symm, hcnt]
      have e1 : q.map (fun b => (b, cntB b (l.take (p + 1)))) = q.map (fun b => (b, cntB b (l.take (p + 2)))) := by
        refine List.map_congr_left fun b hb => ?_
        rw [hcnt, decF (hnd b hb)]
        simp
      rw [e1, decT c, c]
      rfl
    · rw [if_neg c, List.map_append]
      have hnm : l[p + 1] ∉ l.take (p + 1) := fun hm => c (sorted_last h hp1 hm)
      have e1 : (compact (l.take (p + 1))).map (fun b => (b, cntB b (l.take (p + 1)))) = (compact (l.take (p + 1))).map (fun b => (b, cntB b (l.take (p + 2)))) := by
        refine List.map_congr_left fun b hb => ?_
        rw [hcnt, decF (fun e => hnm (by rw [e]; exact compact_sub _ _ hb))]
        simp
      have e2 : cntB l[p + 1] (l.take (p + 2)) = 1 := by
        rw [hcnt, decT rfl]
        have : cntB l[p + 1] (l.take (p + 1)) = 0 := countI_zero _ _ fun x hx => decF (fun e => hnm (by rw [← e]; exact hx))
        rw [this]
        rfl
      unfold addRun
      rw [hq] at *
      simp only [List.map_append, List.map_cons, List.map_nil, List.getLast?_concat, if_neg (fun e => c (Eq.symm e)), e2]
      rw [← List.map_singleton (f := fun b => (b, cntB b (l.take (p + 1)))), ← List.map_append, e1, List.map_append]
      rfl
/-- The first of which there are most. -/
def pickS (x y : DS) : DS := if y.2 > x.2 then y else x
def most (l : List DS) : DS := l.foldl pickS ((0, 0), 0)
def endM (y : DS) : DB × Int × Int := if y.2 = 0 then ((0, 0), 0, 6) else (y.1, y.2, 0)
def mostOf (c : List DB) : DB × Int × Int := if crateOk c = true then endM (most (tally (sortB (allB c)))) else ((0, 0), 0, 1)
theorem most_take (l : List DS) {p : Nat} (h : p < l.length) : most (l.take (p + 1)) = pickS (most (l.take p)) l[p] := by
  unfold most
  rw [List.take_succ_eq_append_getElem h, List.foldl_append]
  rfl
theorem cntB_pos {b : DB} {l : List DB} (h : b ∈ l) : 1 ≤ cntB b l := by
  induction l with
  | nil => cases h
  | cons x l ih =>
    rw [cntB, countI]
    have h0 := (countI_le (fun y => decide (y = b)) l).1
    rcases List.mem_cons.1 h with rfl | h
    · rw [decT rfl]; simp; omega
    · have := ih h
      rw [cntB] at this
      cases decide (x = b) <;> simp <;> omega
theorem tally_pos {l : List DB} {x : DS} (h : x ∈ tally l) : 1 ≤ x.2 := by
  obtain ⟨b, hb, rfl⟩ := List.mem_map.1 h
  exact cntB_pos (compact_sub _ _ hb)
theorem most_pos : ∀ (l : List DS) (x : DS), 1 ≤ x.2 → 1 ≤ (l.foldl pickS x).2
  | [], x, h => h
  | y :: l, x, h => by
    rw [List.foldl_cons]
    refine most_pos l _ ?_
    unfold pickS
    split
    · omega
    · exact h
theorem s_spec_MostOf : Fz30.S (cl wC mostOf) := Fz30.of_cl s_l01Ok s_l01All s_l01Sorted s_l01Counts fun c h k => by
  have hc : c.length = 12 := h.1
  have hl := allB_len c
  have hs := sortB_len (allB c)
  unfold Fz30.pf mostOf
  rw [cl_eq h, Option.bind_some]
  cases crateOk c with
  | false => rfl
  | true =>
    simp only [Bool.not_true, cond_false, if_true]
    rw [cl_eq (show Cr c from h.1), Option.bind_some, cl_eq (show PL (allB c) by unfold PL; omega), Option.bind_some, cl_eq (show PL (sortB (allB c)) by unfold PL; omega), Option.bind_some]
    have hrt := runs_tally (sortB (allB c)) (sortB_sorted _) _ (Nat.le_refl _)
    rw [List.take_of_length_le (Nat.le_refl _)] at hrt
    obtain ⟨b1, b2⟩ := runs_bd (sortB (allB c)) (sortB (allB c)).length (Nat.le_refl _)
    rw [List.take_of_length_le (Nat.le_refl _), hrt] at b1 b2
    rw [hrt]
    have hpos : ∀ x, x ∈ tally (sortB (allB c)) → 1 ≤ x.2 := fun x hx => tally_pos hx
    generalize tally (sortB (allB c)) = t at *
    match ht : t with
    | [] => rfl
    | x :: t' =>
      rw [← ht] at hpos b1 b2 ⊢
      have h0 : 0 < t.length := by rw [ht]; simp
      have hx : 1 ≤ x.2 := hpos x (by rw [ht]; simp)
      have hm : 1 ≤ (most t).2 := by
        rw [ht]
        unfold most
        rw [List.foldl_cons]
        refine most_pos t' _ ?_
        unfold pickS
        rw [if_pos (by simp only; omega)]
        exact hx
      have hx0 : most (t.take 1) = t.getD 0 ((0, 0), 0) := by
        rw [ht]
        show pickS ((0, 0), 0) x = x
        unfold pickS
        rw [if_pos (by simp only; omega)]
      rw [beqF (by omega), cond_false, inB_true (Int.le_refl 0) (by omega), cond_true]
      unfold endM
      rw [if_neg (by omega)]
      have := iter_fold (B := Fz30.B1 (0, 0) t (fun (x1 : Int × DS) => k (x1.2.1, x1.2.2, 0))) t (fun p (y : DS) => ((p : Int), y)) (fun _ _ => k ((most t).1, (most t).2, 0)) (fun p y => y = most (t.take p)) ?_ ?_ (t.length - 1) 1 (t.getD 0 ((0, 0), 0)) BIG (by omega) (big_lt (by omega)) hx0.symm
      · exact this
      · rintro p hp y rec rfl hrec
        unfold Fz30.B1
        simp only [decT (show (p : Int) < (t.length : Int) by omega), inB_nat hp, cond_true, Int.toNat_natCast, getD_lt hp, w64n (show p < 9223372036854775807 by omega)]
        have hmt := most_take t hp
        unfold pickS at hmt
        by_cases q : (t[p]).2 > (most (t.take p)).2
        · rw [if_pos q] at hmt
          rw [decT q, cond_true]
          exact hrec _ hmt.symm
        · rw [if_neg q] at hmt
          rw [decF q, cond_false]
          exact hrec _ hmt.symm
      · rintro y rec rfl
        unfold Fz30.B1
        rw [decF (by simp), List.take_of_length_le (Nat.le_refl _)]
        rfl
/-- Each one asked, or each of those that are left: it comes to the same. -/
def pickB (f : DB → Int) (x : DS) (b : DB) : DS := if f b > x.2 then (b, f b) else x
theorem pick_compact (f : DB → Int) : ∀ (l : List DB) (x : DS) (p : DB), f p ≤ x.2 → l.foldl (pickB f) x = ((cmpGo p l).map fun b => (b, f b)).foldl pickS x
  | [], x, p, _ => rfl
  | y :: l, x, p, h => by
    rw [List.foldl_cons, cmpGo]
    split
    · rename_i e
      subst e
      have : pickB f x y = x := by unfold pickB; rw [if_neg (by omega)]
      rw [this]
      exact pick_compact f l x y h
    · rw [List.map_cons, List.foldl_cons]
      have e : pickS x (y, f y) = pickB f x y := rfl
      rw [e]
      refine pick_compact f l _ y ?_
      unfold pickB
      split
      · exact Int.le_refl _
      · omega
theorem pick_all (f : DB → Int) (l : List DB) (x : DS) : l.foldl (pickB f) x = ((compact l).map fun b => (b, f b)).foldl pickS x := by
  match l with
  | [] => rfl
  | y :: l =>
    rw [List.foldl_cons, compact, List.map_cons, List.foldl_cons]
    have e : pickS x (y, f y) = pickB f x y := rfl
    rw [e]
    refine pick_compact f l _ y ?_
    unfold pickB
    split
    · exact Int.le_refl _
    · omega
theorem cntB_all {b : DB} (hb : b ≠ (0, 0)) : ∀ c : List DB, cntB b (allB c) = cntB b c
  | [] => rfl
  | x :: c => by
    have ih := cntB_all hb c
    unfold cntB allB at *
    rw [List.filter_cons]
    by_cases q : x = (0, 0)
    · simp only [q, decide_true, Bool.not_true, Bool.false_eq_true, if_false, countI]
      rw [decF (fun e => hb e.symm), ih]
      simp
    · simp only [decF q, Bool.not_false, if_true, countI, ih]
theorem s_impl_MostOf : Fz8.S (cl wC mostOf) := Fz8.of_cl s_ValidCrate s_crateSorted s_countOf fun c h k => by
  have hc : c.length = 12 := h.1
  have hl := allB_len c
  have hs := sortB_len (allB c)
  unfold Fz8.pf mostOf
  rw [cl_eq h, Option.bind_some]
  cases crateOk c with
  | false => rfl
  | true =>
    simp only [Bool.not_true, cond_false, if_true]
    rw [cl_eq (show Cr c from h.1), Option.bind_some]
    have hne : ∀ b, b ∈ sortB (allB c) → b ≠ (0, 0) := fun b hb => by
      have := (sortB_perm (allB c)).mem_iff.1 hb
      have := (List.mem_filter.1 this).2
      simpa using this
    have hcnt : ∀ b, b ∈ sortB (allB c) → cntB b c = cntB b (sortB (allB c)) := fun b hb => by
      rw [cntB, cntB, countI_perm _ (sortB_perm (allB c))]
      exact (cntB_all (hne b hb) c).symm
    have hmost : most (tally (sortB (allB c))) = (sortB (allB c)).foldl (pickB fun b => cntB b c) ((0, 0), 0) := by
      rw [pick_all]
      unfold most tally
      congr 1
      exact List.map_congr_left fun b hb => by rw [hcnt b (compact_sub _ _ hb)]
    rw [hmost]
    generalize sortB (allB c) = s at *
    refine (iter_list s (fun p (y : DS) => (y.2, (p : Int), y.1)) (fun q y => k (endM (q.foldl (pickB fun b => cntB b c) y))) (fun _ _ => True) (c := ((0, 0), 0)) rfl (big_lt (by omega)) trivial ?_ ?_)
    · rintro p hp y rec _ hrec
      unfold Fz8.B1
      simp only [decT (show (p : Int) < (s.length : Int) by omega), inB_nat hp, cond_true, Int.toNat_natCast, getD_lt hp, cl_eq (show POne ([c], s[p]) from ⟨c, rfl, hc⟩), Option.bind_some, List.getD_cons_zero, w64n (show p < 9223372036854775807 by omega), List.foldl_cons]
      by_cases q : cntB s[p] c > y.2
      · have e : pickB (fun b => cntB b c) y s[p] = (s[p], cntB s[p] c) := if_pos q
        rw [decT q, cond_true, e]
        exact hrec (s[p], cntB s[p] c) trivial
      · have e : pickB (fun b => cntB b c) y s[p] = y := if_neg q
        rw [decF q, cond_false, e]
        exact hrec y trivial
    · rintro y rec _
      unfold Fz8.B1
      rw [decF (by simp)]
      simp only [cond_false, List.foldl_nil]
      unfold endM
      by_cases q : y.2 = 0
      · rw [beqT q, if_pos q]; rfl
      · rw [beqF q, if_neg q]; rfl
theorem s_law_MostOf : laws_FnExactMostOf.S (cl wC fun _ => true) := laws_FnExactMostOf.of_cl s_toCrate s_spec_MostOf s_impl_MostOf s_eqBottle fun c h k => by
  have h : wC c := h
  unfold laws_FnExactMostOf.pf
  simp only [cl_eq (show Cr c from h.1), Option.bind_some, cl_eq h, bneS, tot_eq, decide_true, Bool.not_true, cond_false]
end Go.Proofs.Ytjajlmaldeoobaa.G
