/- Plain proofs: what the functions answer, in plain lists and numbers. -/
import Derived.Test.YtjajlmaldeoobaaRd0
import Derived.Test.YtjajlmaldeoobaaRd1
import Derived.Test.YtjajlmaldeoobaaRd2
import Derived.Test.YtjajlmaldeoobaaRd3
import Derived.Test.YtjajlmaldeoobaaRd4
namespace Go.Proofs.Ytjajlmaldeoobaa.G
open Go
set_option linter.unusedVariables false
set_option linter.unusedSimpArgs false
set_option maxRecDepth 10000
abbrev DB := Int × Int
abbrev DS := DB × Int
theorem s_toBottle : Fz24.S (tot fun x => x) := Fz24.of_tot fun x k => rfl
/-- A copy, element by element. -/
theorem copied {β : Type} {l o : List β} {k : Nat} {d : β} (h : k < l.length) (ho : o.length = l.length) (hp : o.take k = l.take k) : (o.set k l[k]).take (k + 1) = l.take (k + 1) ∧ (o.set k l[k]).length = l.length := by
  refine ⟨?_, by simpa using ho⟩
  rw [List.take_succ_eq_append_getElem (by simpa [ho] using h), List.take_succ_eq_append_getElem h, List.take_set_of_le (Nat.le_refl k), hp]
  simp
theorem eqB (a b : DB) : eqV (.st (.pair (.int .u8) (.int .i16))) a b = decide (a = b) := by
  obtain ⟨a1, a2⟩ := a
  obtain ⟨b1, b2⟩ := b
  simp only [eqV]
  rw [Bool.eq_iff_iff]
  simp
/-- Lists of one length are alike where no pair of elements differs. -/
theorem any_eq {β : Type} [DecidableEq β] : ∀ (a b : List β), a.length = b.length → (a.zip b).any (fun p => !decide (p.1 = p.2)) = !decide (a = b)
  | [], [], _ => by simp
  | [], _ :: _, h => by simp at h
  | _ :: _, [], h => by simp at h
  | x :: a, y :: b, h => by
    rw [List.zip_cons_cons, List.any_cons, any_eq a b (by simpa using h)]
    by_cases c : x = y <;> by_cases c2 : a = b <;> simp [c, c2]
theorem zip_at {β γ : Type} {a : List β} {b : List γ} {k : Nat} (h : k < (a.zip b).length) : (a.zip b)[k] = (a[k]'(by simp at h; omega), b[k]'(by simp at h; omega)) := by simp
theorem take_set {β : Type} {l : List β} {k : Nat} {x : β} (h : k < l.length) : (l.set k x).take (k + 1) = l.take k ++ [x] := by
  rw [List.take_succ_eq_append_getElem (by simpa using h), List.take_set_of_le (Nat.le_refl k)]
  simp
theorem zip_len {β γ : Type} {a : List β} {b : List γ} (h : a.length = b.length) : (a.zip b).length = a.length := by simp [h]
def validB (b : DB) : Bool := decide (1 ≤ b.1) && decide (b.1 ≤ 20) && (decide (1900 ≤ b.2) && decide (b.2 ≤ 2099))
/-- Whole numbers of their kinds. -/
def wB (b : DB) : Prop := 0 ≤ b.1 ∧ b.1 ≤ 255 ∧ -32768 ≤ b.2 ∧ b.2 ≤ 32767
theorem s_l00In : spec_l00In.S (tot fun x => decide (x.2.1 ≤ x.1) && decide (x.1 ≤ x.2.2)) := spec_l00In.of_tot fun x k => by
  unfold spec_l00In.pf
  by_cases c : x.2.1 ≤ x.1
  · rw [decT (show x.1 ≥ x.2.1 from c)]; rfl
  · rw [decF (show ¬ x.1 ≥ x.2.1 from c)]; rfl
theorem s_within : Fz21.S (tot fun x => decide (x.2.1 ≤ x.1) && decide (x.1 ≤ x.2.2)) := Fz21.of_tot fun x k => by
  unfold Fz21.pf
  by_cases c : x.2.1 ≤ x.1
  · rw [decT c]; rfl
  · rw [decF c]; rfl
theorem s_l01Bottle : Fz49.S (cl wB validB) := Fz49.of_cl s_l00In fun x ⟨h1, h2, h3, h4⟩ k => by
  unfold Fz49.pf validB
  simp only [tot_eq, Option.bind_some, w64 (n := x.1) (by omega) (by omega), w64 (n := x.2) (by omega) (by omega)]
  cases decide (1 ≤ x.1) && decide (x.1 ≤ 20) <;> rfl
theorem s_ValidBottle : Fz11.S (cl wB validB) := Fz11.of_cl s_within fun x ⟨h1, h2, h3, h4⟩ k => by
  unfold Fz11.pf validB
  simp only [tot_eq, Option.bind_some, w64 (n := x.1) (by omega) (by omega), w64 (n := x.2) (by omega) (by omega)]
  cases decide (1 ≤ x.1) && decide (x.1 ≤ 20) <;> rfl
theorem any_not {β : Type} (l : List β) (p : β → Bool) : (l.any fun x => !p x) = !l.all p := by
  induction l with
  | nil => rfl
  | cons x l ih => rw [List.any_cons, List.all_cons, ih, Bool.not_and]
/-- Where the first one is. -/
def indexI {β : Type} (p : β → Bool) (l : List β) : Int := match l.findIdx? p with
  | some i => i
  | none => -1
theorem firstOr_index {α β : Type} (p : β → Bool) (k : Int → Option α) : ∀ (l : List β) (j : Nat), firstOr p (fun i _ => k (i : Int)) (k (-1)) j l = k (match l.findIdx? p with | some i => ((j + i : Nat) : Int) | none => -1)
  | [], _ => rfl
  | x :: l, j => by
    rw [firstOr, List.findIdx?_cons]
    cases p x with
    | true => simp
    | false =>
      rw [cond_false, firstOr_index p k l]
      cases l.findIdx? p with
      | none => rfl
      | some i => simp [Nat.add_assoc, Nat.add_comm 1 i]
theorem indexI_nn {β : Type} (p : β → Bool) (l : List β) : decide (indexI p l ≥ 0) = l.any p := by
  unfold indexI
  cases h : l.findIdx? p with
  | none =>
    have := List.findIdx?_eq_none_iff.1 h
    simp only
    rw [decF (by omega)]
    symm
    rw [List.any_eq_false]
    intro x hx
    simpa using this x hx
  | some i =>
    simp only
    rw [decT (by omega)]
    symm
    obtain ⟨hi, hp, _⟩ := List.findIdx?_eq_some_iff_getElem.1 h
    exact List.any_eq_true.2 ⟨_, List.getElem_mem hi, hp⟩
theorem good_B {b : DB} (h : goodV (.st (.pair (.int .u8) (.int .i16))) b) : wB b := by
  obtain ⟨h1, h2⟩ := h
  simp only [goodV, Lit.wf, IntKind.min, IntKind.max, IntKind.bits, IntKind.signed] at h1 h2
  simp at h1 h2
  unfold wB
  omega
theorem bneS (a : Int) : (a != a) = false := by simp
theorem okS {n : Nat} (h : n ≤ 4294967296) : okL n = true := okL_true h
/-- Few lanes, each of them short. -/
def Few (o : List (List DS)) : Prop := o.length ≤ 8 ∧ ∀ x, x ∈ o → x.length ≤ 6
theorem Few.set {o : List (List DS)} (h : Few o) {n : Nat} {x : List DS} (hx : x.length ≤ 6) : Few (o.set n x) := ⟨by rw [List.length_set]; exact h.1, fun y hy => by
  rcases List.mem_or_eq_of_mem_set hy with q | rfl
  · exact h.2 y q
  · exact hx⟩
theorem s_eqInt64S : Fz23.S (cl PL1 fun x => decide (x.1 = x.2)) := Fz23.of_cl fun x h k => by
  obtain ⟨a, b⟩ := x
  have hl : a.length ≤ 1073741824 := h
  show Fz23.pf BIG a b k = k (decide (a = b))
  unfold Fz23.pf
  by_cases c : a.length = b.length
  · rw [show (((a.length : Nat) : Int) != ((b.length : Nat) : Int)) = false by simp [c], cond_false]
    have hz : (a.zip b).length = a.length := by simp [c]
    rw [iter_first (a.zip b) (fun i => (i : Int)) (fun p => !decide (p.1 = p.2)) (fun _ _ => k false) (k true) (x := 0) rfl (big_lt (by omega)) ?_ ?_, firstOr_const, any_eq a b c]
    · by_cases e : a = b <;> simp [e]
    · intro i hi rec
      have h1 : i < a.length := by omega
      have h2 : i < b.length := by omega
      unfold Fz23.B1
      rw [zip_at hi]
      simp only [decT (show (i : Int) < (a.length : Int) by omega), inB_nat h1, inB_nat h2, cond_true, Int.toNat_natCast, getD_lt h1, getD_lt h2, w64n (show i < 9223372036854775807 by omega)]
      by_cases e : a[i] = b[i]
      · rw [bneF e, decT e]; rfl
      · rw [bneT e, decF e]; rfl
    · intro rec
      unfold Fz23.B1
      rw [decF (by omega)]
      rfl
  · rw [show (((a.length : Nat) : Int) != ((b.length : Nat) : Int)) = true by simpa using fun q => c (by omega), cond_true]
    rw [decF (fun e => c (by rw [e]))]
/-- What is left of some when those are gone that a test tells, and what lies behind it. -/
def keptOf {β : Type} (d : β) (p : β → Bool) (l : List β) : Option (Nat × Nat) × List β :=
  if l.any p = true then (some (0, (l.filter fun x => !p x).length), (l.filter fun x => !p x) ++ List.replicate (l.length - (l.filter fun x => !p x).length) d) else (none, l)
theorem kept_cut {β : Type} (d : β) (p : β → Bool) (l : List β) : Win.cut (keptOf d p l).1 (keptOf d p l).2 = l.filter fun x => !p x := by
  unfold keptOf
  by_cases c : l.any p = true
  · rw [if_pos c]
    simp [Win.cut]
  · rw [if_neg c]
    symm
    show l.filter _ = l
    rw [List.filter_eq_self]
    intro x hx
    simp only [List.any_eq_true, not_exists, not_and, Bool.not_eq_true] at c
    simp [c x hx]
def wBs (l : List DB) : Prop := l.length ≤ 1073741824 ∧ ∀ b, b ∈ l → wB b
/-- All that lies in a rack. -/
def AllIn (Q : DS → Prop) (o : List (List DS)) : Prop := ∀ l, l ∈ o → ∀ s, s ∈ l → Q s
theorem AllIn.set {Q : DS → Prop} {o : List (List DS)} (h : AllIn Q o) {n : Nat} {x : List DS} (hx : ∀ s, s ∈ x → Q s) : AllIn Q (o.set n x) := fun l hl s hs => by
  rcases List.mem_or_eq_of_mem_set hl with q | rfl
  · exact h l q s hs
  · exact hx s hs
/-- A crate: twelve places. -/
def Cr (c : List DB) : Prop := c.length = 12
theorem s_toCrate : Fz25.S (cl Cr fun c => c) := Fz25.of_cl s_toBottle fun l h k => by
  have h : l.length = 12 := h
  unfold Fz25.pf
  refine (iter_list (B := Fz25.B1 (tot fun x => x) l (List.replicate 12 (0, 0)) fun x1 => k x1.2) l (fun i (c : List DB) => ((i : Int), c)) (fun _ _ => k l) (fun i c => c.length = l.length ∧ c.take i = l.take i) (c := List.replicate 12 (0, 0)) (by simp) (big_lt (by omega)) (by simp [h]) ?_ ?_)
  · rintro i hi c rec ⟨h1, h2⟩ hrec
    unfold Fz25.B1
    simp only [decT (show (i : Int) < 12 by omega), inB_nat (show i < 12 by omega), cond_true, Int.toNat_natCast, getD_lt hi, tot_eq, Option.bind_some, w64n (show i < 9223372036854775807 by omega)]
    have := copied (d := ((0, 0) : DB)) hi h1 h2
    exact hrec _ ⟨this.2, this.1⟩
  · rintro c rec ⟨h1, h2⟩
    unfold Fz25.B1
    rw [decF (by simp only; omega)]
    rw [List.take_of_length_le (by omega), List.take_of_length_le (Nat.le_refl _)] at h2
    simp only [cond_false, h2]
def Cr2 (x : List DB × List DB) : Prop := Cr x.1 ∧ Cr x.2
theorem s_cloneB : Fz29.S (cl PL fun l => l) := Fz29.of_cl fun l h k => by
  have h : l.length ≤ 1073741824 := h
  unfold Fz29.pf
  simp only [List.nil_append, List.length_nil]
  rw [okS (by omega)]
  cases l with
  | nil => exact both_same _
  | cons x l => rfl

theorem s_l01Free : Fz50.S (tot fun b => decide (b = (0, 0))) := Fz50.of_tot fun b k => by
  unfold Fz50.pf
  rw [eqB]
def okB (b : DB) : Bool := decide (b = (0, 0)) || validB b
def crateOk (c : List DB) : Bool := c.all okB
def wC (c : List DB) : Prop := c.length = 12 ∧ ∀ b, b ∈ c → wB b
theorem s_l01Ok : spec_l01Ok.S (cl wC crateOk) := spec_l01Ok.of_cl s_l01Free s_l01Bottle fun c h k => by
  obtain ⟨hl, hw⟩ := h
  unfold spec_l01Ok.pf
  rw [iter_first c (fun i => (i : Int)) (fun b => !okB b) (fun _ _ => k false) (k true) (x := 0) rfl (big_lt (by omega)) ?_ ?_, firstOr_const, any_not]
  · unfold crateOk
    cases c.all okB <;> rfl
  · intro i hi rec
    unfold spec_l01Ok.B1
    simp only [decT (show (i : Int) < 12 by omega), inB_nat (show i < 12 by omega), cond_true, Int.toNat_natCast, getD_lt hi, tot_eq, cl_eq (hw _ (List.getElem_mem hi)), Option.bind_some, w64n (show i < 9223372036854775807 by omega), okB]
    cases decide (c[i] = (0, 0)) <;> cases validB c[i] <;> rfl
  · intro rec
    unfold spec_l01Ok.B1
    rw [decF (by omega)]
    rfl
/-- How many are told by a test. -/
def countI {β : Type} (p : β → Bool) : List β → Int
  | [] => 0
  | x :: l => cond (p x) 1 0 + countI p l
theorem s_ValidCrate_1 : Fz13.S (cl wB fun s => !okB s) := Fz13.of_cl s_ValidBottle fun x h k => by
  unfold Fz13.pf okB
  rw [eqB]
  by_cases c : x = (0, 0)
  · rw [decT c]; rfl
  · rw [decF c, cl_eq h]; rfl
theorem s_index_vc : Fz37.S (cl wBs fun l => indexI (fun s => !okB s) l) := Fz37.of_cl s_ValidCrate_1 fun x h k => by
  have hl : x.length ≤ 1073741824 := h.1
  unfold Fz37.pf
  rw [iter_first x (fun i => (i : Int)) (fun s => !okB s) (fun i _ => k (i : Int)) (k (-1)) (x := 0) rfl (big_lt (by omega)) ?_ ?_, firstOr_index]
  · unfold indexI
    congr 1
    cases x.findIdx? (fun s => !okB s) <;> simp
  · intro i hi rec
    unfold Fz37.B1
    simp only [decT (show (i : Int) < (x.length : Int) by omega), inB_nat hi, cond_true, Int.toNat_natCast, getD_lt hi, cl_eq (h.2 _ (List.getElem_mem hi)), Option.bind_some, w64n (show i < 9223372036854775807 by omega)]
  · intro rec
    unfold Fz37.B1
    rw [decF (by omega)]
    rfl
theorem s_contains_vc : Fz32.S (cl wBs fun l => l.any (fun s => !okB s)) := Fz32.of_cl s_index_vc fun x h k => by
  unfold Fz32.pf
  rw [cl_eq h, Option.bind_some, indexI_nn]
theorem wC.bs {c : List DB} (h : wC c) : wBs c := ⟨by have := h.1; omega, h.2⟩
theorem s_ValidCrate : Fz12.S (cl wC crateOk) := Fz12.of_cl s_contains_vc fun x h k => by
  unfold Fz12.pf crateOk
  rw [cl_eq h.bs, Option.bind_some, any_not, Bool.not_not]
theorem s_bottles_1 : Fz8.S (tot fun b => decide (b = (0, 0))) := Fz8.of_tot fun x k => by
  unfold Fz8.pf
  rw [eqB]
theorem s_index_cb : Fz36.S (cl PL fun l => indexI (fun b => decide (b = (0, 0))) l) := Fz36.of_cl s_bottles_1 fun x h k => by
  have hl : x.length ≤ 1073741824 := h
  unfold Fz36.pf
  rw [iter_first x (fun i => (i : Int)) (fun b => decide (b = (0, 0))) (fun i _ => k (i : Int)) (k (-1)) (x := 0) rfl (big_lt (by omega)) ?_ ?_, firstOr_index]
  · unfold indexI
    congr 1
    cases x.findIdx? (fun b => decide (b = (0, 0))) <;> simp
  · intro i hi rec
    unfold Fz36.B1
    simp only [decT (show (i : Int) < (x.length : Int) by omega), inB_nat hi, cond_true, Int.toNat_natCast, getD_lt hi, tot_eq, Option.bind_some, w64n (show i < 9223372036854775807 by omega)]
  · intro rec
    unfold Fz36.B1
    rw [decF (by omega)]
    rfl
theorem s_delete_cb : Fz34.S (cl PL fun l => keptOf (0, 0) (fun b => decide (b = (0, 0))) l) := Fz34.of_cl s_index_cb s_bottles_1 fun l h k => by
  have hl : l.length ≤ 1073741824 := h
  show Fz34.pf _ _ BIG l k = k (keptOf (0, 0) (fun b => decide (b = (0, 0))) l)
  unfold Fz34.pf
  rw [cl_eq h, Option.bind_some]
  generalize hp : (fun b : DB => decide (b = (0, 0))) = p
  unfold indexI keptOf
  cases hf : l.findIdx? p with
  | none =>
    have := List.findIdx?_eq_none_iff.1 hf
    rw [if_neg (by simpa using this)]
    rfl
  | some i =>
    obtain ⟨hi, hpi, hbef⟩ := List.findIdx?_eq_some_iff_getElem.1 hf
    rw [if_pos (List.any_eq_true.2 ⟨_, List.getElem_mem hi, hpi⟩)]
    simp only
    rw [beqF (by omega), cond_false, w64n (by omega)]
    have h0 : (l.take i).filter (fun x => !p x) = l.take i := by
      rw [List.filter_eq_self]
      intro x hx
      obtain ⟨j, hj, rfl⟩ := List.mem_iff_getElem.1 hx
      have hj' : j < i := by simp at hj; omega
      have := hbef j hj'
      simpa using this
    have h1 : (l.take (i + 1)).filter (fun x => !p x) = l.take i := by
      rw [List.take_succ_eq_append_getElem hi, List.filter_append, h0]
      simp [hpi]
    have := iter_fold (B := Fz34.B1 (tot p) fun (x1 : Int × Int × List DB) => cond (inW x1.1 (((List.length x1.2.2) : Nat) : Int) (List.length x1.2.2)) (cond (inW 0 x1.1 (List.length (overL x1.2.2 x1.1.toNat (List.replicate ((((List.length x1.2.2) : Nat) : Int) - x1.1).toNat (0, 0))))) (k ((some (0, (x1.1 - 0).toNat)), (overL x1.2.2 x1.1.toNat (List.replicate ((((List.length x1.2.2) : Nat) : Int) - x1.1).toNat (0, 0))))) none) none)
      l (fun j (c : List DB) => ((((l.take j).filter fun x => !p x).length : Int), (j : Int), c)) (fun _ _ => k (some (0, (l.filter fun x => !p x).length), (l.filter fun x => !p x) ++ List.replicate (l.length - (l.filter fun x => !p x).length) (0, 0))) (fun j c => c.length = l.length ∧ c.drop j = l.drop j ∧ c.take ((l.take j).filter fun x => !p x).length = (l.take j).filter fun x => !p x) ?_ ?_ (l.length - (i + 1)) (i + 1) l BIG (by omega) (big_lt (by omega)) ⟨rfl, rfl, by rw [h1]; simp⟩
    · rw [h1, List.length_take, Nat.min_eq_left (by omega)] at this
      exact this
    · rintro j hj c rec ⟨e1, e2, e3⟩ hrec
      have hjc : j < c.length := by omega
      have hcj : c[j] = l[j] := by
        have := congrArg (fun z => z[0]?) e2
        simpa [hjc, hj] using this
      have hm : ((l.take j).filter fun x => !p x).length ≤ j := by
        have := List.length_filter_le (fun x => !p x) (l.take j)
        rw [List.length_take] at this
        omega
      have ht : (l.take (j + 1)).filter (fun x => !p x) = (l.take j).filter (fun x => !p x) ++ if p l[j] = true then [] else [l[j]] := by
        rw [List.take_succ_eq_append_getElem hj, List.filter_append]
        cases hq : p l[j] <;> simp [hq]
      unfold Fz34.B1
      simp only [e1, decT (show (j : Int) < (l.length : Int) by omega), inB_nat hj, cond_true, Int.toNat_natCast, getD_lt hjc, hcj, tot_eq, Option.bind_some, w64n (show j < 9223372036854775807 by omega)]
      cases hq : p l[j] with
      | true =>
        rw [hq, if_pos rfl, List.append_nil] at ht
        have := hrec c ⟨e1, by
          have := congrArg (List.drop 1) e2
          simpa [List.drop_drop, Nat.add_comm] using this, by rw [ht]; exact e3⟩
        rw [ht] at this
        exact this
      | false =>
        rw [hq] at ht
        simp only [Bool.false_eq_true, if_false] at ht
        have hlen : ((l.take (j + 1)).filter fun x => !p x).length = ((l.take j).filter fun x => !p x).length + 1 := by rw [ht]; simp
        have hmc : ((l.take j).filter fun x => !p x).length < c.length := by omega
        have := hrec (c.set ((l.take j).filter fun x => !p x).length l[j]) ⟨by simpa using e1, by
          rw [List.drop_set_of_lt (by omega)]
          have := congrArg (List.drop 1) e2
          simpa [List.drop_drop, Nat.add_comm] using this, by
          rw [hlen, take_set hmc, e3, ht]⟩
        rw [hlen] at this
        simp only [Bool.not_false, cond_true, inB_nat (show ((l.take j).filter fun x => !p x).length < l.length by omega), w64n (show ((l.take j).filter fun x => !p x).length < 9223372036854775807 by omega)]
        exact this
    · rintro c rec ⟨e1, e2, e3⟩
      have eT : l.take l.length = l := List.take_of_length_le (Nat.le_refl _)
      rw [eT] at e3
      simp only [eT]
      have hm := List.length_filter_le (fun x => !p x) l
      unfold Fz34.B1
      rw [decF (by simp only; omega)]
      simp only [cond_false, e1]
      rw [inW_true (by omega) (by omega) (by omega), cond_true]
      have e4 : overL c (((l.filter fun x => !p x).length : Nat) : Int).toNat (List.replicate ((((l.length : Nat) : Int)) - (((l.filter fun x => !p x).length : Nat) : Int)).toNat (0, 0)) = (l.filter fun x => !p x) ++ List.replicate (l.length - (l.filter fun x => !p x).length) (0, 0) := by
        unfold overL
        rw [Int.toNat_natCast, e3, List.drop_eq_nil_of_le (by simp; omega), List.append_nil]
        congr 2
        omega
      rw [e4, inW_true (by omega) (by omega) (by simp; omega), cond_true]
      congr 3
theorem s_crateBottles : Fz7.S (cl Cr fun c => c.filter fun b => !decide (b = (0, 0))) := Fz7.of_cl s_cloneB s_delete_cb fun c h k => by
  have hl : c.length = 12 := h
  have hp : PL c := by unfold PL; omega
  unfold Fz7.pf
  rw [cl_eq hp, Option.bind_some, cl_eq hp, Option.bind_some, kept_cut]
def bLt (x y : DB) : Bool := decide (x.1 < y.1) || (decide (x.1 = y.1) && decide (x.2 < y.2))
def cmpB (x : DB × DB) : Int := if x.1.1 < x.2.1 then -1 else if x.1.1 > x.2.1 then 1 else if x.1.2 < x.2.2 then -1 else if x.1.2 > x.2.2 then 1 else 0
theorem cmpB_lt (x y : DB) : decide (cmpB (x, y) < 0) = bLt x y := by
  obtain ⟨x1, x2⟩ := x
  obtain ⟨y1, y2⟩ := y
  unfold cmpB bLt
  simp only
  by_cases h1 : x1 < y1
  · simp [h1]
  · by_cases h2 : x1 > y1
    · simp [h1, h2]; omega
    · have : x1 = y1 := by omega
      subst this
      by_cases h3 : x2 < y2
      · simp [h3]
      · by_cases h4 : x2 > y2
        · simp [h3, h4]
        · simp [h3, h4]
theorem s_spec_Compare : Fz45.S (tot cmpB) := Fz45.of_tot fun x k => by
  obtain ⟨⟨x1, x2⟩, y1, y2⟩ := x
  unfold Fz45.pf cmpB
  simp only
  by_cases h1 : x1 < y1
  · rw [decT h1, if_pos h1]; rfl
  · rw [decF h1, if_neg h1]
    by_cases h2 : x1 > y1
    · rw [decT h2, if_pos h2]; rfl
    · rw [decF h2, if_neg h2]
      by_cases h3 : x2 < y2
      · rw [decT h3, if_pos h3]; rfl
      · rw [decF h3, if_neg h3]
        by_cases h4 : x2 > y2
        · rw [decT h4, if_pos h4]; rfl
        · rw [decF h4, if_neg h4]; rfl
def cmpI (x : Int × Int) : Int := if x.1 < x.2 then -1 else if x.1 > x.2 then 1 else 0
theorem s_isNaN8 : Fz6.S (tot fun _ => false) := Fz6.of_tot fun x k => by unfold Fz6.pf; rw [bneF rfl]
theorem s_isNaN16 : Fz4.S (tot fun _ => false) := Fz4.of_tot fun x k => by unfold Fz4.pf; rw [bneF rfl]
theorem s_cmp8 : Fz1.S (tot cmpI) := Fz1.of_tot s_isNaN8 fun x k => by
  obtain ⟨x, y⟩ := x
  unfold Fz1.pf cmpI
  simp only [tot_eq, Option.bind_some, cond_false]
  by_cases h1 : x < y
  · rw [decT h1, if_pos h1]; rfl
  · rw [decF h1, if_neg h1]
    by_cases h2 : x > y
    · rw [decT h2, if_pos h2]; rfl
    · rw [decF h2, if_neg h2]; rfl
theorem s_cmp16 : Fz0.S (tot cmpI) := Fz0.of_tot s_isNaN16 fun x k => by
  obtain ⟨x, y⟩ := x
  unfold Fz0.pf cmpI
  simp only [tot_eq, Option.bind_some, cond_false]
  by_cases h1 : x < y
  · rw [decT h1, if_pos h1]; rfl
  · rw [decF h1, if_neg h1]
    by_cases h2 : x > y
    · rw [decT h2, if_pos h2]; rfl
    · rw [decF h2, if_neg h2]; rfl
def orL (l : List Int) : Int := (l.find? fun x => x != 0).getD 0
theorem firstOr_find {α : Type} (k : Int → Option α) : ∀ (l : List Int) (j : Nat), firstOr (fun x => x != 0) (fun _ x => k x) (k 0) j l = k (orL l)
  | [], _ => rfl
  | x :: l, j => by
    rw [firstOr, firstOr_find k l]
    unfold orL
    rw [List.find?_cons]
    cases hx : x != 0 <;> rfl
theorem s_cmpOr : cmp_Or_int.S (cl PL orL) := cmp_Or_int.of_cl fun l h k => by
  have h : l.length ≤ 1073741824 := h
  unfold cmp_Or_int.pf
  rw [iter_first l (fun i => (i : Int)) (fun x => x != 0) (fun _ x => k x) (k 0) (x := 0) rfl (big_lt (by omega)) ?_ ?_, firstOr_find]
  · intro i hi rec
    unfold cmp_Or_int.B1
    simp only [decT (show (i : Int) < (l.length : Int) by omega), inB_nat hi, cond_true, Int.toNat_natCast, getD_lt hi, w64n (show i < 9223372036854775807 by omega)]
  · intro rec
    unfold cmp_Or_int.B1
    rw [decF (by omega)]
    rfl
theorem s_compare : Fz17.S (tot cmpB) := Fz17.of_tot s_cmp8 s_cmp16 s_cmpOr fun x k => by
  obtain ⟨⟨x1, x2⟩, y1, y2⟩ := x
  unfold Fz17.pf
  simp only [tot_eq, Option.bind_some]
  rw [cl_eq (show PL [cmpI (x1, y1), cmpI (x2, y2)] by unfold PL; simp), Option.bind_some]
  congr 1
  unfold orL cmpI cmpB
  simp only
  by_cases h1 : x1 < y1
  · simp [h1]
  · by_cases h2 : x1 > y1
    · simp [h1, h2]
    · by_cases h3 : x2 < y2
      · simp [h1, h2, h3]
      · by_cases h4 : x2 > y2
        · simp [h1, h2, h3, h4]
        · simp [h1, h2, h3, h4]
def spotB (o : List DB) (x : DB) : Nat → Nat
  | 0 => 0
  | i + 1 => if bLt x (o.getD i (0, 0)) = true then spotB o x i else i + 1
def putB (o : List DB) (x : DB) : List DB := o.take (spotB o x o.length) ++ x :: o.drop (spotB o x o.length)
def sortB (l : List DB) : List DB := l.foldl putB []
theorem putB_perm (o : List DB) (x : DB) : (putB o x).Perm (x :: o) := by
  unfold putB
  refine List.perm_middle.trans ?_
  rw [List.take_append_drop]
theorem sortB_perm (l : List DB) : (sortB l).Perm l := by
  have key : ∀ (l o : List DB), (l.foldl putB o).Perm (o ++ l) := by
    intro l
    induction l with
    | nil => intro o; simp
    | cons x l ih =>
      intro o
      rw [List.foldl_cons]
      refine (ih _).trans ?_
      refine ((putB_perm o x).append_right l).trans ?_
      exact List.perm_middle.symm
  have := key l []
  rwa [List.nil_append] at this
theorem sortB_len (l : List DB) : (sortB l).length = l.length := (sortB_perm l).length_eq
theorem sortB_take (l : List DB) {p : Nat} (h : p < l.length) : sortB (l.take (p + 1)) = putB (sortB (l.take p)) l[p] := by
  unfold sortB
  rw [List.take_succ_eq_append_getElem h, List.foldl_append]
  rfl
/-- One stands at a place, the others around it. -/
def amd {β : Type} (o : List β) (x : β) (j : Nat) (q : List β) : List β := o.take j ++ x :: (o.drop j ++ q)
theorem amd_len {β : Type} (o : List β) (x : β) (j : Nat) (q : List β) (h : j ≤ o.length) : (amd o x j q).length = o.length + 1 + q.length := by
  unfold amd
  simp
  omega
theorem amd_at {β : Type} (d : β) (o : List β) (x : β) (j : Nat) (q : List β) (h : j ≤ o.length) : (amd o x j q).getD j d = x := by
  unfold amd
  rw [List.getD_eq_getElem?_getD, List.getElem?_append_right (by simp; omega)]
  simp [Nat.min_eq_left h]
theorem amd_below {β : Type} (d : β) (o : List β) (x : β) (j : Nat) (q : List β) (h : j < o.length) : (amd o x (j + 1) q).getD j d = o[j] := by
  unfold amd
  rw [List.getD_eq_getElem?_getD, List.getElem?_append_left (by simp; omega), List.getElem?_take_of_lt (by omega), List.getElem?_eq_getElem h]
  rfl
theorem amd_swap {β : Type} (o : List β) (x : β) (j : Nat) (q : List β) (h : j < o.length) : ((amd o x (j + 1) q).set (j + 1) o[j]).set j x = amd o x j q := by
  unfold amd
  rw [List.set_append_right _ _ (by simp; omega)]
  have e : j + 1 - (o.take (j + 1)).length = 0 := by simp; omega
  rw [e, List.set_cons_zero, List.take_succ_eq_append_getElem h, List.append_assoc, List.set_append_right _ _ (by simp; omega)]
  have e2 : j - (o.take j).length = 0 := by simp; omega
  rw [e2]
  simp
  rw [drop_cons h, List.cons_append]
theorem insB2 {α : Type} (p1 p2 : Int) (o : List DB) (x : DB) (q : List DB) (ho : o.length ≤ 1073741824) (K : Int × List DB → Option α) (K' : Int × List DB → Int → Option α) (hK : ∀ a b, K' a b = K a) :
    iter (Fz41.B2 (tot cmpB) 0 p1 p2 K' K) BIG ((o.length : Int), amd o x o.length q) = K (((spotB o x o.length : Nat) : Int), amd o x (spotB o x o.length) q) := by
  have key : ∀ (j fuel : Nat), j < fuel → j ≤ o.length → iter (Fz41.B2 (tot cmpB) 0 p1 p2 K' K) fuel ((j : Int), amd o x j q) = K (((spotB o x j : Nat) : Int), amd o x (spotB o x j) q) := by
    intro j
    induction j with
    | zero =>
      intro fuel hf _
      match fuel, hf with
      | f + 1, _ =>
        show Fz41.B2 _ 0 p1 p2 K' K _ (((0 : Nat) : Int), _) = _
        unfold Fz41.B2
        rw [decF (by simp)]
        rfl
    | succ j ih =>
      intro fuel hf hj
      match fuel, hf with
      | f + 1, hf =>
        show Fz41.B2 _ 0 p1 p2 K' K (iter (Fz41.B2 (tot cmpB) 0 p1 p2 K' K) f) (((j + 1 : Nat) : Int), amd o x (j + 1) q) = _
        generalize hR : iter (Fz41.B2 (tot cmpB) 0 p1 p2 K' K) f = R
        unfold Fz41.B2
        have e : IntKind.i64.wrap (((j + 1 : Nat) : Int) - 1) = (j : Int) := by rw [w64 (by omega) (by omega)]; omega
        have hjo : j < o.length := by omega
        have hl := amd_len o x (j + 1) q hj
        have h1 : j + 1 < (amd o x (j + 1) q).length := by omega
        have h2 : j < (amd o x (j + 1) q).length := by omega
        have h3 : j < ((amd o x (j + 1) q).set (j + 1) o[j]).length := by rw [List.length_set]; exact h2
        simp only [e, decT (show ((j + 1 : Nat) : Int) > 0 by omega), inB_nat h1, inB_nat h2, Int.toNat_natCast, cond_true, amd_at _ o x (j + 1) q hj, amd_below _ o x j q hjo, tot_eq, Option.bind_some, inB_nat h3, amd_swap o x j q hjo, cmpB_lt]
        unfold spotB
        rw [getD_lt hjo]
        cases c : bLt x o[j] with
        | true => rw [if_pos rfl, cond_true, ← hR]; exact ih f (by omega) (by omega)
        | false => rw [if_neg (by simp), cond_false, hK]
  exact key _ _ (big_lt (by omega)) (Nat.le_refl _)
def PInB (x : List DB × Int × Int) : Prop := PL x.1 ∧ x.2.1 = 0 ∧ x.2.2 = x.1.length
theorem s_insB : Fz41.S (cl PInB fun x => sortB x.1) := Fz41.of_cl s_compare fun x h k => by
  obtain ⟨l, a, b⟩ := x
  obtain ⟨hl, h1, h2⟩ := h
  obtain rfl : a = 0 := h1
  obtain rfl : b = (l.length : Int) := h2
  have hl : l.length ≤ 1073741824 := hl
  show Fz41.pf _ BIG l 0 (l.length : Int) k = k (sortB l)
  unfold Fz41.pf
  rw [w64 (by omega) (by omega)]
  match hq : l with
  | [] =>
    refine iter_to (fun _ => (1, [])) 0 (by rfl) (big_lt (by omega)) (fun k hk => absurd hk (Nat.not_lt_zero _)) fun rec => ?_
    unfold Fz41.B1
    rfl
  | y :: l' =>
    rw [← hq] at hl ⊢
    have hpos : 1 ≤ l.length := by rw [hq]; simp
    have h1 : sortB (l.take 1) ++ l.drop 1 = l := by rw [hq]; rfl
    have := iter_fold (B := Fz41.B1 (tot cmpB) BIG 0 (l.length : Int) fun (x1 : Int × List DB) => k x1.2) l (fun p (c : List DB) => ((p : Int), c)) (fun _ _ => k (sortB l)) (fun p c => 1 ≤ p ∧ c = sortB (l.take p) ++ l.drop p) ?_ ?_ (l.length - 1) 1 l BIG (by omega) (big_lt (by omega)) ⟨by omega, h1.symm⟩
    · exact this
    · rintro p hp c rec ⟨hp1, rfl⟩ hrec
      unfold Fz41.B1
      have ho : (sortB (l.take p)).length = p := by rw [sortB_len, List.length_take]; omega
      have e0 : sortB (l.take p) ++ l.drop p = amd (sortB (l.take p)) l[p] p (l.drop (p + 1)) := by
        unfold amd
        have t1 : (sortB (l.take p)).take p = sortB (l.take p) := List.take_of_length_le (by omega)
        have t2 : (sortB (l.take p)).drop p = [] := List.drop_eq_nil_of_le (by omega)
        rw [t1, t2, List.nil_append, drop_cons hp]
      simp only [decT (show (p : Int) < (l.length : Int) by omega), cond_true]
      rw [e0]
      have e1 := insB2 (l.length : Int) (p : Int) (sortB (l.take p)) l[p] (l.drop (p + 1)) (by omega) (fun (x2 : Int × List DB) => rec (IntKind.i64.wrap ((p : Int) + 1), x2.2)) (fun (x2 : Int × List DB) (_ : Int) => rec (IntKind.i64.wrap ((p : Int) + 1), x2.2)) (fun _ _ => rfl)
      rw [ho] at e1
      rw [e1, w64n (by omega)]
      refine hrec _ ⟨by omega, ?_⟩
      rw [sortB_take l hp]
      unfold amd putB
      rw [ho, List.append_assoc, List.cons_append]
    · rintro c rec ⟨_, rfl⟩
      unfold Fz41.B1
      rw [decF (by omega)]
      simp
def PPdB (x : List DB × Int × Int × Int) : Prop := x.1.length ≤ 12 ∧ x.2.1 = 0 ∧ x.2.2.1 = x.1.length
theorem s_pdqB : Fz43.S (cl PPdB fun x => sortB x.1) := Fz43.of_cl s_insB fun x h k => by
  obtain ⟨l, a, b, c⟩ := x
  obtain ⟨hl, h1, h2⟩ := h
  obtain rfl : a = 0 := h1
  obtain rfl : b = (l.length : Int) := h2
  have hl : l.length ≤ 12 := hl
  show Fz43.pf _ BIG l 0 (l.length : Int) c k = k (sortB l)
  unfold Fz43.pf
  refine iter_to (fun _ => ()) 0 rfl (big_lt (by omega)) (fun k hk => absurd hk (Nat.not_lt_zero _)) fun rec => ?_
  unfold Fz43.B1
  rw [w64 (by omega) (by omega), decT (by omega), cond_true, cl_eq (show PInB (l, 0, (l.length : Int)) from ⟨(show l.length ≤ 1073741824 by omega), rfl, rfl⟩), Option.bind_some]
def P255 (x : Int) : Prop := 0 ≤ x ∧ x ≤ 255
theorem s_Len64_pf {α : Type} (x : Int) (h0 : 0 ≤ x) (h1 : x ≤ 255) (k : Int → Option α) : Fz28.pf BIG x k = k ((Fz28.pf BIG x some).getD 0) := by
  unfold Fz28.pf
  rw [decF (show ¬ x ≥ 4294967296 by omega), decF (show ¬ x ≥ 65536 by omega), decF (show ¬ x ≥ 256 by omega)]
  simp only [cond_false]
  have e : IntKind.u8.wrap x = x := by rw [IntKind.wrap_u8]; omega
  rw [e, inB_true (i := x) h0]
  · rfl
  · exact Int.lt_of_lt_of_le (show x < ((256 : Nat) : Int) by omega) (Int.le_of_eq rfl)
theorem s_Len64 : Fz28.S (cl P255 fun x => (Fz28.pf BIG x some).getD 0) := Fz28.of_cl fun x h k => s_Len64_pf x h.1 h.2 k
theorem s_bitsLen : Fz27.S (cl P255 fun x => (Fz28.pf BIG x some).getD 0) := Fz27.of_cl s_Len64 fun x h k => by
  unfold Fz27.pf
  rw [cl_eq h, Option.bind_some]
def PFew12 {β : Type} (l : List β) : Prop := l.length ≤ 12
theorem s_SortFuncB : Fz39.S (cl PFew12 sortB) := Fz39.of_cl s_bitsLen s_pdqB fun l h k => by
  have h : l.length ≤ 12 := h
  unfold Fz39.pf
  have e : IntKind.u64.wrap ((l.length : Nat) : Int) = (l.length : Int) := by rw [IntKind.wrap_u64]; omega
  rw [e, cl_eq (show P255 (l.length : Int) from ⟨by omega, by omega⟩), Option.bind_some, cl_eq (show PPdB (l, 0, (l.length : Int), _) from ⟨h, rfl, rfl⟩), Option.bind_some]
abbrev allB (c : List DB) : List DB := c.filter fun b => !decide (b = (0, 0))
theorem allB_len (c : List DB) : (allB c).length ≤ c.length := List.length_filter_le _ _
theorem s_crateSorted : Fz9.S (cl Cr fun c => sortB (allB c)) := Fz9.of_cl s_crateBottles s_SortFuncB fun c h k => by
  have hl : c.length = 12 := h
  have := allB_len c
  unfold Fz9.pf
  rw [cl_eq h, Option.bind_some, cl_eq (show PFew12 (allB c) by unfold PFew12; omega), Option.bind_some]
theorem s_equalB : Fz35.S (cl PL1 fun x => decide (x.1 = x.2)) := Fz35.of_cl fun x h k => by
  obtain ⟨a, b⟩ := x
  have h : a.length ≤ 1073741824 := h
  show Fz35.pf BIG a b k = k (decide (a = b))
  unfold Fz35.pf
  by_cases c : a.length = b.length
  · rw [bneF (by omega), cond_false]
    have hz := zip_len c
    rw [iter_first (a.zip b) (fun i => (i : Int)) (fun p => !decide (p.1 = p.2)) (fun _ _ => k false) (k true) (x := 0) rfl (big_lt (by omega)) ?_ ?_, firstOr_const, any_eq a b c]
    · by_cases e : a = b <;> simp [e]
    · intro i hi rec
      have h1 : i < a.length := by omega
      have h2 : i < b.length := by omega
      unfold Fz35.B1
      rw [zip_at hi]
      simp only [decT (show (i : Int) < (a.length : Int) by omega), inB_nat h1, inB_nat h2, cond_true, Int.toNat_natCast, getD_lt h1, getD_lt h2, eqB, w64n (show i < 9223372036854775807 by omega)]
    · intro rec
      unfold Fz35.B1
      rw [decF (by omega)]
      rfl
  · rw [bneT (by omega), cond_true, decF (fun e => c (by rw [e]))]
theorem s_l01All : Fz48.S (cl Cr allB) := Fz48.of_cl s_l01Free fun c h k => by
  have hl : c.length = 12 := h
  unfold Fz48.pf
  refine iter_list c (fun i (o : List DB) => ((i : Int), o)) (fun q o => k (o ++ allB q)) (fun i o => o.length ≤ i) (c := []) rfl (big_lt (by omega)) (Nat.le_refl 0) ?_ ?_
  · rintro i hi o rec ho hrec
    unfold Fz48.B1
    simp only [decT (show (i : Int) < 12 by omega), inB_nat (show i < 12 by omega), cond_true, Int.toNat_natCast, getD_lt hi, tot_eq, Option.bind_some, w64n (show i < 9223372036854775807 by omega), allB, List.filter_cons]
    by_cases q : c[i] = (0, 0)
    · rw [decT q]
      exact hrec _ (by omega)
    · rw [decF q, okS (by simp; omega)]
      simp only [Bool.not_false, cond_true, if_true]
      exact (hrec _ (by simp; omega)).trans (by simp [allB])
  · rintro o rec _
    unfold Fz48.B1
    rw [decF (by simp only; omega)]
    simp [allB]
theorem srtB2 {α : Type} (p1 : Int) (l0 : List DB) (o : List DB) (x : DB) (q : List DB) (ho : o.length ≤ 1073741824) (K : List DB → Option α) (K1 : Int × List DB → Option α) (K0 : Int × List DB → Int → Option α)
    (h1 : ∀ (j : Nat) (c : List DB), j < c.length → K1 ((j : Int), c) = K (c.set j x)) (h0 : ∀ (j : Nat) (c : List DB) r, j < c.length → K0 ((j : Int), c) r = K (c.set j x)) :
    iter (Fz52.B2 (tot cmpB) p1 l0 x K0 K1) BIG ((o.length : Int), amd o x o.length q) = K (amd o x (spotB o x o.length) q) := by
  have key : ∀ (j fuel : Nat) (c : List DB), j < fuel → j ≤ o.length → c.length = o.length + 1 + q.length → c.set j x = amd o x j q → iter (Fz52.B2 (tot cmpB) p1 l0 x K0 K1) fuel ((j : Int), c) = K (amd o x (spotB o x j) q) := by
    intro j
    induction j with
    | zero =>
      intro fuel c hf _ hc he
      match fuel, hf with
      | f + 1, _ =>
        show Fz52.B2 _ p1 l0 x K0 K1 _ (((0 : Nat) : Int), _) = _
        unfold Fz52.B2
        rw [decF (by simp)]
        simp only [cond_false]
        rw [h1 0 c (by omega), he]
        rfl
    | succ j ih =>
      intro fuel c hf hj hc he
      match fuel, hf with
      | f + 1, hf =>
        show Fz52.B2 _ p1 l0 x K0 K1 (iter (Fz52.B2 (tot cmpB) p1 l0 x K0 K1) f) (((j + 1 : Nat) : Int), c) = _
        generalize hR : iter (Fz52.B2 (tot cmpB) p1 l0 x K0 K1) f = R
        unfold Fz52.B2
        have e : IntKind.i64.wrap (((j + 1 : Nat) : Int) - 1) = (j : Int) := by rw [w64 (by omega) (by omega)]; omega
        have hjo : j < o.length := by omega
        have hjc : j < c.length := by omega
        have hcj : c.getD j (0, 0) = o[j] := by
          have := amd_below (0, 0) o x j q hjo
          rw [← he, List.getD_eq_getElem?_getD, List.getElem?_set_ne (by omega), ← List.getD_eq_getElem?_getD] at this
          exact this
        simp only [e, decT (show ((j + 1 : Nat) : Int) > 0 by omega), inB_nat hjc, inB_nat (show j + 1 < c.length by omega), Int.toNat_natCast, cond_true, hcj, tot_eq, Option.bind_some, cmpB_lt]
        unfold spotB
        rw [getD_lt hjo]
        cases hb : bLt x o[j] with
        | true =>
          rw [if_pos rfl, cond_true, ← hR]
          refine ih f _ (by omega) (by omega) (by simpa using hc) ?_
          rw [← amd_swap o x j q hjo, ← he, List.set_set]
        | false => rw [if_neg (by simp), cond_false, h0 (j + 1) c _ (by omega), he]
  refine key _ _ _ (big_lt (by omega)) (Nat.le_refl _) (amd_len o x _ q (Nat.le_refl _)) ?_
  have hl := amd_len o x o.length q (Nat.le_refl _)
  refine List.ext_getElem (by simp) fun i h1 h2 => ?_
  rw [List.getElem_set]
  split
  · rename_i e
    subst e
    have := amd_at (0, 0) o x o.length q (Nat.le_refl _)
    rw [getD_lt h2] at this
    exact this.symm
  · rfl
theorem s_l01Sorted : Fz52.S (cl PL sortB) := Fz52.of_cl s_spec_Compare fun l h k => by
  have hl : l.length ≤ 1073741824 := h
  unfold Fz52.pf
  simp only [List.nil_append, List.length_nil]
  rw [okS (by omega), cond_true]
  match hq : l with
  | [] =>
    refine iter_to (fun _ => (1, [])) 0 (by rfl) (big_lt (by omega)) (fun k hk => absurd hk (Nat.not_lt_zero _)) fun rec => ?_
    unfold Fz52.B1
    rfl
  | y :: l' =>
    rw [← hq] at hl ⊢
    have hpos : 1 ≤ l.length := by rw [hq]; simp
    have h1 : sortB (l.take 1) ++ l.drop 1 = l := by rw [hq]; rfl
    have := iter_fold (B := Fz52.B1 (tot cmpB) BIG l fun (x1 : Int × List DB) => k x1.2) l (fun p (c : List DB) => ((p : Int), c)) (fun _ _ => k (sortB l)) (fun p c => 1 ≤ p ∧ c = sortB (l.take p) ++ l.drop p) ?_ ?_ (l.length - 1) 1 l BIG (by omega) (big_lt (by omega)) ⟨by omega, h1.symm⟩
    · exact this
    · rintro p hp c rec ⟨hp1, rfl⟩ hrec
      unfold Fz52.B1
      have ho : (sortB (l.take p)).length = p := by rw [sortB_len, List.length_take]; omega
      have e0 : sortB (l.take p) ++ l.drop p = amd (sortB (l.take p)) l[p] p (l.drop (p + 1)) := by
        unfold amd
        have t1 : (sortB (l.take p)).take p = sortB (l.take p) := List.take_of_length_le (by omega)
        have t2 : (sortB (l.take p)).drop p = [] := List.drop_eq_nil_of_le (by omega)
        rw [t1, t2, List.nil_append, drop_cons hp]
      have hlen : (sortB (l.take p) ++ l.drop p).length = l.length := by rw [List.length_append, ho, List.length_drop]; omega
      simp only [hlen, decT (show (p : Int) < (l.length : Int) by omega), inB_nat (show p < l.length by omega), cond_true, Int.toNat_natCast]
      have hx : (sortB (l.take p) ++ l.drop p).getD p (0, 0) = l[p] := by
        rw [e0]
        exact amd_at _ _ _ _ _ (by omega)
      rw [hx, e0]
      have e1 := srtB2 (p : Int) l (sortB (l.take p)) l[p] (l.drop (p + 1)) (by omega) (fun c => rec (IntKind.i64.wrap ((p : Int) + 1), c))
        (fun (x2 : Int × List DB) => cond (inB x2.1 (List.length x2.2)) (rec (((IntKind.i64.wrap ((p : Int) + 1)), (List.set x2.2 x2.1.toNat l[p])))) none)
        (fun (x2 : Int × List DB) (_ : Int) => cond (inB x2.1 (List.length x2.2)) (rec (((IntKind.i64.wrap ((p : Int) + 1)), (List.set x2.2 x2.1.toNat l[p])))) none)
        (fun j c hj => by simp only [inB_nat hj, cond_true, Int.toNat_natCast]) (fun j c r hj => by simp only [inB_nat hj, cond_true, Int.toNat_natCast])
      rw [ho] at e1
      refine e1.trans ?_
      simp only [w64n (show p < 9223372036854775807 by omega)]
      refine hrec _ ⟨by omega, ?_⟩
      rw [sortB_take l hp]
      unfold amd putB
      rw [ho, List.append_assoc, List.cons_append]
    · rintro c rec ⟨_, rfl⟩
      unfold Fz52.B1
      have hlen : (sortB (l.take l.length) ++ l.drop l.length).length = l.length := by rw [List.take_length, List.drop_length, List.append_nil, sortB_len]
      rw [decF (by simp only [hlen]; omega)]
      simp
theorem s_l03Same : Fz56.S (cl Cr2 fun x => decide (sortB (allB x.1) = sortB (allB x.2))) := Fz56.of_cl s_l01All s_l01Sorted fun x h k => by
  obtain ⟨a, b⟩ := x
  obtain ⟨ha, hb⟩ := h
  have ha' : a.length = 12 := ha
  have hb' : b.length = 12 := hb
  have h1 := allB_len a
  have h2 := allB_len b
  show Fz56.pf _ _ BIG a b k = k (decide (sortB (allB a) = sortB (allB b)))
  unfold Fz56.pf
  rw [cl_eq ha, Option.bind_some, cl_eq (show PL (allB a) by unfold PL; omega), Option.bind_some, cl_eq hb, Option.bind_some, cl_eq (show PL (allB b) by unfold PL; omega), Option.bind_some]
  have h3 := sortB_len (allB a)
  have h4 := sortB_len (allB b)
  generalize sortB (allB a) = x at h3 ⊢
  generalize sortB (allB b) = y at h4 ⊢
  by_cases c : x.length = y.length
  · rw [bneF (by omega), cond_false]
    have hz := zip_len c
    rw [iter_first (x.zip y) (fun i => (i : Int)) (fun p => !decide (p.1 = p.2)) (fun _ _ => k false) (k true) (x := 0) rfl (big_lt (by omega)) ?_ ?_, firstOr_const, any_eq x y c]
    · by_cases e : x = y <;> simp [e]
    · intro i hi rec
      have h1 : i < x.length := by omega
      have h2 : i < y.length := by omega
      unfold Fz56.B1
      rw [zip_at hi]
      simp only [decT (show (i : Int) < (x.length : Int) by omega), inB_nat h1, inB_nat h2, cond_true, Int.toNat_natCast, getD_lt h1, getD_lt h2, eqB, w64n (show i < 9223372036854775807 by omega)]
    · intro rec
      unfold Fz56.B1
      rw [decF (by omega)]
      rfl
  · rw [bneT (by omega), cond_true, decF (fun e => c (by rw [e]))]
def wC2 (x : List DB × List DB) : Prop := wC x.1 ∧ wC x.2
theorem wC2.cr {x : List DB × List DB} (h : wC2 x) : Cr2 x := ⟨h.1.1, h.2.1⟩
theorem good_crate {c : List DB} (h : goodV (.arr 12 (.st (.pair (.int .u8) (.int .i16)))) c) : wC c := by
  obtain ⟨g1, g2⟩ := h
  refine ⟨g1, fun b hb => ?_⟩
  obtain ⟨j, hj, rfl⟩ := List.mem_iff_getElem.1 hb
  have hj12 : j < 12 := by rw [← g1]; exact hj
  have := g2 j (by first | exact hj12 | exact hj)
  rw [getD_lt hj] at this
  exact good_B this

theorem bLt_iff (x y : DB) : bLt x y = true ↔ x.1 < y.1 ∨ (x.1 = y.1 ∧ x.2 < y.2) := by
  unfold bLt
  simp
def leB (x y : DB) : Prop := bLt y x = false
theorem leB_iff (x y : DB) : leB x y ↔ ¬ (y.1 < x.1 ∨ (y.1 = x.1 ∧ y.2 < x.2)) := by
  unfold leB
  rw [← bLt_iff]
  simp
theorem leB_refl (x : DB) : leB x x := by
  rw [leB_iff]
  omega
def SortedB (l : List DB) : Prop := l.Pairwise leB
theorem SortedB.get {l : List DB} (h : SortedB l) {i j : Nat} (hij : i ≤ j) (hj : j < l.length) : leB (l.getD i (0, 0)) (l.getD j (0, 0)) := by
  rcases Nat.lt_or_eq_of_le hij with q | rfl
  · rw [getD_lt (by omega : i < l.length), getD_lt hj]
    exact List.pairwise_iff_getElem.1 h i j (by omega) hj q
  · exact leB_refl _
def cmpGo {β : Type} [DecidableEq β] (p : β) : List β → List β
  | [] => []
  | x :: l => if x = p then cmpGo p l else x :: cmpGo x l
def compact {β : Type} [DecidableEq β] : List β → List β
  | [] => []
  | x :: l => x :: cmpGo x l
theorem cmpGo_snoc {β : Type} [DecidableEq β] (x d : β) : ∀ (l : List β) (p : β), cmpGo p (l ++ [x]) = cmpGo p l ++ if x = (p :: l).getLastD d then [] else [x]
  | [], p => by
    simp only [List.nil_append, cmpGo, List.getLastD_cons]
    rfl
  | y :: l, p => by
    rw [List.cons_append, cmpGo, cmpGo]
    have e : ∀ q, (q :: y :: l).getLastD d = (y :: l).getLastD d := fun q => rfl
    split
    · rename_i h
      subst h
      rw [cmpGo_snoc x d l y, e]
    · rw [cmpGo_snoc x d l y, e]
      rfl
theorem compact_succ {β : Type} [DecidableEq β] (d : β) {l : List β} {j : Nat} (h : j + 1 < l.length) : compact (l.take (j + 2)) = compact (l.take (j + 1)) ++ if l.getD (j + 1) d = l.getD j d then [] else [l.getD (j + 1) d] := by
  match l, h with
  | x :: l, h =>
    have hj : j < l.length := by simpa using h
    rw [List.take_succ_cons, List.take_succ_cons, compact, compact, List.take_succ_eq_append_getElem hj, cmpGo_snoc l[j] d]
    have e1 : (x :: l).getD (j + 1) d = l[j] := by rw [getD_lt h]; rfl
    have e2 : (x :: l.take j).getLastD d = (x :: l).getD j d := by
      rw [List.getLastD_eq_getLast?, List.getLast?_eq_getElem?, List.getD_eq_getElem?_getD]
      simp only [List.length_cons, List.length_take, Nat.min_eq_left (Nat.le_of_lt hj), Nat.add_sub_cancel]
      congr 1
      cases j with
      | zero => rfl
      | succ j => rw [List.getElem?_cons_succ, List.getElem?_cons_succ, List.getElem?_take_of_lt (by omega)]
    rw [e1, e2]
    rfl
theorem compact_one {β : Type} [DecidableEq β] {l : List β} (h : 0 < l.length) : compact (l.take 1) = l.take 1 := by
  match l, h with
  | x :: l, _ => rfl
/-- What Go's Compact leaves. -/
def compV {β : Type} [DecidableEq β] (d : β) (l : List β) : Option (Nat × Nat) × List β :=
  if (compact l).length = l.length then (none, l) else (some (0, (compact l).length), compact l ++ List.replicate (l.length - (compact l).length) d)
theorem compact_same {β : Type} [DecidableEq β] (d : β) (l : List β) : ∀ j, j < l.length → (∀ i, i < j → l.getD (i + 1) d ≠ l.getD i d) → compact (l.take (j + 1)) = l.take (j + 1)
  | 0, h, _ => compact_one h
  | j + 1, h, hne => by
    rw [compact_succ d h, compact_same d l j (by omega) (fun i hi => hne i (by omega)), if_neg (hne j (by omega)), List.take_succ_eq_append_getElem h, getD_lt h]
theorem compV_len {β : Type} [DecidableEq β] (d : β) (l : List β) : Win.len (compV d l).1 (compV d l).2 = (compact l).length := by
  unfold compV
  split
  · rename_i h; exact h.symm
  · rfl
theorem compact_sub {β : Type} [DecidableEq β] : ∀ (l : List β) (x : β), x ∈ compact l → x ∈ l := by
  have key : ∀ (l : List β) (p x : β), x ∈ cmpGo p l → x ∈ l := by
    intro l
    induction l with
    | nil => intro p x h; cases h
    | cons y l ih =>
      intro p x h
      unfold cmpGo at h
      split at h
      · exact List.mem_cons_of_mem _ (ih p x h)
      · rcases List.mem_cons.1 h with rfl | h
        · exact List.mem_cons_self ..
        · exact List.mem_cons_of_mem _ (ih y x h)
  intro l x h
  match l, h with
  | y :: l, h =>
    rcases List.mem_cons.1 h with rfl | h
    · exact List.mem_cons_self ..
    · exact List.mem_cons_of_mem _ (key l y x h)
def idxs {β : Type} (p : β → Bool) : Nat → List β → List Int
  | _, [] => []
  | k, x :: l => if p x = true then (k : Int) :: idxs p (k + 1) l else idxs p (k + 1) l
theorem idxs_len {β : Type} (p : β → Bool) : ∀ (l : List β) (k : Nat), (idxs p k l).length ≤ l.length
  | [], _ => Nat.le_refl 0
  | x :: l, k => by
    have := idxs_len p l (k + 1)
    unfold idxs
    split <;> simp <;> omega
theorem idxs_mem {β : Type} (p : β → Bool) : ∀ (l : List β) (k : Nat) (i : Int), i ∈ idxs p k l → ∃ n : Nat, i = (n : Int) ∧ k ≤ n ∧ n < k + l.length
  | [], _, i, h => by cases h
  | x :: l, k, i, h => by
    unfold idxs at h
    split at h
    · rcases List.mem_cons.1 h with rfl | h
      · exact ⟨k, rfl, Nat.le_refl _, by simp⟩
      · obtain ⟨n, e, h1, h2⟩ := idxs_mem p l (k + 1) i h
        exact ⟨n, e, by omega, by simp; omega⟩
    · obtain ⟨n, e, h1, h2⟩ := idxs_mem p l (k + 1) i h
      exact ⟨n, e, by omega, by simp; omega⟩
theorem idxs_snoc {β : Type} (p : β → Bool) (x : β) : ∀ (l : List β) (k : Nat), idxs p k (l ++ [x]) = idxs p k l ++ if p x = true then [((k + l.length : Nat) : Int)] else []
  | [], k => by
    simp only [List.nil_append, idxs, List.length_nil, Nat.add_zero]
  | y :: l, k => by
    rw [List.cons_append, idxs, idxs, idxs_snoc p x l (k + 1), List.length_cons, show k + 1 + l.length = k + (l.length + 1) by omega]
    split <;> rfl

def iLt (x y : Int) : Bool := decide (x < y)
def lessI (x : Int × Int) : Bool := iLt x.1 x.2
theorem s_isNaN64 : Fz5.S (tot fun _ => false) := Fz5.of_tot fun x k => by unfold Fz5.pf; rw [bneF rfl]
theorem s_lessI : Fz2.S (tot lessI) := Fz2.of_tot s_isNaN64 fun x k => by
  unfold Fz2.pf
  rw [tot_eq]
  rfl
def leI (x y : Int) : Prop := iLt y x = false
theorem leI_iff (x y : Int) : leI x y ↔ x ≤ y := by
  unfold leI iLt
  rw [decide_eq_false_iff_not]
  omega
theorem leI_trans {x y z : Int} (h1 : leI x y) (h2 : leI y z) : leI x z := by
  rw [leI_iff] at *
  omega
theorem leI_refl (x : Int) : leI x x := (leI_iff x x).2 (Int.le_refl x)
theorem leI_of_lt {x y : Int} (h : iLt x y = true) : leI x y := by
  rw [leI_iff]
  have := of_decide_eq_true h
  omega
def spotI (o : List Int) (x : Int) : Nat → Nat
  | 0 => 0
  | i + 1 => if iLt x (o.getD i 0) = true then spotI o x i else i + 1
def putI (o : List Int) (x : Int) : List Int := o.take (spotI o x o.length) ++ x :: o.drop (spotI o x o.length)
def sortI (l : List Int) : List Int := l.foldl putI []
theorem spotI_le (o : List Int) (x : Int) : ∀ i, spotI o x i ≤ i
  | 0 => Nat.le_refl 0
  | i + 1 => by
    have := spotI_le o x i
    unfold spotI
    split <;> omega
theorem putI_perm (o : List Int) (x : Int) : (putI o x).Perm (x :: o) := by
  unfold putI
  refine List.perm_middle.trans ?_
  rw [List.take_append_drop]
theorem sortI_perm (l : List Int) : (sortI l).Perm l := by
  have key : ∀ (l o : List Int), (l.foldl putI o).Perm (o ++ l) := by
    intro l
    induction l with
    | nil => intro o; simp
    | cons x l ih =>
      intro o
      rw [List.foldl_cons]
      refine (ih _).trans ?_
      refine ((putI_perm o x).append_right l).trans ?_
      exact List.perm_middle.symm
  have := key l []
  rwa [List.nil_append] at this
theorem sortI_len (l : List Int) : (sortI l).length = l.length := (sortI_perm l).length_eq
theorem sortI_take (l : List Int) {p : Nat} (h : p < l.length) : sortI (l.take (p + 1)) = putI (sortI (l.take p)) l[p] := by
  unfold sortI
  rw [List.take_succ_eq_append_getElem h, List.foldl_append]
  rfl
theorem insI2 {α : Type} (p1 p2 : Int) (o : List Int) (x : Int) (q : List Int) (ho : o.length ≤ 1073741824) (K : Int × List Int → Option α) (K' : Int × List Int → Bool → Option α) (hK : ∀ a b, K' a b = K a) :
    iter (Fz42.B2 (tot lessI) 0 p1 p2 K' K) BIG ((o.length : Int), amd o x o.length q) = K (((spotI o x o.length : Nat) : Int), amd o x (spotI o x o.length) q) := by
  have key : ∀ (j fuel : Nat), j < fuel → j ≤ o.length → iter (Fz42.B2 (tot lessI) 0 p1 p2 K' K) fuel ((j : Int), amd o x j q) = K (((spotI o x j : Nat) : Int), amd o x (spotI o x j) q) := by
    intro j
    induction j with
    | zero =>
      intro fuel hf _
      match fuel, hf with
      | f + 1, _ =>
        show Fz42.B2 _ 0 p1 p2 K' K _ (((0 : Nat) : Int), _) = _
        unfold Fz42.B2
        rw [decF (by simp)]
        rfl
    | succ j ih =>
      intro fuel hf hj
      match fuel, hf with
      | f + 1, hf =>
        show Fz42.B2 _ 0 p1 p2 K' K (iter (Fz42.B2 (tot lessI) 0 p1 p2 K' K) f) (((j + 1 : Nat) : Int), amd o x (j + 1) q) = _
        generalize hR : iter (Fz42.B2 (tot lessI) 0 p1 p2 K' K) f = R
        unfold Fz42.B2
        have e : IntKind.i64.wrap (((j + 1 : Nat) : Int) - 1) = (j : Int) := by rw [w64 (by omega) (by omega)]; omega
        have hjo : j < o.length := by omega
        have hl := amd_len o x (j + 1) q hj
        have h1 : j + 1 < (amd o x (j + 1) q).length := by omega
        have h2 : j < (amd o x (j + 1) q).length := by omega
        have h3 : j < ((amd o x (j + 1) q).set (j + 1) o[j]).length := by rw [List.length_set]; exact h2
        simp only [e, decT (show ((j + 1 : Nat) : Int) > 0 by omega), inB_nat h1, inB_nat h2, Int.toNat_natCast, cond_true, amd_at _ o x (j + 1) q hj, amd_below _ o x j q hjo, tot_eq, Option.bind_some, inB_nat h3, amd_swap o x j q hjo, lessI]
        unfold spotI
        rw [getD_lt hjo]
        cases c : iLt x o[j] with
        | true => rw [if_pos rfl, cond_true, ← hR]; exact ih f (by omega) (by omega)
        | false => rw [if_neg (by simp), cond_false, hK]
  exact key _ _ (big_lt (by omega)) (Nat.le_refl _)
def PInI (x : List Int × Int × Int) : Prop := PL x.1 ∧ x.2.1 = 0 ∧ x.2.2 = x.1.length
theorem s_insI : Fz42.S (cl PInI fun x => sortI x.1) := Fz42.of_cl s_lessI fun x h k => by
  obtain ⟨l, a, b⟩ := x
  obtain ⟨hl, h1, h2⟩ := h
  obtain rfl : a = 0 := h1
  obtain rfl : b = (l.length : Int) := h2
  have hl : l.length ≤ 1073741824 := hl
  show Fz42.pf _ BIG l 0 (l.length : Int) k = k (sortI l)
  unfold Fz42.pf
  rw [w64 (by omega) (by omega)]
  match hq : l with
  | [] =>
    refine iter_to (fun _ => (1, [])) 0 (by rfl) (big_lt (by omega)) (fun k hk => absurd hk (Nat.not_lt_zero _)) fun rec => ?_
    unfold Fz42.B1
    rfl
  | y :: l' =>
    rw [← hq] at hl ⊢
    have hpos : 1 ≤ l.length := by rw [hq]; simp
    have h1 : sortI (l.take 1) ++ l.drop 1 = l := by rw [hq]; rfl
    have := iter_fold (B := Fz42.B1 (tot lessI) BIG 0 (l.length : Int) fun (x1 : Int × List Int) => k x1.2) l (fun p (c : List Int) => ((p : Int), c)) (fun _ _ => k (sortI l)) (fun p c => 1 ≤ p ∧ c = sortI (l.take p) ++ l.drop p) ?_ ?_ (l.length - 1) 1 l BIG (by omega) (big_lt (by omega)) ⟨by omega, h1.symm⟩
    · exact this
    · rintro p hp c rec ⟨hp1, rfl⟩ hrec
      unfold Fz42.B1
      have ho : (sortI (l.take p)).length = p := by rw [sortI_len, List.length_take]; omega
      have e0 : sortI (l.take p) ++ l.drop p = amd (sortI (l.take p)) l[p] p (l.drop (p + 1)) := by
        unfold amd
        have t1 : (sortI (l.take p)).take p = sortI (l.take p) := List.take_of_length_le (by omega)
        have t2 : (sortI (l.take p)).drop p = [] := List.drop_eq_nil_of_le (by omega)
        rw [t1, t2, List.nil_append, drop_cons hp]
      simp only [decT (show (p : Int) < (l.length : Int) by omega), cond_true]
      rw [e0]
      have e1 := insI2 (l.length : Int) (p : Int) (sortI (l.take p)) l[p] (l.drop (p + 1)) (by omega) (fun (x2 : Int × List Int) => rec (IntKind.i64.wrap ((p : Int) + 1), x2.2)) (fun (x2 : Int × List Int) (_ : Bool) => rec (IntKind.i64.wrap ((p : Int) + 1), x2.2)) (fun _ _ => rfl)
      rw [ho] at e1
      rw [e1, w64n (by omega)]
      refine hrec _ ⟨by omega, ?_⟩
      rw [sortI_take l hp]
      unfold amd putI
      rw [ho, List.append_assoc, List.cons_append]
    · rintro c rec ⟨_, rfl⟩
      unfold Fz42.B1
      rw [decF (by omega)]
      simp
def PPdI (x : List Int × Int × Int × Int) : Prop := x.1.length ≤ 12 ∧ x.2.1 = 0 ∧ x.2.2.1 = x.1.length
theorem s_pdqI : Fz44.S (cl PPdI fun x => sortI x.1) := Fz44.of_cl s_insI fun x h k => by
  obtain ⟨l, a, b, c⟩ := x
  obtain ⟨hl, h1, h2⟩ := h
  obtain rfl : a = 0 := h1
  obtain rfl : b = (l.length : Int) := h2
  have hl : l.length ≤ 12 := hl
  show Fz44.pf _ BIG l 0 (l.length : Int) c k = k (sortI l)
  unfold Fz44.pf
  refine iter_to (fun _ => ()) 0 rfl (big_lt (by omega)) (fun k hk => absurd hk (Nat.not_lt_zero _)) fun rec => ?_
  unfold Fz44.B1
  rw [w64 (by omega) (by omega), decT (by omega), cond_true, cl_eq (show PInI (l, 0, (l.length : Int)) from ⟨(show l.length ≤ 1073741824 by omega), rfl, rfl⟩), Option.bind_some]
theorem s_SortFuncI : Fz40.S (cl PFew12 sortI) := Fz40.of_cl s_bitsLen s_pdqI fun l h k => by
  have h : l.length ≤ 12 := h
  unfold Fz40.pf
  have e : IntKind.u64.wrap ((l.length : Nat) : Int) = (l.length : Int) := by rw [IntKind.wrap_u64]; omega
  rw [e, cl_eq (show P255 (l.length : Int) from ⟨by omega, by omega⟩), Option.bind_some, cl_eq (show PPdI (l, 0, (l.length : Int), _) from ⟨h, rfl, rfl⟩), Option.bind_some]
theorem spotI_spec (o : List Int) (x : Int) : ∀ j, j ≤ o.length → (∀ i, spotI o x j ≤ i → i < j → iLt x (o.getD i 0) = true) ∧ (∀ i, i + 1 = spotI o x j → iLt x (o.getD i 0) = false)
  | 0, _ => ⟨fun i _ h => absurd h (Nat.not_lt_zero i), fun i h => by simp [spotI] at h⟩
  | j + 1, h => by
    obtain ⟨h1, h2⟩ := spotI_spec o x j (by omega)
    unfold spotI
    split
    · rename_i c
      refine ⟨fun i hi hj => ?_, h2⟩
      rcases Nat.lt_or_ge i j with q | q
      · exact h1 i hi q
      · obtain rfl : i = j := by omega
        exact c
    · rename_i c
      refine ⟨fun i hi hj => by omega, fun i hi => ?_⟩
      obtain rfl : i = j := by omega
      simpa using c
def SortedI (l : List Int) : Prop := l.Pairwise leI
theorem SortedI.get {l : List Int} (h : SortedI l) {i j : Nat} (hij : i ≤ j) (hj : j < l.length) : leI (l.getD i 0) (l.getD j 0) := by
  rcases Nat.lt_or_eq_of_le hij with q | rfl
  · rw [getD_lt (by omega : i < l.length), getD_lt hj]
    exact List.pairwise_iff_getElem.1 h i j (by omega) hj q
  · exact leI_refl _
theorem putI_sorted {o : List Int} {x : Int} (h : SortedI o) : SortedI (putI o x) := by
  obtain ⟨h1, h2⟩ := spotI_spec o x o.length (Nat.le_refl _)
  have hk := spotI_le o x o.length
  unfold putI
  generalize spotI o x o.length = k at *
  have ht : ∀ a, a ∈ o.take k → leI a x := by
    intro a ha
    obtain ⟨i, hi, rfl⟩ := List.mem_iff_getElem.1 ha
    rw [List.length_take] at hi
    rw [List.getElem_take]
    have h3 := h2 (k - 1) (by omega)
    have h4 := h.get (i := i) (j := k - 1) (by omega) (by omega)
    rw [getD_lt (by omega : i < o.length)] at h4
    exact leI_trans h4 h3
  have hd : ∀ b, b ∈ o.drop k → leI x b := by
    intro b hb
    obtain ⟨i, hi, rfl⟩ := List.mem_iff_getElem.1 hb
    rw [List.length_drop] at hi
    rw [List.getElem_drop]
    have h3 := h1 (k + i) (by omega) (by omega)
    rw [getD_lt (by omega : k + i < o.length)] at h3
    exact leI_of_lt h3
  unfold SortedI at *
  rw [List.pairwise_append, List.pairwise_cons]
  rw [← List.take_append_drop k o, List.pairwise_append] at h
  refine ⟨h.1, ⟨hd, h.2.1⟩, fun a ha b hb => ?_⟩
  rcases List.mem_cons.1 hb with rfl | hb
  · exact ht a ha
  · exact h.2.2 a ha b hb
theorem sortI_sorted (l : List Int) : SortedI (sortI l) := by
  have key : ∀ (l o : List Int), SortedI o → SortedI (l.foldl putI o) := by
    intro l
    induction l with
    | nil => intro o h; exact h
    | cons x l ih => intro o h; exact ih _ (putI_sorted h)
  exact key l [] List.Pairwise.nil
theorem s_compactI : Fz31.S (cl PL (compV (0 : Int))) := Fz31.of_cl fun l h k => by
  have hl : l.length ≤ 1073741824 := h
  unfold Fz31.pf
  by_cases c2 : (l.length : Int) < 2
  · rw [decT c2, cond_true]
    have e : compV (0 : Int) l = (none, l) := by
      unfold compV
      match l, c2 with
      | [], _ => rfl
      | [x], _ => rfl
      | x :: y :: l, c2 => simp at c2; omega
    rw [e]
  · rw [decF c2, cond_false]
    -- where two stand together first
    have key : ∀ (n j : Nat) (fuel : Nat), j + n = l.length → 1 ≤ j → n < fuel → (∀ i, i + 1 < j → l.getD (i + 1) (0 : Int) ≠ l.getD i (0 : Int)) →
        iter (Fz31.B1 BIG l (fun (x1 : Int) (x2 : (Int × Int × (List Int))) => k ((some (0, (x2.1 - (0 : Int)).toNat)), (overL x2.2.2 x2.1.toNat (List.replicate ((((List.length x2.2.2) : Nat) : Int) - x2.1).toNat (0 : Int))))) (fun (x1 : Int) => k ((none : Option (Nat × Nat)), l))) fuel (j : Int) = k (compV (0 : Int) l) := by
      intro n
      induction n with
      | zero =>
        intro j fuel hj h1 hf hne
        match fuel, hf with
        | f + 1, _ =>
          show Fz31.B1 _ _ _ _ _ _ = _
          unfold Fz31.B1
          rw [decF (by omega), cond_false]
          have e := compact_same (0 : Int) l (l.length - 1) (by omega) (fun i hi => hne i (by omega))
          rw [show l.length - 1 + 1 = l.length by omega, List.take_of_length_le (Nat.le_refl _)] at e
          unfold compV
          rw [e, if_pos rfl]
      | succ n ih =>
        intro j fuel hj h1 hf hne
        match fuel, hf with
        | f + 1, hf =>
          have hjl : j < l.length := by omega
          have ej : IntKind.i64.wrap ((j : Int) - 1) = ((j - 1 : Nat) : Int) := by rw [w64 (by omega) (by omega)]; omega
          show Fz31.B1 _ _ _ _ (iter _ f) _ = _
          generalize hR : iter (Fz31.B1 BIG l (fun (x1 : Int) (x2 : (Int × Int × (List Int))) => k ((some (0, (x2.1 - (0 : Int)).toNat)), (overL x2.2.2 x2.1.toNat (List.replicate ((((List.length x2.2.2) : Nat) : Int) - x2.1).toNat (0 : Int))))) (fun (x1 : Int) => k ((none : Option (Nat × Nat)), l))) f = R
          unfold Fz31.B1
          simp only [decT (show (j : Int) < (l.length : Int) by omega), inB_nat hjl, ej, inB_nat (show j - 1 < l.length by omega), cond_true, Int.toNat_natCast]
          by_cases c : l.getD j (0 : Int) = l.getD (j - 1) (0 : Int)
          · rw [beqT c, cond_true, inW_true (by omega) (by omega) (by omega), cond_true]
            have etk : compact (l.take j) = l.take j := by
              have := compact_same (0 : Int) l (j - 1) (by omega) (fun i hi => hne i (by omega))
              rwa [show j - 1 + 1 = j by omega] at this
            have etk1 : compact (l.take (j + 1)) = l.take j := by
              have := compact_succ (0 : Int) (l := l) (j := j - 1) (by omega)
              rw [show j - 1 + 2 = j + 1 by omega, show j - 1 + 1 = j by omega, if_pos c, List.append_nil, etk] at this
              exact this
            have := iter_fold (B := Fz31.B2 j (((l.length : Int) - (j : Int)).toNat) (fun (x2 : (Int × Int × (List Int))) => cond (inW x2.1 (((List.length x2.2.2) : Nat) : Int) (List.length x2.2.2)) (cond (inW (0 : Int) x2.1 (List.length (overL x2.2.2 x2.1.toNat (List.replicate ((((List.length x2.2.2) : Nat) : Int) - x2.1).toNat (0 : Int))))) (k ((some (0, (x2.1 - (0 : Int)).toNat)), (overL x2.2.2 x2.1.toNat (List.replicate ((((List.length x2.2.2) : Nat) : Int) - x2.1).toNat (0 : Int))))) none) none))
              l (fun p (c : List Int) => (((compact (l.take p)).length : Int), ((p - j : Nat) : Int), c)) (fun _ _ => k (compV (0 : Int) l)) (fun p c => j + 1 ≤ p ∧ c.length = l.length ∧ c.drop (p - 1) = l.drop (p - 1) ∧ c.take (compact (l.take p)).length = compact (l.take p) ∧ (compact (l.take p)).length < p) ?_ ?_ (l.length - (j + 1)) (j + 1) l BIG (by omega) (big_lt (by omega)) ⟨Nat.le_refl _, rfl, rfl, ?_, ?_⟩
            · have el : (List.take j l).length = j := by rw [List.length_take]; omega
              simp only [etk1, el] at this
              rw [show ((j + 1 - j : Nat) : Int) = 1 by omega] at this
              exact this
            · rintro p hp c' rec ⟨hp1, e1, e2, e3, e4⟩ hrec
              have hpc : p < c'.length := by omega
              have g0 : c'.getD (p - 1) (0 : Int) = l.getD (p - 1) (0 : Int) := by
                have := congrArg (fun z => z.getD 0 (0 : Int)) e2
                simpa [List.getD_eq_getElem?_getD] using this
              have g1 : c'.getD p (0 : Int) = l.getD p (0 : Int) := by
                have := congrArg (fun z => z.getD 1 (0 : Int)) e2
                simpa [List.getD_eq_getElem?_getD, show p - 1 + 1 = p by omega] using this
              have es : compact (l.take (p + 1)) = compact (l.take p) ++ if l.getD p (0 : Int) = l.getD (p - 1) (0 : Int) then [] else [l.getD p (0 : Int)] := by
                have := compact_succ (0 : Int) (l := l) (j := p - 1) (by omega)
                rwa [show p - 1 + 2 = p + 1 by omega, show p - 1 + 1 = p by omega] at this
              unfold Fz31.B2
              have en : (((l.length : Int) - (j : Int)).toNat) = l.length - j := by omega
              have ep : IntKind.i64.wrap (((p - j : Nat) : Int) - 1) = ((p - 1 - j : Nat) : Int) := by rw [w64 (by omega) (by omega)]; omega
              simp only [en, ep, decT (show ((p - j : Nat) : Int) < ((l.length - j : Nat) : Int) by omega), inB_nat (show p - j < l.length - j by omega), inB_nat (show p - 1 - j < l.length - j by omega), cond_true, Int.toNat_natCast, show j + (p - j) = p by omega, show j + (p - 1 - j) = p - 1 by omega, g0, g1, w64n (show p - j < 9223372036854775807 by omega)]
              rw [show p - j + 1 = p + 1 - j by omega]
              by_cases cc : l.getD p (0 : Int) = l.getD (p - 1) (0 : Int)
              · rw [if_pos cc, List.append_nil] at es
                rw [bneF cc, cond_false]
                have := hrec c' ⟨by omega, e1, by
                  have := congrArg (List.drop 1) e2
                  rw [List.drop_drop, List.drop_drop] at this
                  rwa [show p - 1 + 1 = p + 1 - 1 by omega] at this, by rw [es]; exact e3, by rw [es]; omega⟩
                rw [es] at this
                exact this
              · rw [if_neg cc] at es
                have el : (compact (l.take (p + 1))).length = (compact (l.take p)).length + 1 := by rw [es]; simp
                have hm : (compact (l.take p)).length < c'.length := by omega
                rw [bneT cc, cond_true, inB_nat hm, cond_true, w64n (show (compact (l.take p)).length < 9223372036854775807 by omega)]
                have := hrec (c'.set (compact (l.take p)).length (l.getD p (0 : Int))) ⟨by omega, by simpa using e1, by
                  rw [List.drop_set_of_lt (by omega)]
                  have := congrArg (List.drop 1) e2
                  rw [List.drop_drop, List.drop_drop] at this
                  rwa [show p - 1 + 1 = p + 1 - 1 by omega] at this, by
                  rw [el, take_set hm, e3, es], by omega⟩
                rw [el] at this
                exact this
            · rintro c' rec ⟨hp1, e1, e2, e3, e4⟩
              have eT : l.take l.length = l := List.take_of_length_le (Nat.le_refl _)
              simp only [eT] at e3 e4 ⊢
              unfold Fz31.B2
              rw [decF (by simp only; omega)]
              simp only [cond_false, e1]
              rw [inW_true (by omega) (by omega) (by omega), cond_true]
              have e5 : overL c' (((compact l).length : Nat) : Int).toNat (List.replicate ((((l.length : Nat) : Int)) - (((compact l).length : Nat) : Int)).toNat (0 : Int)) = compact l ++ List.replicate (l.length - (compact l).length) (0 : Int) := by
                unfold overL
                rw [Int.toNat_natCast, e3, List.drop_eq_nil_of_le (by simp; omega), List.append_nil]
                congr 2
                omega
              rw [e5, inW_true (by omega) (by omega) (by simp; omega), cond_true]
              unfold compV
              rw [if_neg (by omega)]
              congr 3
            · rw [etk1, List.length_take, Nat.min_eq_left (by omega)]
            · rw [etk1, List.length_take]; omega
          · rw [beqF c, cond_false, w64n (by omega), ← hR]
            exact ih (j + 1) f (by omega) (by omega) (by omega) (fun i hi => by
              rcases Nat.lt_or_ge (i + 1) j with q | q
              · exact hne i q
              · obtain rfl : i + 1 = j := by omega
                exact c)
    exact key (l.length - 1) 1 BIG (by omega) (by omega) (big_lt (by omega)) (fun i hi => by omega)
def pNe (q : DB × DB) : Bool := !decide (q.1 = q.2)
abbrev differL (a b : List DB) : List Int := idxs pNe 0 (a.zip b)
theorem differL_ok {a b : List DB} (ha : Cr a) (hb : Cr b) : (differL a b).length ≤ 12 ∧ ∀ i, i ∈ differL a b → ∃ n : Nat, i = (n : Int) ∧ n < 12 := by
  have ha : a.length = 12 := ha
  have hb : b.length = 12 := hb
  have hz : (a.zip b).length = 12 := by simp; omega
  have := idxs_len pNe (a.zip b) 0
  refine ⟨(show (idxs pNe 0 (a.zip b)).length ≤ 12 by omega), fun i hi => ?_⟩
  obtain ⟨n, e, _, h⟩ := idxs_mem _ _ _ _ hi
  exact ⟨n, e, by omega⟩
theorem s_l03Differ : Fz55.S (cl Cr2 fun x => differL x.1 x.2) := Fz55.of_cl fun x h k => by
  obtain ⟨a, b⟩ := x
  have ha : a.length = 12 := h.1
  have hb : b.length = 12 := h.2
  have hz : (a.zip b).length = 12 := by simp; omega
  show Fz55.pf BIG a b k = k (differL a b)
  unfold Fz55.pf
  refine iter_list (a.zip b) (fun i (o : List Int) => ((i : Int), o)) (fun _ _ => k (differL a b)) (fun i o => o = idxs pNe 0 ((a.zip b).take i)) (c := []) rfl (big_lt (by omega)) rfl ?_ ?_
  · rintro i hi o rec rfl hrec
    have h1 : i < a.length := by omega
    have h2 : i < b.length := by omega
    have hbd := idxs_len pNe ((a.zip b).take i) 0
    rw [List.length_take] at hbd
    have e := idxs_snoc pNe (a.zip b)[i] ((a.zip b).take i) 0
    rw [← List.take_succ_eq_append_getElem hi, List.length_take, Nat.min_eq_left (by omega), Nat.zero_add, zip_at hi] at e
    unfold Fz55.B1
    simp only [decT (show (i : Int) < 12 by omega), inB_nat (show i < 12 by omega), cond_true, Int.toNat_natCast, getD_lt h1, getD_lt h2, eqB, w64n (show i < 9223372036854775807 by omega)]
    unfold pNe at e
    by_cases q : a[i] = b[i]
    · rw [decT q, if_neg (by simp), List.append_nil] at e
      rw [decT q]
      exact hrec _ e.symm
    · rw [decF q, if_pos (by rfl)] at e
      rw [decF q, okS (by simp; omega)]
      exact hrec _ e.symm
  · rintro o rec rfl
    unfold Fz55.B1
    rw [decF (by simp only; omega), List.take_of_length_le (Nat.le_refl _)]
    rfl
theorem s_differ : Fz18.S (cl Cr2 fun x => differL x.1 x.2) := Fz18.of_cl fun x h k => by
  obtain ⟨a, b⟩ := x
  have ha : a.length = 12 := h.1
  have hb : b.length = 12 := h.2
  have hz : (a.zip b).length = 12 := by simp; omega
  show Fz18.pf BIG a b k = k (differL a b)
  unfold Fz18.pf
  refine iter_list (a.zip b) (fun i (o : List Int) => ((i : Int), o)) (fun _ _ => k (differL a b)) (fun i o => o = idxs pNe 0 ((a.zip b).take i)) (c := []) rfl (big_lt (by omega)) rfl ?_ ?_
  · rintro i hi o rec rfl hrec
    have h1 : i < a.length := by omega
    have h2 : i < b.length := by omega
    have hbd := idxs_len pNe ((a.zip b).take i) 0
    rw [List.length_take] at hbd
    have e := idxs_snoc pNe (a.zip b)[i] ((a.zip b).take i) 0
    rw [← List.take_succ_eq_append_getElem hi, List.length_take, Nat.min_eq_left (by omega), Nat.zero_add, zip_at hi] at e
    unfold Fz18.B1
    simp only [decT (show (i : Int) < 12 by omega), inB_nat (show i < 12 by omega), cond_true, Int.toNat_natCast, getD_lt h1, getD_lt h2, eqB, w64n (show i < 9223372036854775807 by omega)]
    unfold pNe at e
    by_cases q : a[i] = b[i]
    · rw [decT q, if_neg (by simp), List.append_nil] at e
      rw [decT q]
      exact hrec _ e.symm
    · rw [decF q, if_pos (by rfl)] at e
      rw [decF q, okS (by simp; omega)]
      exact hrec _ e.symm
  · rintro o rec rfl
    unfold Fz18.B1
    rw [decF (by simp only; omega), List.take_of_length_le (Nat.le_refl _)]
    rfl
def askC (a b : List DB) : Int := if (crateOk a && crateOk b) = true then (if sortB (allB a) = sortB (allB b) then (if (differL a b).length > 8 then 3 else 0) else 4) else 1
theorem askC_0 {a b : List DB} (h : askC a b = 0) : (differL a b).length ≤ 8 := by
  unfold askC at h
  split at h
  · split at h
    · split at h
      · cases h
      · omega
    · cases h
  · cases h
theorem s_l03Asked : Fz53.S (cl wC2 fun x => askC x.1 x.2) := Fz53.of_cl s_l01Ok s_l03Same s_l03Differ fun x h k => by
  obtain ⟨a, b⟩ := x
  show Fz53.pf _ _ _ BIG a b k = k (askC a b)
  unfold Fz53.pf askC
  rw [cl_eq h.1, Option.bind_some]
  cases crateOk a with
  | false => rfl
  | true =>
    simp only [Bool.not_true, cond_false, Bool.true_and]
    rw [cl_eq h.2, Option.bind_some]
    cases crateOk b with
    | false => rfl
    | true =>
      simp only [Bool.not_true, cond_false, if_true]
      rw [cl_eq h.cr, Option.bind_some]
      by_cases c : sortB (allB a) = sortB (allB b)
      · rw [decT c, if_pos c]
        simp only [Bool.not_true, cond_false]
        rw [cl_eq h.cr, Option.bind_some]
        simp only
        by_cases d : (differL a b).length > 8
        · rw [decT (by omega), if_pos d]; rfl
        · rw [decF (by omega), if_neg d]; rfl
      · rw [decF c, if_neg c]; rfl
theorem s_differCode : Fz19.S (cl wC2 fun x => askC x.1 x.2) := Fz19.of_cl s_ValidCrate s_crateSorted s_equalB s_differ fun x h k => by
  obtain ⟨a, b⟩ := x
  have ha : Cr a := h.1.1
  have hb : Cr b := h.2.1
  have ha' : a.length = 12 := ha
  show Fz19.pf _ _ _ _ BIG a b k = k (askC a b)
  unfold Fz19.pf askC
  rw [cl_eq h.1, Option.bind_some]
  cases crateOk a with
  | false => rfl
  | true =>
    simp only [Bool.not_true, cond_false, Bool.true_and]
    rw [cl_eq h.2, Option.bind_some]
    cases crateOk b with
    | false => rfl
    | true =>
      simp only [Bool.not_true, cond_false, if_true]
      have h1 := sortB_len (allB a)
      have h2 := allB_len a
      rw [cl_eq ha, Option.bind_some, cl_eq hb, Option.bind_some, cl_eq (show PL1 (sortB (allB a), sortB (allB b)) by unfold PL1; simp only; omega), Option.bind_some]
      by_cases c : sortB (allB a) = sortB (allB b)
      · rw [decT c, if_pos c]
        simp only [Bool.not_true, cond_false]
        rw [cl_eq h.cr, Option.bind_some]
        simp only
        by_cases d : (differL a b).length > 8
        · rw [decT (by omega), if_pos d]; rfl
        · rw [decF (by omega), if_neg d]; rfl
      · rw [decF c, if_neg c]; rfl
def selK (f : Nat → Bool) (c : List DB) : Nat → List Int → List DB
  | _, [] => []
  | k, p :: ps => if f k = true then c.getD p.toNat (0, 0) :: selK f c (k + 1) ps else selK f c (k + 1) ps
theorem selK_congr (f g : Nat → Bool) (c : List DB) : ∀ (ps : List Int) (k : Nat), (∀ i, k ≤ i → i < k + ps.length → f i = g i) → selK f c k ps = selK g c k ps
  | [], _, _ => rfl
  | p :: ps, k, h => by
    unfold selK
    rw [h k (Nat.le_refl _) (by simp), selK_congr f g c ps (k + 1) (fun i h1 h2 => h i (by omega) (by simp; omega))]
theorem selK_none (f : Nat → Bool) (c : List DB) : ∀ (ps : List Int) (k : Nat), (∀ i, k ≤ i → i < k + ps.length → f i = false) → selK f c k ps = []
  | [], _, _ => rfl
  | p :: ps, k, h => by
    unfold selK
    rw [h k (Nat.le_refl _) (by simp), if_neg (by simp), selK_none f c ps (k + 1) (fun i h1 h2 => h i (by omega) (by simp; omega))]
/-- Both crates have the same there. -/
def eqSort (u v : List DB) : Bool := decide (sortB u = sortB v)
def bal (a b : List DB) (ps : List Int) (f : Nat → Bool) : Bool := eqSort (selK f a 0 ps) (selK f b 0 ps)
def bitAt (n i : Nat) : Bool := decide (n / 2 ^ i % 2 = 1)
theorem bit_and {n i : Nat} (hn : n < 2 ^ 32) (hi : i < 32) : (IntKind.i64.wrap (((BitVec.ofInt IntKind.i64.bits (Int.fdiv (n : Int) (2 ^ (min ((IntKind.u64.wrap (i : Int))).toNat IntKind.i64.bits))) &&& BitVec.ofInt IntKind.i64.bits (1 : Int)).toNat : Nat) : Int) == (1 : Int)) = bitAt n i := by
  have e1 : IntKind.u64.wrap (i : Int) = (i : Int) := by rw [IntKind.wrap_u64]; omega
  have e2 : IntKind.i64.bits = 64 := rfl
  rw [e1, e2, Int.toNat_natCast, Nat.min_eq_left (by omega)]
  have e3 : Int.fdiv (n : Int) (2 ^ i) = ((n / 2 ^ i : Nat) : Int) := by
    rw [Int.fdiv_eq_ediv_of_nonneg _ (Int.le_of_lt (Int.pow_pos (by omega)))]
    rw [Int.natCast_ediv, Int.natCast_pow]
    rfl
  have hq : n / 2 ^ i ≤ n := Nat.div_le_self _ _
  have e4 : (BitVec.ofInt 64 ((n / 2 ^ i : Nat) : Int) &&& BitVec.ofInt 64 (1 : Int)).toNat = n / 2 ^ i % 2 := by
    rw [BitVec.toNat_and, BitVec.toNat_ofInt, BitVec.toNat_ofInt]
    have h1 : ((((n / 2 ^ i : Nat) : Int)) % ((2 ^ 64 : Nat) : Int)).toNat = n / 2 ^ i := by
      rw [← Int.natCast_emod, Int.toNat_natCast, Nat.mod_eq_of_lt (by omega)]
    have h2 : ((1 : Int) % ((2 ^ 64 : Nat) : Int)).toNat = 1 := rfl
    rw [h1, h2, Nat.and_one_is_mod]
  rw [e3, e4]
  have hm : n / 2 ^ i % 2 < 2 := Nat.mod_lt _ (by omega)
  rw [w64 (by omega) (by omega)]
  unfold bitAt
  by_cases c : n / 2 ^ i % 2 = 1
  · rw [c, decT rfl]; rfl
  · rw [decF c, beqF (by omega)]
def PBl (x : List DB × List DB × List Int × Int) : Prop := Cr x.1 ∧ Cr x.2.1 ∧ x.2.2.1.length ≤ 12 ∧ (∀ i, i ∈ x.2.2.1 → ∃ n : Nat, i = (n : Int) ∧ n < 12) ∧ ∃ n : Nat, x.2.2.2 = (n : Int) ∧ n < 2 ^ 32
theorem s_l03Balanced : Fz54.S (cl PBl fun x => bal x.1 x.2.1 x.2.2.1 (bitAt x.2.2.2.toNat)) := Fz54.of_cl s_l01Sorted fun x h k => by
  obtain ⟨a, b, ps, s⟩ := x
  obtain ⟨ha, hb, hp, hm, n, e, hn⟩ := h
  have e : s = (n : Int) := e
  subst e
  have hp : ps.length ≤ 12 := hp
  have hm : ∀ i, i ∈ ps → ∃ n : Nat, i = (n : Int) ∧ n < 12 := hm
  show Fz54.pf _ BIG a b ps (n : Int) k = k (bal a b ps (bitAt (n : Int).toNat))
  rw [Int.toNat_natCast]
  unfold Fz54.pf
  refine iter_list ps (fun i (o : List DB × List DB) => ((i : Int), o.1, o.2)) (fun q o => k (eqSort (o.1 ++ selK (bitAt n) a (ps.length - q.length) q) (o.2 ++ selK (bitAt n) b (ps.length - q.length) q))) (fun i o => o.1.length ≤ i ∧ o.1.length = o.2.length) (c := ([], [])) rfl (big_lt (by omega)) ⟨Nat.le_refl 0, rfl⟩ ?_ ?_ |>.trans (by rw [Nat.sub_self]; rfl)
  · rintro i hi ⟨x, y⟩ rec ⟨h1, h2⟩ hrec
    obtain ⟨m, em, hm12⟩ := hm _ (List.getElem_mem hi)
    have h1 : x.length ≤ i := h1
    have h2 : x.length = y.length := h2
    have e1 : ps.length - (ps[i] :: ps.drop (i + 1)).length = i := by rw [List.length_cons, List.length_drop]; omega
    have e2 : ps.length - (ps.drop (i + 1)).length = i + 1 := by rw [List.length_drop]; omega
    have e3 : IntKind.u64.wrap (i : Int) = (i : Int) := by rw [IntKind.wrap_u64]; omega
    unfold Fz54.B1
    simp only [decT (show (i : Int) < (ps.length : Int) by omega), cond_true, bit_and hn (show i < 32 by omega)]
    rw [e1]
    rw [e2] at hrec
    simp only [selK, e3, decF (show ¬ (i : Int) < 0 by omega), cond_false, w64n (show i < 9223372036854775807 by omega)]
    cases hbit : bitAt n i with
    | true =>
      simp only [cond_true, inB_nat hi, Int.toNat_natCast, getD_lt hi, em, inB_nat hm12, if_true]
      rw [okS (by simp; omega), okS (by simp; omega)]
      refine (hrec (x ++ [a.getD m (0, 0)], y ++ [b.getD m (0, 0)]) ⟨by simp; omega, by simp; omega⟩).trans ?_
      simp only [List.append_assoc, List.singleton_append]
    | false =>
      simp only [cond_false, Bool.false_eq_true, if_false]
      exact hrec (x, y) ⟨by omega, h2⟩
  · rintro ⟨x, y⟩ rec ⟨h1, h2⟩
    have h1 : x.length ≤ ps.length := h1
    have h2 : x.length = y.length := h2
    unfold Fz54.B1
    rw [decF (by simp only; omega)]
    simp only [cond_false, selK, List.append_nil]
    rw [cl_eq (show PL x by unfold PL; omega), Option.bind_some, cl_eq (show PL y by unfold PL; omega), Option.bind_some]
    have h3 := sortB_len x
    have h4 := sortB_len y
    unfold eqSort
    generalize sortB x = u at h3 ⊢
    generalize sortB y = v at h4 ⊢
    have c : u.length = v.length := by omega
    have hz := zip_len c
    rw [iter_first (u.zip v) (fun i => (i : Int)) (fun p => !decide (p.1 = p.2)) (fun _ _ => k false) (k true) (x := 0) rfl (big_lt (by omega)) ?_ ?_, firstOr_const, any_eq u v c]
    · by_cases e : u = v <;> simp [e]
    · intro i hi rec
      have h1 : i < u.length := by omega
      have h2 : i < v.length := by omega
      unfold Fz54.B2
      rw [zip_at hi]
      simp only [decT (show (i : Int) < (u.length : Int) by omega), inB_nat h1, inB_nat h2, cond_true, Int.toNat_natCast, getD_lt h1, getD_lt h2, eqB, w64n (show i < 9223372036854775807 by omega)]
    · intro rec
      unfold Fz54.B2
      rw [decF (by omega)]
      rfl
def setB (p : Int) : List Int → Nat
  | [] => 0
  | x :: l => (if x = p then 1 else 0) + 2 * setB p l
theorem setB_cons (p x : Int) (l : List Int) : setB p (x :: l) = (if x = p then 1 else 0) + 2 * setB p l := rfl
theorem setB_lt (p : Int) : ∀ l : List Int, setB p l < 2 ^ l.length
  | [] => by simp [setB]
  | x :: l => by
    have := setB_lt p l
    unfold setB
    rw [List.length_cons, Nat.pow_succ]
    split <;> omega
theorem setB_snoc (p x : Int) : ∀ l : List Int, setB p (l ++ [x]) = setB p l + if x = p then 2 ^ l.length else 0
  | [] => by simp [setB]
  | y :: l => by
    rw [List.cons_append, setB, setB, setB_snoc p x l, List.length_cons, Nat.pow_succ]
    split <;> split <;> omega
theorem setB_bit (p : Int) : ∀ (l : List Int) (i : Nat), i < l.length → bitAt (setB p l) i = decide (l.getD i 0 = p)
  | x :: l, 0, _ => by
    unfold bitAt
    rw [setB_cons, Nat.pow_zero, Nat.div_one]
    by_cases c : x = p
    · rw [if_pos c, decT (by omega), decT (show (x :: l).getD 0 0 = p from c)]
    · rw [if_neg c, decF (by omega), decF (show ¬ (x :: l).getD 0 0 = p from c)]
  | x :: l, i + 1, h => by
    have ih := setB_bit p l i (by simpa using h)
    unfold bitAt at ih ⊢
    have e : setB p (x :: l) / 2 ^ (i + 1) = setB p l / 2 ^ i := by
      rw [Nat.pow_succ', ← Nat.div_div_eq_div_mul]
      congr 1
      rw [setB_cons]
      split <;> omega
    rw [e, ih, List.getD_cons_succ]
theorem setB_pos (p : Int) : ∀ l : List Int, decide ((setB p l : Int) > 0) = decide (p ∈ l)
  | [] => by simp [setB]
  | x :: l => by
    have ih := setB_pos p l
    rw [decide_eq_decide] at ih ⊢
    unfold setB
    rw [List.mem_cons]
    by_cases c : x = p
    · rw [if_pos c]
      exact ⟨fun _ => .inl c.symm, fun _ => by omega⟩
    · rw [if_neg c]
      constructor
      · intro h; exact .inr (ih.1 (by omega))
      · rintro (h | h)
        · exact absurd h.symm c
        · have := ih.2 h; omega
theorem bit_or {n i : Nat} (hn : n < 2 ^ i) (hi : i < 32) : IntKind.i64.wrap (((BitVec.ofInt IntKind.i64.bits (n : Int) ||| BitVec.ofInt IntKind.i64.bits (IntKind.i64.wrap ((1 : Int) * 2 ^ (min ((IntKind.u64.wrap (i : Int))).toNat IntKind.i64.bits)))).toNat : Nat) : Int) = ((n + 2 ^ i : Nat) : Int) := by
  have e1 : IntKind.u64.wrap (i : Int) = (i : Int) := by rw [IntKind.wrap_u64]; omega
  have e2 : IntKind.i64.bits = 64 := rfl
  have hp : 2 ^ i ≤ 2 ^ 31 := Nat.pow_le_pow_right (by omega) (by omega)
  have e5 : ((1 : Int) * 2 ^ i) = ((2 ^ i : Nat) : Int) := by rw [Int.one_mul, Int.natCast_pow]; rfl
  rw [e1, e2, Int.toNat_natCast, Nat.min_eq_left (by omega), e5, w64 (n := ((2 ^ i : Nat) : Int)) (by omega) (by omega)]
  have e4 : (BitVec.ofInt 64 ((n : Nat) : Int) ||| BitVec.ofInt 64 ((2 ^ i : Nat) : Int)).toNat = n + 2 ^ i := by
    rw [BitVec.toNat_or, BitVec.toNat_ofInt, BitVec.toNat_ofInt]
    have h1 : ∀ q : Nat, q < 2 ^ 33 → (((q : Nat) : Int) % ((2 ^ 64 : Nat) : Int)).toNat = q := fun q hq => by
      rw [← Int.natCast_emod, Int.toNat_natCast, Nat.mod_eq_of_lt (by omega)]
    rw [h1 n (by omega), h1 (2 ^ i) (by omega), Nat.or_comm]
    have := Nat.two_pow_add_eq_or_of_lt hn 1
    rw [Nat.mul_one] at this
    omega
  rw [e4, w64 (by omega) (by omega)]
theorem set_loop {α : Type} (part : Int) (p0 : Int) (ps : List Int) (p3 p4 : List DB) (p5 : List Int) (hl : ps.length ≤ 8) (K : Int × Int → Option α) :
    iter (Fz46.B3 p0 part ps p3 p4 p5 K) BIG (0, 0) = K ((setB part ps : Int), (ps.length : Int)) := by
  refine iter_list ps (fun i (c : Int) => (c, (i : Int))) (fun _ _ => K ((setB part ps : Int), (ps.length : Int))) (fun i c => c = (setB part (ps.take i) : Int)) (c := 0) rfl (big_lt (by omega)) rfl ?_ ?_
  · rintro i hi c rec rfl hrec
    have e := setB_snoc part ps[i] (ps.take i)
    have hlt := setB_lt part (ps.take i)
    have hti : (ps.take i).length = i := by rw [List.length_take]; omega
    rw [← List.take_succ_eq_append_getElem hi, hti] at e
    rw [hti] at hlt
    have e3 : IntKind.u64.wrap (i : Int) = (i : Int) := by rw [IntKind.wrap_u64]; omega
    unfold Fz46.B3
    simp only [decT (show (i : Int) < (ps.length : Int) by omega), inB_nat hi, cond_true, Int.toNat_natCast, getD_lt hi, bit_or hlt (show i < 32 by omega), w64n (show i < 9223372036854775807 by omega)]
    by_cases c : ps[i] = part
    · rw [if_pos c] at e
      rw [beqT c, e3, decF (show ¬ (i : Int) < 0 by omega)]
      exact hrec _ (by rw [e])
    · rw [if_neg c] at e
      rw [beqF c]
      exact hrec _ (by rw [e, Nat.add_zero])
  · rintro c rec rfl
    unfold Fz46.B3
    rw [decF (by simp), List.take_of_length_le (Nat.le_refl _)]
    rfl
def inP (x : Int) : Bool := decide (0 ≤ x) && decide (x ≤ 7)
def balP (a b : List DB) (ps parts : List Int) (p : Int) : Bool := bal a b ps fun i => decide (parts.getD i 0 = p)
def eightI : List Int := [0, 1, 2, 3, 4, 5, 6, 7]
def ringsOf (a b : List DB) (parts : List Int) : Int × Int :=
  if askC a b = 0 then (if (decide (parts.length = (differL a b).length) && parts.all inP) = true then (if (eightI.all fun p => balP a b (differL a b) parts p) = true then (countI (fun p => decide (p ∈ parts)) eightI, 0) else (0, 8)) else (0, 2)) else (0, askC a b)
def PRi (x : List DB × List DB × List Int) : Prop := wC2 (x.1, x.2.1) ∧ PL x.2.2
theorem eight_at : ∀ (i : Nat) (h : i < eightI.length), eightI[i] = (i : Int)
  | 0, _ => rfl | 1, _ => rfl | 2, _ => rfl | 3, _ => rfl | 4, _ => rfl | 5, _ => rfl | 6, _ => rfl | 7, _ => rfl
  | n + 8, h => by simp [eightI] at h; omega
theorem eight_mem {x : Int} : x ∈ eightI ↔ inP x = true := by
  simp only [eightI, inP, List.mem_cons, List.not_mem_nil, or_false, Bool.and_eq_true, decide_eq_true_eq]
  omega
theorem s_spec_RingsOf : Fz46.S (cl PRi fun x => ringsOf x.1 x.2.1 x.2.2) := Fz46.of_cl s_l03Asked s_l03Differ s_l00In s_l03Balanced fun x h k => by
  obtain ⟨a, b, parts⟩ := x
  obtain ⟨hw, hl⟩ := h
  have hl : parts.length ≤ 1073741824 := hl
  have hc : Cr2 (a, b) := hw.cr
  have ha : Cr a := hw.1.1
  have hb : Cr b := hw.2.1
  show Fz46.pf _ _ _ _ BIG a b parts k = k (ringsOf a b parts)
  unfold Fz46.pf ringsOf
  rw [cl_eq hw, Option.bind_some]
  by_cases c0 : askC a b = 0
  · rw [bneF c0, if_pos c0, cond_false, cl_eq hc, Option.bind_some]
    obtain ⟨d1, d2⟩ := differL_ok ha hb
    have d3 := askC_0 c0
    simp only at d1 d2 d3 ⊢
    generalize differL a b = ps at *
    have e0 : (((parts.length : Nat) : Int) == ((ps.length : Nat) : Int)) = decide (parts.length = ps.length) := by
      by_cases e : parts.length = ps.length
      · rw [beqT (by omega), decT e]
      · rw [beqF (by omega), decF e]
    rw [e0]
    refine (iter_list parts (fun i (c : Bool) => (c, (i : Int))) (fun q c => k (if (c && q.all inP) = true then (if (eightI.all fun p => balP a b ps parts p) = true then (countI (fun p => decide (p ∈ parts)) eightI, 0) else (0, 8)) else (0, 2))) (fun i c => c = true → parts.length = ps.length) (c := decide (parts.length = ps.length)) rfl (big_lt (by omega)) (fun e => of_decide_eq_true e) ?_ ?_)
    · rintro i hi c rec hI hrec
      unfold Fz46.B1
      simp only [decT (show (i : Int) < (parts.length : Int) by omega), inB_nat hi, cond_true, Int.toNat_natCast, getD_lt hi, tot_eq, Option.bind_some, w64n (show i < 9223372036854775807 by omega), List.all_cons]
      cases c with
      | true =>
        simp only [cond_true, Bool.true_and]
        exact hrec _ (fun _ => hI rfl)
      | false =>
        simp only [cond_false, Bool.false_and]
        exact (hrec false (fun q => by cases q)).trans (by simp only [Bool.false_and])
    · rintro c rec hI
      unfold Fz46.B1
      rw [decF (by simp)]
      simp only [cond_false, List.all_nil, Bool.and_true]
      cases c with
      | false => rfl
      | true =>
        have hlen := hI rfl
        simp only [Bool.not_true, cond_false, if_true]
        refine (iter_list eightI (fun i (c : Int) => (c, (i : Int))) (fun q c => k (if (q.all fun p => balP a b ps parts p) = true then (c + countI (fun p => decide (p ∈ parts)) q, 0) else (0, 8))) (fun i c => 0 ≤ c ∧ c ≤ i) (c := 0) rfl (big_lt (by decide)) ⟨by omega, by omega⟩ ?_ ?_).trans (by rw [Int.zero_add])
        · rintro i hi c rec ⟨h1, h2⟩ hrec
          have hi8 : i < 8 := hi
          have e8 := eight_at i hi
          have hlt := setB_lt (i : Int) parts
          have hp8 : 2 ^ parts.length ≤ 2 ^ 8 := Nat.pow_le_pow_right (by omega) (by omega)
          unfold Fz46.B2
          simp only [decT (show (i : Int) < 8 by omega), cond_true]
          rw [set_loop (i : Int) c parts a b ps (by omega)]
          simp only
          rw [cl_eq (show PBl (a, b, ps, ((setB (i : Int) parts : Nat) : Int)) from ⟨ha, hb, d1, d2, _, rfl, by omega⟩), Option.bind_some]
          have ebal : bal a b ps (bitAt ((setB (i : Int) parts : Nat) : Int).toNat) = balP a b ps parts (i : Int) := by
            unfold balP bal
            have e : ∀ c : List DB, selK (bitAt ((setB (i : Int) parts : Nat) : Int).toNat) c 0 ps = selK (fun j => decide (parts.getD j 0 = (i : Int))) c 0 ps := fun c => selK_congr _ _ _ _ _ fun j _ hj => by
              rw [Int.toNat_natCast]
              exact setB_bit (i : Int) parts j (by omega)
            rw [e a, e b]
          rw [ebal, e8, List.all_cons, setB_pos]
          cases hb : balP a b ps parts (i : Int) with
          | false => rfl
          | true =>
            simp only [Bool.not_true, cond_false, Bool.true_and, countI, w64n (show i < 9223372036854775807 by omega)]
            rw [w64 (n := c + 1) (by omega) (by omega)]
            by_cases m : (i : Int) ∈ parts
            · rw [decT m]
              exact (hrec _ (by omega)).trans (by simp only [cond_true, Int.add_assoc])
            · rw [decF m]
              exact (hrec _ (by omega)).trans (by simp only [cond_false, Int.zero_add])
        · rintro c rec _
          unfold Fz46.B2
          rw [decF (by simp only; show ¬ ((eightI.length : Nat) : Int) < 8; decide)]
          simp [countI]
  · rw [bneT c0, if_neg c0]; rfl
theorem s_allWithin_1 : Fz15.S (tot fun x => !(decide (x.2.1 ≤ x.1) && decide (x.1 ≤ x.2.2))) := Fz15.of_tot s_within fun x k => by
  unfold Fz15.pf
  rw [tot_eq]; rfl
theorem s_indexAW : Fz38.S (cl (fun x => PL x.1) fun x => indexI (fun i => !(decide (x.2.1 ≤ i) && decide (i ≤ x.2.2))) x.1) := Fz38.of_cl s_allWithin_1 fun x h k => by
  obtain ⟨l, lo, hi'⟩ := x
  have hl : l.length ≤ 1073741824 := h
  show Fz38.pf _ BIG l lo hi' k = k (indexI (fun i => !(decide (lo ≤ i) && decide (i ≤ hi'))) l)
  unfold Fz38.pf
  rw [iter_first l (fun i => (i : Int)) (fun i => !(decide (lo ≤ i) && decide (i ≤ hi'))) (fun i _ => k (i : Int)) (k (-1)) (x := 0) rfl (big_lt (by omega)) ?_ ?_, firstOr_index]
  · unfold indexI
    congr 1
    cases l.findIdx? (fun i => !(decide (lo ≤ i) && decide (i ≤ hi'))) <;> simp
  · intro i hi rec
    unfold Fz38.B1
    simp only [decT (show (i : Int) < (l.length : Int) by omega), inB_nat hi, cond_true, Int.toNat_natCast, getD_lt hi, tot_eq, Option.bind_some, w64n (show i < 9223372036854775807 by omega)]
  · intro rec
    unfold Fz38.B1
    rw [decF (by omega)]
    rfl
theorem s_containsAW : Fz33.S (cl (fun x => PL x.1) fun x => x.1.any (fun i => !(decide (x.2.1 ≤ i) && decide (i ≤ x.2.2)))) := Fz33.of_cl s_indexAW fun x h k => by
  unfold Fz33.pf
  rw [cl_eq (P := fun x : List Int × Int × Int => PL x.1) h, Option.bind_some, indexI_nn]
theorem s_allWithin : Fz14.S (cl (fun x => PL x.1) fun x => x.1.all (fun i => decide (x.2.1 ≤ i) && decide (i ≤ x.2.2))) := Fz14.of_cl s_containsAW fun x h k => by
  unfold Fz14.pf
  rw [cl_eq (P := fun x : List Int × Int × Int => PL x.1) h, Option.bind_some, any_not, Bool.not_not]
def PAr (x : List DB × List DB × List Int × List Int) : Prop := Cr x.1 ∧ Cr x.2.1 ∧ x.2.2.1.length ≤ 12 ∧ (∀ i, i ∈ x.2.2.1 → ∃ n : Nat, i = (n : Int) ∧ n < 12) ∧ x.2.2.2.length = x.2.2.1.length
theorem s_areRings : Fz16.S (cl PAr fun x => x.2.2.2.all fun p => balP x.1 x.2.1 x.2.2.1 x.2.2.2 p) := Fz16.of_cl s_SortFuncB s_equalB fun x h k => by
  obtain ⟨a, b, ps, parts⟩ := x
  obtain ⟨ha, hb, hp, hm, hl⟩ := h
  have hp : ps.length ≤ 12 := hp
  have hm : ∀ i, i ∈ ps → ∃ n : Nat, i = (n : Int) ∧ n < 12 := hm
  have hl : parts.length = ps.length := hl
  show Fz16.pf _ _ BIG a b ps parts k = k (parts.all fun p => balP a b ps parts p)
  unfold Fz16.pf
  rw [iter_first parts (fun i => (i : Int)) (fun p => !balP a b ps parts p) (fun _ _ => k false) (k true) (x := 0) rfl (big_lt (by omega)) ?_ ?_, firstOr_const, any_not]
  · cases parts.all fun p => balP a b ps parts p <;> rfl
  · intro j hj rec
    unfold Fz16.B1
    simp only [decT (show (j : Int) < (parts.length : Int) by omega), inB_nat hj, cond_true, Int.toNat_natCast, getD_lt hj, w64n (show j < 9223372036854775807 by omega)]
    generalize parts[j] = p
    refine iter_list ps (fun i (o : List DB × List DB) => ((i : Int), o.1, o.2)) (fun q o => cond (!eqSort (o.1 ++ selK (fun i => decide (parts.getD i 0 = p)) a (ps.length - q.length) q) (o.2 ++ selK (fun i => decide (parts.getD i 0 = p)) b (ps.length - q.length) q)) (k false) (rec ((j + 1 : Nat) : Int))) (fun i o => o.1.length ≤ i ∧ o.1.length = o.2.length) (c := ([], [])) rfl (big_lt (by omega)) ⟨Nat.le_refl 0, rfl⟩ ?_ ?_ |>.trans (by rw [Nat.sub_self]; rfl)
    · rintro i hi ⟨x, y⟩ rec' ⟨h1, h2⟩ hrec
      obtain ⟨m, em, hm12⟩ := hm _ (List.getElem_mem hi)
      have h1 : x.length ≤ i := h1
      have h2 : x.length = y.length := h2
      have hip : i < parts.length := by omega
      have e1 : ps.length - (ps[i] :: ps.drop (i + 1)).length = i := by rw [List.length_cons, List.length_drop]; omega
      have e2 : ps.length - (ps.drop (i + 1)).length = i + 1 := by rw [List.length_drop]; omega
      unfold Fz16.B2
      rw [e1]
      rw [e2] at hrec
      simp only [decT (show (i : Int) < (ps.length : Int) by omega), inB_nat hi, inB_nat hip, cond_true, Int.toNat_natCast, getD_lt hi, em, inB_nat hm12, w64n (show i < 9223372036854775807 by omega), selK]
      by_cases c : parts.getD i 0 = p
      · rw [beqT c, decT c, okS (by simp; omega), okS (by simp; omega)]
        simp only [cond_true, if_true]
        refine (hrec (x ++ [a.getD m (0, 0)], y ++ [b.getD m (0, 0)]) ⟨by simp; omega, by simp; omega⟩).trans ?_
        simp only [List.append_assoc, List.singleton_append]
      · rw [beqF c, decF c]
        simp only [cond_false, Bool.false_eq_true, if_false]
        exact hrec (x, y) ⟨by omega, h2⟩
    · rintro ⟨x, y⟩ rec' ⟨h1, h2⟩
      have h1 : x.length ≤ ps.length := h1
      have h2 : x.length = y.length := h2
      have h3 := sortB_len x
      unfold Fz16.B2
      rw [decF (by simp only; omega)]
      simp only [cond_false, selK, List.append_nil]
      rw [cl_eq (show PFew12 x by unfold PFew12; omega), Option.bind_some, cl_eq (show PFew12 y by unfold PFew12; omega), Option.bind_some, cl_eq (show PL1 (sortB x, sortB y) by unfold PL1; simp only; omega), Option.bind_some]
      rfl
  · intro rec
    unfold Fz16.B1
    rw [decF (by omega)]
    rfl
theorem s_cloneI : Fz30.S (cl PL fun l => l) := Fz30.of_cl fun l h k => by
  have h : l.length ≤ 1073741824 := h
  unfold Fz30.pf
  simp only [List.nil_append, List.length_nil]
  rw [okS (by omega)]
  cases l with
  | nil => exact both_same _
  | cons x l => rfl
theorem s_ringCount : Fz20.S (cl PFew12 fun l => ((compact (sortI l)).length : Int)) := Fz20.of_cl s_cloneI s_SortFuncI s_compactI fun l h k => by
  have hl : l.length ≤ 12 := h
  have hs := sortI_len l
  unfold Fz20.pf
  rw [cl_eq (show PL l by unfold PL; omega), Option.bind_some, cl_eq h, Option.bind_some, cl_eq (show PL (sortI l) by unfold PL; omega), Option.bind_some, compV_len]
/-- What is left of what stands in order stands there once. -/
theorem cmpGo_nodup : ∀ (l : List Int) (p : Int), (p :: l).Pairwise leI → (∀ x, x ∈ cmpGo p l → x ≠ p ∧ leI p x) ∧ (cmpGo p l).Nodup
  | [], p, _ => ⟨fun x h => (by cases h), List.nodup_nil⟩
  | y :: l, p, h => by
    have h1 : leI p y := (List.pairwise_cons.1 h).1 y (List.mem_cons_self ..)
    have h2 := (List.pairwise_cons.1 h).2
    unfold cmpGo
    split
    · rename_i e
      exact cmpGo_nodup l p (e ▸ h2)
    · rename_i e
      obtain ⟨g1, g2⟩ := cmpGo_nodup l y h2
      refine ⟨fun x hx => ?_, List.nodup_cons.2 ⟨fun hy => (g1 y hy).1 rfl, g2⟩⟩
      rcases List.mem_cons.1 hx with rfl | hx
      · exact ⟨e, h1⟩
      · obtain ⟨_, q2⟩ := g1 x hx
        rw [leI_iff] at *
        refine ⟨fun e2 => e ?_, by omega⟩
        omega
theorem compact_nodup {l : List Int} (h : SortedI l) : (compact l).Nodup := by
  match l, h with
  | [], _ => exact List.nodup_nil
  | x :: l, h =>
    obtain ⟨g1, g2⟩ := cmpGo_nodup l x h
    exact List.nodup_cons.2 ⟨fun hx => (g1 x hx).1 rfl, g2⟩
theorem compact_mem {β : Type} [DecidableEq β] {l : List β} {x : β} : x ∈ compact l ↔ x ∈ l := by
  have key : ∀ (l : List β) (p x : β), x ∈ l → x = p ∨ x ∈ cmpGo p l := by
    intro l
    induction l with
    | nil => intro p x h; cases h
    | cons y l ih =>
      intro p x h
      unfold cmpGo
      split
      · rename_i e
        rcases List.mem_cons.1 h with rfl | h
        · exact .inl e
        · exact ih p x h
      · rcases List.mem_cons.1 h with rfl | h
        · exact .inr (List.mem_cons_self ..)
        · rcases ih y x h with rfl | h
          · exact .inr (List.mem_cons_self ..)
          · exact .inr (List.mem_cons_of_mem _ h)
  refine ⟨compact_sub l x, fun h => ?_⟩
  match l, h with
  | y :: l, h =>
    rcases List.mem_cons.1 h with rfl | h
    · exact List.mem_cons_self ..
    · rcases key l y x h with rfl | h
      · exact List.mem_cons_self ..
      · exact List.mem_cons_of_mem _ h
theorem countI_filter {β : Type} (p : β → Bool) : ∀ l : List β, countI p l = ((l.filter p).length : Int)
  | [] => rfl
  | x :: l => by
    rw [countI, countI_filter p l, List.filter_cons]
    cases p x <;> simp <;> omega
theorem rings_count {parts : List Int} (h : parts.all inP = true) : ((compact (sortI parts)).length : Int) = countI (fun p => decide (p ∈ parts)) eightI := by
  rw [countI_filter]
  have hnd : (eightI.filter fun p => decide (p ∈ parts)).Nodup := List.Pairwise.filter _ (by decide)
  have hp : (compact (sortI parts)).Perm (eightI.filter fun p => decide (p ∈ parts)) := (List.perm_ext_iff_of_nodup (compact_nodup (sortI_sorted parts)) hnd).2 fun x => by
    rw [compact_mem, (sortI_perm parts).mem_iff, List.mem_filter, eight_mem, decide_eq_true_iff]
    exact ⟨fun hx => ⟨List.all_eq_true.1 h x hx, hx⟩, fun hx => hx.2⟩
  rw [hp.length_eq]
theorem rings_all {a b : List DB} {ps parts : List Int} (hl : parts.length = ps.length) (h : parts.all inP = true) : (parts.all fun p => balP a b ps parts p) = eightI.all fun p => balP a b ps parts p := by
  rw [Bool.eq_iff_iff, List.all_eq_true, List.all_eq_true]
  constructor
  · intro h1 p hp
    by_cases m : p ∈ parts
    · exact h1 p m
    · have e : ∀ c : List DB, selK (fun i => decide (parts.getD i 0 = p)) c 0 ps = [] := fun c => selK_none _ _ _ _ fun i _ hi => by
        have hi : i < parts.length := by omega
        rw [getD_lt hi]
        exact decF fun e => m (e ▸ List.getElem_mem hi)
      unfold balP bal
      rw [e a, e b]
      rfl
  · intro h1 p hp
    exact h1 p (eight_mem.2 (List.all_eq_true.1 h p hp))
theorem s_impl_RingsOf : Fz10.S (cl PRi fun x => ringsOf x.1 x.2.1 x.2.2) := Fz10.of_cl s_differCode s_differ s_allWithin s_areRings s_ringCount fun x h k => by
  obtain ⟨a, b, parts⟩ := x
  obtain ⟨hw, hl⟩ := h
  have hl : parts.length ≤ 1073741824 := hl
  have hc : Cr2 (a, b) := hw.cr
  have ha : Cr a := hw.1.1
  have hb : Cr b := hw.2.1
  show Fz10.pf _ _ _ _ _ BIG a b parts k = k (ringsOf a b parts)
  unfold Fz10.pf ringsOf
  rw [cl_eq hw, Option.bind_some]
  by_cases c0 : askC a b = 0
  · rw [bneF c0, if_pos c0, cond_false, cl_eq hc, Option.bind_some]
    obtain ⟨d1, d2⟩ := differL_ok ha hb
    have d3 := askC_0 c0
    simp only at d1 d2 d3 ⊢
    generalize differL a b = ps at *
    by_cases c1 : parts.length = ps.length
    · rw [bneF (by omega), cond_false, decT c1, Bool.true_and, cl_eq (P := fun x : List Int × Int × Int => PL x.1) (x := (parts, 0, 7)) hl, Option.bind_some]
      show cond (!parts.all inP) _ _ = _
      cases c2 : parts.all inP with
      | false => rfl
      | true =>
        simp only [Bool.not_true, cond_false, if_true]
        rw [cl_eq (show PAr (a, b, ps, parts) from ⟨ha, hb, d1, d2, c1⟩), Option.bind_some]
        simp only
        rw [rings_all c1 c2]
        cases c3 : eightI.all fun p => balP a b ps parts p with
        | false => rfl
        | true =>
          simp only [Bool.not_true, cond_false, if_true]
          rw [cl_eq (show PFew12 parts by unfold PFew12; omega), Option.bind_some, rings_count c2]
    · rw [bneT (by omega), decF c1]; rfl
  · rw [bneT c0, if_neg c0]; rfl
theorem s_toInt64S : Fz26.S (cl PL fun l => l) := Fz26.of_cl fun l h k => by
  have h : l.length ≤ 1073741824 := h
  unfold Fz26.pf
  rw [inW_true (by omega) (by omega) (by unfold LIM; omega)]
  simp only [cond_true]
  refine (iter_list (B := Fz26.B1 l fun x1 => k x1.2) l (fun i (c : List Int) => ((i : Int), c)) (fun _ _ => k l) (fun i c => c.length = l.length ∧ c.take i = l.take i) (c := List.replicate l.length 0) (by simp) (big_lt (by omega)) (by simp) ?_ ?_)
  · rintro i hi c rec ⟨h1, h2⟩ hrec
    unfold Fz26.B1
    simp only [decT (show (i : Int) < (l.length : Int) by omega), inB_nat hi, inB_nat (h1 ▸ hi : i < c.length), cond_true, Int.toNat_natCast, getD_lt hi, w64n (show i < 9223372036854775807 by omega)]
    have := copied (d := (0 : Int)) hi h1 h2
    exact hrec _ ⟨this.2, this.1⟩
  · rintro c rec ⟨h1, h2⟩
    unfold Fz26.B1
    rw [decF (by omega)]
    rw [List.take_of_length_le (by omega), List.take_of_length_le (Nat.le_refl _)] at h2
    simp only [cond_false, h2]
def gI (l : List Int) : Prop := l.length ≤ maxLen
theorem good_Is {e : TypeId} {l : List Int} (h : goodV (.row e (.int .i64)) l) : gI l := h.1
theorem s_law_RingsOf : laws_FnExactRingsOf.S (cl (fun x => wC x.1 ∧ wC x.2.1 ∧ gI x.2.2) fun _ => true) := laws_FnExactRingsOf.of_cl s_toCrate s_toInt64S s_spec_RingsOf s_impl_RingsOf s_eqInt64S fun x ⟨ha, hb, hp⟩ k => by
  obtain ⟨a, b, parts⟩ := x
  have ha : wC a := ha
  have hb : wC b := hb
  show laws_FnExactRingsOf.pf _ _ _ _ _ BIG a b parts k = k true
  unfold laws_FnExactRingsOf.pf
  by_cases c : (parts.length : Int) > 1048576
  · rw [decT c]; rfl
  · have hl : PL parts := by show parts.length ≤ 1073741824; omega
    rw [decF c, cond_false]
    simp only [cl_eq (show Cr a from ha.1), cl_eq (show Cr b from hb.1), cl_eq hl, Option.bind_some, cl_eq (show PRi (a, b, parts) from ⟨⟨ha, hb⟩, hl⟩), cl_eq (show PL1 (parts, parts) from hl), decide_true, Bool.not_true, cond_false, bneS]
end Go.Proofs.Ytjajlmaldeoobaa.G
