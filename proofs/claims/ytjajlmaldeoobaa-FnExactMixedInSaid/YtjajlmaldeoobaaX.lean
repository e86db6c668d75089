/- Plain proofs: what the functions answer, in plain lists and numbers. -/
import Derived.Test.YtjajlmaldeoobaaRd0
import Derived.Test.YtjajlmaldeoobaaRd1
import Derived.Test.YtjajlmaldeoobaaRd2
namespace Go.Proofs.Ytjajlmaldeoobaa.G
open Go
set_option linter.unusedVariables false
set_option linter.unusedSimpArgs false
set_option maxRecDepth 10000
abbrev DB := Int × Int
abbrev DS := DB × Int
theorem s_toBottle : Fz22.S (tot fun x => x) := Fz22.of_tot fun x k => rfl
/-- A copy, element by element. -/
theorem copied {β : Type} {l o : List β} {k : Nat} {d : β} (h : k < l.length) (ho : o.length = l.length) (hp : o.take k = l.take k) : (o.set k l[k]).take (k + 1) = l.take (k + 1) ∧ (o.set k l[k]).length = l.length := by
  refine ⟨?_, by simpa using ho⟩
  rw [List.take_succ_eq_append_getElem (by simpa [ho] using h), List.take_succ_eq_append_getElem h, List.take_set_of_le (Nat.le_refl k), hp]
  simp
theorem eqB (a b : DB) : eqV (.st (.pair (.int .u8) (.int .i16))) a b = decide (a = b) := by
  obtain ⟨a1, a2⟩ := a
  obtain ⟨b1, b2⟩ := b
  simp only [eqV]
  rw [Bool.eq_iff_iff]
  simp
theorem s_eqBottle : Fz18.S (tot fun x => decide (x.1 = x.2)) := Fz18.of_tot fun x k => by
  obtain ⟨⟨a1, a2⟩, b1, b2⟩ := x
  unfold Fz18.pf
  by_cases h1 : a1 = b1
  · by_cases h2 : a2 = b2
    · simp [h1, h2]
    · simp [h1, h2, bneT h2]
  · simp [h1, bneT h1]
/-- Lists of one length are alike where no pair of elements differs. -/
theorem any_eq {β : Type} [DecidableEq β] : ∀ (a b : List β), a.length = b.length → (a.zip b).any (fun p => !decide (p.1 = p.2)) = !decide (a = b)
  | [], [], _ => by simp
  | [], _ :: _, h => by simp at h
  | _ :: _, [], h => by simp at h
  | x :: a, y :: b, h => by
    rw [List.zip_cons_cons, List.any_cons, any_eq a b (by simpa using h)]
    by_cases c : x = y <;> by_cases c2 : a = b <;> simp [c, c2]
theorem zip_at {β γ : Type} {a : List β} {b : List γ} {k : Nat} (h : k < (a.zip b).length) : (a.zip b)[k] = (a[k]'(by simp at h; omega), b[k]'(by simp at h; omega)) := by simp
theorem take_set {β : Type} {l : List β} {k : Nat} {x : β} (h : k < l.length) : (l.set k x).take (k + 1) = l.take k ++ [x] := by
  rw [List.take_succ_eq_append_getElem (by simpa using h), List.take_set_of_le (Nat.le_refl k)]
  simp
def validB (b : DB) : Bool := decide (1 ≤ b.1) && decide (b.1 ≤ 20) && (decide (1900 ≤ b.2) && decide (b.2 ≤ 2099))
/-- Whole numbers of their kinds. -/
def wB (b : DB) : Prop := 0 ≤ b.1 ∧ b.1 ≤ 255 ∧ -32768 ≤ b.2 ∧ b.2 ≤ 32767
def wS (s : DS) : Prop := wB s.1 ∧ -32768 ≤ s.2 ∧ s.2 ≤ 32767
def wL (l : List DS) : Prop := PL l ∧ ∀ s, s ∈ l → wS s
def wR (r : List (List DS)) : Prop := Bd r ∧ ∀ l, l ∈ r → ∀ s, s ∈ l → wS s
theorem wR.at {r : List (List DS)} (h : wR r) {k : Nat} (hk : k < r.length) : wL r[k] := ⟨h.1.pl hk, h.2 _ (List.getElem_mem hk)⟩
theorem wL.at {l : List DS} (h : wL l) {k : Nat} (hk : k < l.length) : wS l[k] := h.2 _ (List.getElem_mem hk)
theorem s_l00In : spec_l00In.S (tot fun x => decide (x.2.1 ≤ x.1) && decide (x.1 ≤ x.2.2)) := spec_l00In.of_tot fun x k => by
  unfold spec_l00In.pf
  by_cases c : x.2.1 ≤ x.1
  · rw [decT (show x.1 ≥ x.2.1 from c)]; rfl
  · rw [decF (show ¬ x.1 ≥ x.2.1 from c)]; rfl
theorem s_within : Fz16.S (tot fun x => decide (x.2.1 ≤ x.1) && decide (x.1 ≤ x.2.2)) := Fz16.of_tot fun x k => by
  unfold Fz16.pf
  by_cases c : x.2.1 ≤ x.1
  · rw [decT c]; rfl
  · rw [decF c]; rfl
theorem s_l01Bottle : Fz41.S (cl wB validB) := Fz41.of_cl s_l00In fun x ⟨h1, h2, h3, h4⟩ k => by
  unfold Fz41.pf validB
  simp only [tot_eq, Option.bind_some, w64 (n := x.1) (by omega) (by omega), w64 (n := x.2) (by omega) (by omega)]
  cases decide (1 ≤ x.1) && decide (x.1 ≤ 20) <;> rfl
theorem s_ValidBottle : Fz10.S (cl wB validB) := Fz10.of_cl s_within fun x ⟨h1, h2, h3, h4⟩ k => by
  unfold Fz10.pf validB
  simp only [tot_eq, Option.bind_some, w64 (n := x.1) (by omega) (by omega), w64 (n := x.2) (by omega) (by omega)]
  cases decide (1 ≤ x.1) && decide (x.1 ≤ 20) <;> rfl
theorem any_not {β : Type} (l : List β) (p : β → Bool) : (l.any fun x => !p x) = !l.all p := by
  induction l with
  | nil => rfl
  | cons x l ih => rw [List.any_cons, List.all_cons, ih, Bool.not_and]
/-- Where the first one is. -/
def indexI {β : Type} (p : β → Bool) (l : List β) : Int := match l.findIdx? p with
  | some i => i
  | none => -1
theorem firstOr_index {α β : Type} (p : β → Bool) (k : Int → Option α) : ∀ (l : List β) (j : Nat), firstOr p (fun i _ => k (i : Int)) (k (-1)) j l = k (match l.findIdx? p with | some i => ((j + i : Nat) : Int) | none => -1)
  | [], _ => rfl
  | x :: l, j => by
    rw [firstOr, List.findIdx?_cons]
    cases p x with
    | true => simp
    | false =>
      rw [cond_false, firstOr_index p k l]
      cases l.findIdx? p with
      | none => rfl
      | some i => simp [Nat.add_assoc, Nat.add_comm 1 i]
theorem indexI_nn {β : Type} (p : β → Bool) (l : List β) : decide (indexI p l ≥ 0) = l.any p := by
  unfold indexI
  cases h : l.findIdx? p with
  | none =>
    have := List.findIdx?_eq_none_iff.1 h
    simp only
    rw [decF (by omega)]
    symm
    rw [List.any_eq_false]
    intro x hx
    simpa using this x hx
  | some i =>
    simp only
    rw [decT (by omega)]
    symm
    obtain ⟨hi, hp, _⟩ := List.findIdx?_eq_some_iff_getElem.1 h
    exact List.any_eq_true.2 ⟨_, List.getElem_mem hi, hp⟩
theorem good_B {b : DB} (h : goodV (.st (.pair (.int .u8) (.int .i16))) b) : wB b := by
  obtain ⟨h1, h2⟩ := h
  simp only [goodV, Lit.wf, IntKind.min, IntKind.max, IntKind.bits, IntKind.signed] at h1 h2
  simp at h1 h2
  unfold wB
  omega
theorem bneS (a : Int) : (a != a) = false := by simp
theorem okS {n : Nat} (h : n ≤ 4294967296) : okL n = true := okL_true h
/-- Few lanes, each of them short. -/
def Few (o : List (List DS)) : Prop := o.length ≤ 8 ∧ ∀ x, x ∈ o → x.length ≤ 6
theorem Few.at {o : List (List DS)} (h : Few o) {n : Nat} (hn : n < o.length) : o[n].length ≤ 6 := h.2 _ (List.getElem_mem hn)
theorem Few.set {o : List (List DS)} (h : Few o) {n : Nat} {x : List DS} (hx : x.length ≤ 6) : Few (o.set n x) := ⟨by rw [List.length_set]; exact h.1, fun y hy => by
  rcases List.mem_or_eq_of_mem_set hy with q | rfl
  · exact h.2 y q
  · exact hx⟩
/-- What is left of some when those are gone that a test tells, and what lies behind it. -/
def keptOf {β : Type} (d : β) (p : β → Bool) (l : List β) : Option (Nat × Nat) × List β :=
  if l.any p = true then (some (0, (l.filter fun x => !p x).length), (l.filter fun x => !p x) ++ List.replicate (l.length - (l.filter fun x => !p x).length) d) else (none, l)
theorem kept_cut {β : Type} (d : β) (p : β → Bool) (l : List β) : Win.cut (keptOf d p l).1 (keptOf d p l).2 = l.filter fun x => !p x := by
  unfold keptOf
  by_cases c : l.any p = true
  · rw [if_pos c]
    simp [Win.cut]
  · rw [if_neg c]
    symm
    show l.filter _ = l
    rw [List.filter_eq_self]
    intro x hx
    simp only [List.any_eq_true, not_exists, not_and, Bool.not_eq_true] at c
    simp [c x hx]
def wBs (l : List DB) : Prop := l.length ≤ 1073741824 ∧ ∀ b, b ∈ l → wB b
/-- All that lies in a rack. -/
def AllIn (Q : DS → Prop) (o : List (List DS)) : Prop := ∀ l, l ∈ o → ∀ s, s ∈ l → Q s
theorem AllIn.set {Q : DS → Prop} {o : List (List DS)} (h : AllIn Q o) {n : Nat} {x : List DS} (hx : ∀ s, s ∈ x → Q s) : AllIn Q (o.set n x) := fun l hl s hs => by
  rcases List.mem_or_eq_of_mem_set hl with q | rfl
  · exact h l q s hs
  · exact hx s hs
theorem AllIn.at {Q : DS → Prop} {o : List (List DS)} (h : AllIn Q o) {n : Nat} (hn : n < o.length) : ∀ s, s ∈ o.getD n [] → Q s := fun s hs => by
  rw [getD_lt hn] at hs
  exact h _ (List.getElem_mem hn) s hs
/-- A crate: twelve places. -/
def Cr (c : List DB) : Prop := c.length = 12
def CrS (s : List (List DB)) : Prop := s.length ≤ 1073741824 ∧ ∀ c, c ∈ s → c.length = 12
theorem CrS.at {s : List (List DB)} (h : CrS s) {i : Nat} (hi : i < s.length) : Cr s[i] := h.2 _ (List.getElem_mem hi)
theorem s_toCrate : Fz23.S (cl Cr fun c => c) := Fz23.of_cl s_toBottle fun l h k => by
  have h : l.length = 12 := h
  unfold Fz23.pf
  refine (iter_list (B := Fz23.B1 (tot fun x => x) l (List.replicate 12 (0, 0)) fun x1 => k x1.2) l (fun i (c : List DB) => ((i : Int), c)) (fun _ _ => k l) (fun i c => c.length = l.length ∧ c.take i = l.take i) (c := List.replicate 12 (0, 0)) (by simp) (big_lt (by omega)) (by simp [h]) ?_ ?_)
  · rintro i hi c rec ⟨h1, h2⟩ hrec
    unfold Fz23.B1
    simp only [decT (show (i : Int) < 12 by omega), inB_nat (show i < 12 by omega), cond_true, Int.toNat_natCast, getD_lt hi, tot_eq, Option.bind_some, w64n (show i < 9223372036854775807 by omega)]
    have := copied (d := ((0, 0) : DB)) hi h1 h2
    exact hrec _ ⟨this.2, this.1⟩
  · rintro c rec ⟨h1, h2⟩
    unfold Fz23.B1
    rw [decF (by simp only; omega)]
    rw [List.take_of_length_le (by omega), List.take_of_length_le (Nat.le_refl _)] at h2
    simp only [cond_false, h2]
theorem s_toCrateS : Fz24.S (cl CrS fun s => s) := Fz24.of_cl s_toCrate fun l h k => by
  have hl : l.length ≤ 1073741824 := h.1
  unfold Fz24.pf
  rw [inW_true (by omega) (by omega) (by unfold LIM; omega)]
  simp only [cond_true]
  refine (iter_list (B := Fz24.B1 (cl Cr fun c => c) l fun x1 => k x1.2) l (fun i (c : List (List DB)) => ((i : Int), c)) (fun _ _ => k l) (fun i c => c.length = l.length ∧ c.take i = l.take i) (c := List.replicate l.length (List.replicate 12 (0, 0))) (by simp) (big_lt (by omega)) (by simp) ?_ ?_)
  · rintro i hi c rec ⟨h1, h2⟩ hrec
    unfold Fz24.B1
    simp only [decT (show (i : Int) < (l.length : Int) by omega), inB_nat hi, inB_nat (h1 ▸ hi : i < c.length), cond_true, Int.toNat_natCast, getD_lt hi, cl_eq (h.at hi), Option.bind_some, w64n (show i < 9223372036854775807 by omega)]
    have := copied (d := (List.replicate 12 (0, 0) : List DB)) hi h1 h2
    exact hrec _ ⟨this.2, this.1⟩
  · rintro c rec ⟨h1, h2⟩
    unfold Fz24.B1
    rw [decF (by simp only; omega)]
    rw [List.take_of_length_le (by omega), List.take_of_length_le (Nat.le_refl _)] at h2
    simp only [cond_false, h2]
def PszC (x : List (List DB) × Int) : Prop := x.1.length ≤ maxLen ∧ 0 ≤ x.2 ∧ x.2 ≤ 1048576
def vszC (x : List (List DB) × Int) : Int := if x.2 < x.1.length then -1 else x.2 - x.1.length
theorem s_szCrateS : Fz21.S (cl PszC vszC) :=
  Fz21.of_cl fun x ⟨h1, h2, h3⟩ k => by
    unfold maxLen at h1
    unfold Fz21.pf vszC
    rw [w64 (by omega) (by omega)]
    by_cases c : x.2 < x.1.length
    · rw [decT (by omega), if_pos c]; rfl
    · rw [decF (by omega), if_neg c]; rfl
def Cr2 (x : List DB × List DB) : Prop := Cr x.1 ∧ Cr x.2
theorem s_eqCrate : Fz19.S (cl Cr2 fun x => decide (x.1 = x.2)) := Fz19.of_cl s_eqBottle fun x h k => by
  obtain ⟨a, b⟩ := x
  obtain ⟨ha, hb⟩ := h
  have ha : a.length = 12 := ha
  have hb : b.length = 12 := hb
  show Fz19.pf _ BIG a b k = k (decide (a = b))
  unfold Fz19.pf
  have hz : (a.zip b).length = 12 := by simp [ha, hb]
  rw [iter_first (a.zip b) (fun i => (i : Int)) (fun p => !decide (p.1 = p.2)) (fun _ _ => k false) (k true) (x := 0) rfl (big_lt (by omega)) ?_ ?_, firstOr_const, any_eq a b (by omega)]
  · by_cases e : a = b <;> simp [e]
  · intro i hi rec
    have h1 : i < a.length := by omega
    have h2 : i < b.length := by omega
    unfold Fz19.B1
    rw [zip_at hi]
    simp only [decT (show (i : Int) < 12 by omega), inB_nat (show i < 12 by omega), cond_true, Int.toNat_natCast, getD_lt h1, getD_lt h2, tot_eq, Option.bind_some, w64n (show i < 9223372036854775807 by omega)]
  · intro rec
    unfold Fz19.B1
    rw [hz, decF (by omega)]
    rfl
def CrS2 (x : List (List DB) × List (List DB)) : Prop := CrS x.1 ∧ CrS x.2
theorem s_eqCrateS : Fz20.S (cl CrS2 fun x => decide (x.1 = x.2)) := Fz20.of_cl s_eqCrate fun x h k => by
  obtain ⟨a, b⟩ := x
  obtain ⟨ha, hb⟩ := h
  simp only at ha hb
  have hl := ha.1
  show Fz20.pf _ BIG a b k = k (decide (a = b))
  unfold Fz20.pf
  by_cases c : a.length = b.length
  · rw [show (((a.length : Nat) : Int) != ((b.length : Nat) : Int)) = false by simp [c], cond_false]
    have hz : (a.zip b).length = a.length := by simp [c]
    rw [iter_first (a.zip b) (fun i => (i : Int)) (fun p => !decide (p.1 = p.2)) (fun _ _ => k false) (k true) (x := 0) rfl (big_lt (by omega)) ?_ ?_, firstOr_const, any_eq a b c]
    · by_cases e : a = b <;> simp [e]
    · intro i hi rec
      have h1 : i < a.length := by omega
      have h2 : i < b.length := by omega
      unfold Fz20.B1
      rw [zip_at hi]
      simp only [decT (show (i : Int) < (a.length : Int) by omega), inB_nat h1, inB_nat h2, cond_true, Int.toNat_natCast, getD_lt h1, getD_lt h2, cl_eq (show Cr2 (a[i], b[i]) from ⟨ha.at h1, hb.at h2⟩), Option.bind_some, w64n (show i < 9223372036854775807 by omega)]
    · intro rec
      unfold Fz20.B1
      rw [decF (by omega)]
      rfl
  · rw [show (((a.length : Nat) : Int) != ((b.length : Nat) : Int)) = true by simpa using fun q => c (by omega), cond_true]
    rw [decF (fun e => c (by rw [e]))]
theorem s_cloneB : Fz27.S (cl PL fun l => l) := Fz27.of_cl fun l h k => by
  have h : l.length ≤ 1073741824 := h
  unfold Fz27.pf
  simp only [List.nil_append, List.length_nil]
  rw [okS (by omega)]
  cases l with
  | nil => exact both_same _
  | cons x l => rfl

theorem s_l01Free : Fz42.S (tot fun b => decide (b = (0, 0))) := Fz42.of_tot fun b k => by
  unfold Fz42.pf
  rw [eqB]
def okB (b : DB) : Bool := decide (b = (0, 0)) || validB b
def crateOk (c : List DB) : Bool := c.all okB
def stackOk (s : List (List DB)) : Bool := decide (s.length ≤ 12) && s.all crateOk
def wC (c : List DB) : Prop := c.length = 12 ∧ ∀ b, b ∈ c → wB b
def wCs (s : List (List DB)) : Prop := CrS s ∧ ∀ c, c ∈ s → ∀ b, b ∈ c → wB b
theorem wCs.at {s : List (List DB)} (h : wCs s) {i : Nat} (hi : i < s.length) : wC s[i] := ⟨h.1.at hi, h.2 _ (List.getElem_mem hi)⟩
theorem s_l01Ok : spec_l01Ok.S (cl wC crateOk) := spec_l01Ok.of_cl s_l01Free s_l01Bottle fun c h k => by
  obtain ⟨hl, hw⟩ := h
  unfold spec_l01Ok.pf
  rw [iter_first c (fun i => (i : Int)) (fun b => !okB b) (fun _ _ => k false) (k true) (x := 0) rfl (big_lt (by omega)) ?_ ?_, firstOr_const, any_not]
  · unfold crateOk
    cases c.all okB <;> rfl
  · intro i hi rec
    unfold spec_l01Ok.B1
    simp only [decT (show (i : Int) < 12 by omega), inB_nat (show i < 12 by omega), cond_true, Int.toNat_natCast, getD_lt hi, tot_eq, cl_eq (hw _ (List.getElem_mem hi)), Option.bind_some, w64n (show i < 9223372036854775807 by omega), okB]
    cases decide (c[i] = (0, 0)) <;> cases validB c[i] <;> rfl
  · intro rec
    unfold spec_l01Ok.B1
    rw [decF (by omega)]
    rfl
theorem s_l01Stack : Fz45.S (cl wCs stackOk) := Fz45.of_cl s_l01Ok fun s h k => by
  have hl := h.1.1
  unfold Fz45.pf
  rw [iter_first s (fun i => (i : Int)) (fun c => !crateOk c) (fun _ _ => k false) (k (decide ((s.length : Int) ≤ 12))) (x := 0) rfl (big_lt (by omega)) ?_ ?_, firstOr_const, any_not]
  · unfold stackOk
    cases s.all crateOk with
    | false => simp
    | true =>
      rw [Bool.and_true]
      show k _ = k _
      congr 1
      exact decide_eq_decide.2 (by omega)
  · intro i hi rec
    unfold Fz45.B1
    simp only [decT (show (i : Int) < (s.length : Int) by omega), inB_nat hi, cond_true, Int.toNat_natCast, getD_lt hi, cl_eq (h.at hi), Option.bind_some, w64n (show i < 9223372036854775807 by omega)]
  · intro rec
    unfold Fz45.B1
    rw [decF (by omega)]
    rfl
/-- How many are told by a test. -/
def countI {β : Type} (p : β → Bool) : List β → Int
  | [] => 0
  | x :: l => cond (p x) 1 0 + countI p l
theorem s_ValidCrate_1 : Fz12.S (cl wB fun s => !okB s) := Fz12.of_cl s_ValidBottle fun x h k => by
  unfold Fz12.pf okB
  rw [eqB]
  by_cases c : x = (0, 0)
  · rw [decT c]; rfl
  · rw [decF c, cl_eq h]; rfl
theorem s_index_vc : Fz33.S (cl wBs fun l => indexI (fun s => !okB s) l) := Fz33.of_cl s_ValidCrate_1 fun x h k => by
  have hl : x.length ≤ 1073741824 := h.1
  unfold Fz33.pf
  rw [iter_first x (fun i => (i : Int)) (fun s => !okB s) (fun i _ => k (i : Int)) (k (-1)) (x := 0) rfl (big_lt (by omega)) ?_ ?_, firstOr_index]
  · unfold indexI
    congr 1
    cases x.findIdx? (fun s => !okB s) <;> simp
  · intro i hi rec
    unfold Fz33.B1
    simp only [decT (show (i : Int) < (x.length : Int) by omega), inB_nat hi, cond_true, Int.toNat_natCast, getD_lt hi, cl_eq (h.2 _ (List.getElem_mem hi)), Option.bind_some, w64n (show i < 9223372036854775807 by omega)]
  · intro rec
    unfold Fz33.B1
    rw [decF (by omega)]
    rfl
theorem s_contains_vc : Fz29.S (cl wBs fun l => l.any (fun s => !okB s)) := Fz29.of_cl s_index_vc fun x h k => by
  unfold Fz29.pf
  rw [cl_eq h, Option.bind_some, indexI_nn]
theorem wC.bs {c : List DB} (h : wC c) : wBs c := ⟨by have := h.1; omega, h.2⟩
theorem s_ValidCrate : Fz11.S (cl wC crateOk) := Fz11.of_cl s_contains_vc fun x h k => by
  unfold Fz11.pf crateOk
  rw [cl_eq h.bs, Option.bind_some, any_not, Bool.not_not]
theorem s_ValidStack_1 : Fz14.S (cl wC fun c => !crateOk c) := Fz14.of_cl s_ValidCrate fun x h k => by
  unfold Fz14.pf
  rw [cl_eq h]; rfl
theorem s_index_vs : Fz34.S (cl wCs fun l => indexI (fun c => !crateOk c) l) := Fz34.of_cl s_ValidStack_1 fun x h k => by
  have hl : x.length ≤ 1073741824 := h.1.1
  unfold Fz34.pf
  rw [iter_first x (fun i => (i : Int)) (fun c => !crateOk c) (fun i _ => k (i : Int)) (k (-1)) (x := 0) rfl (big_lt (by omega)) ?_ ?_, firstOr_index]
  · unfold indexI
    congr 1
    cases x.findIdx? (fun c => !crateOk c) <;> simp
  · intro i hi rec
    unfold Fz34.B1
    simp only [decT (show (i : Int) < (x.length : Int) by omega), inB_nat hi, cond_true, Int.toNat_natCast, getD_lt hi, cl_eq (h.at hi), Option.bind_some, w64n (show i < 9223372036854775807 by omega)]
  · intro rec
    unfold Fz34.B1
    rw [decF (by omega)]
    rfl
theorem s_contains_vs : Fz30.S (cl wCs fun l => l.any (fun c => !crateOk c)) := Fz30.of_cl s_index_vs fun x h k => by
  unfold Fz30.pf
  rw [cl_eq h, Option.bind_some, indexI_nn]
theorem s_ValidStack : Fz13.S (cl wCs stackOk) := Fz13.of_cl s_contains_vs fun x h k => by
  unfold Fz13.pf stackOk
  by_cases c : x.length ≤ 12
  · rw [decT (show ((x.length : Int) ≤ 12) by omega), decT c, cond_true, cl_eq h, Option.bind_some, any_not, Bool.not_not, Bool.true_and]
  · rw [decF (show ¬ ((x.length : Int) ≤ 12) by omega), decF c]; rfl
theorem s_bottles_1 : Fz6.S (tot fun b => decide (b = (0, 0))) := Fz6.of_tot fun x k => by
  unfold Fz6.pf
  rw [eqB]
theorem s_index_cb : Fz32.S (cl PL fun l => indexI (fun b => decide (b = (0, 0))) l) := Fz32.of_cl s_bottles_1 fun x h k => by
  have hl : x.length ≤ 1073741824 := h
  unfold Fz32.pf
  rw [iter_first x (fun i => (i : Int)) (fun b => decide (b = (0, 0))) (fun i _ => k (i : Int)) (k (-1)) (x := 0) rfl (big_lt (by omega)) ?_ ?_, firstOr_index]
  · unfold indexI
    congr 1
    cases x.findIdx? (fun b => decide (b = (0, 0))) <;> simp
  · intro i hi rec
    unfold Fz32.B1
    simp only [decT (show (i : Int) < (x.length : Int) by omega), inB_nat hi, cond_true, Int.toNat_natCast, getD_lt hi, tot_eq, Option.bind_some, w64n (show i < 9223372036854775807 by omega)]
  · intro rec
    unfold Fz32.B1
    rw [decF (by omega)]
    rfl
theorem s_delete_cb : Fz31.S (cl PL fun l => keptOf (0, 0) (fun b => decide (b = (0, 0))) l) := Fz31.of_cl s_index_cb s_bottles_1 fun l h k => by
  have hl : l.length ≤ 1073741824 := h
  show Fz31.pf _ _ BIG l k = k (keptOf (0, 0) (fun b => decide (b = (0, 0))) l)
  unfold Fz31.pf
  rw [cl_eq h, Option.bind_some]
  generalize hp : (fun b : DB => decide (b = (0, 0))) = p
  unfold indexI keptOf
  cases hf : l.findIdx? p with
  | none =>
    have := List.findIdx?_eq_none_iff.1 hf
    rw [if_neg (by simpa using this)]
    rfl
  | some i =>
    obtain ⟨hi, hpi, hbef⟩ := List.findIdx?_eq_some_iff_getElem.1 hf
    rw [if_pos (List.any_eq_true.2 ⟨_, List.getElem_mem hi, hpi⟩)]
    simp only
    rw [beqF (by omega), cond_false, w64n (by omega)]
    have h0 : (l.take i).filter (fun x => !p x) = l.take i := by
      rw [List.filter_eq_self]
      intro x hx
      obtain ⟨j, hj, rfl⟩ := List.mem_iff_getElem.1 hx
      have hj' : j < i := by simp at hj; omega
      have := hbef j hj'
      simpa using this
    have h1 : (l.take (i + 1)).filter (fun x => !p x) = l.take i := by
      rw [List.take_succ_eq_append_getElem hi, List.filter_append, h0]
      simp [hpi]
    have := iter_fold (B := Fz31.B1 (tot p) fun (x1 : Int × Int × List DB) => cond (inW x1.1 (((List.length x1.2.2) : Nat) : Int) (List.length x1.2.2)) (cond (inW 0 x1.1 (List.length (overL x1.2.2 x1.1.toNat (List.replicate ((((List.length x1.2.2) : Nat) : Int) - x1.1).toNat (0, 0))))) (k ((some (0, (x1.1 - 0).toNat)), (overL x1.2.2 x1.1.toNat (List.replicate ((((List.length x1.2.2) : Nat) : Int) - x1.1).toNat (0, 0))))) none) none)
      l (fun j (c : List DB) => ((((l.take j).filter fun x => !p x).length : Int), (j : Int), c)) (fun _ _ => k (some (0, (l.filter fun x => !p x).length), (l.filter fun x => !p x) ++ List.replicate (l.length - (l.filter fun x => !p x).length) (0, 0))) (fun j c => c.length = l.length ∧ c.drop j = l.drop j ∧ c.take ((l.take j).filter fun x => !p x).length = (l.take j).filter fun x => !p x) ?_ ?_ (l.length - (i + 1)) (i + 1) l BIG (by omega) (big_lt (by omega)) ⟨rfl, rfl, by rw [h1]; simp⟩
    · rw [h1, List.length_take, Nat.min_eq_left (by omega)] at this
      exact this
    · rintro j hj c rec ⟨e1, e2, e3⟩ hrec
      have hjc : j < c.length := by omega
      have hcj : c[j] = l[j] := by
        have := congrArg (fun z => z[0]?) e2
        simpa [hjc, hj] using this
      have hm : ((l.take j).filter fun x => !p x).length ≤ j := by
        have := List.length_filter_le (fun x => !p x) (l.take j)
        rw [List.length_take] at this
        omega
      have ht : (l.take (j + 1)).filter (fun x => !p x) = (l.take j).filter (fun x => !p x) ++ if p l[j] = true then [] else [l[j]] := by
        rw [List.take_succ_eq_append_getElem hj, List.filter_append]
        cases hq : p l[j] <;> simp [hq]
      unfold Fz31.B1
      simp only [e1, decT (show (j : Int) < (l.length : Int) by omega), inB_nat hj, cond_true, Int.toNat_natCast, getD_lt hjc, hcj, tot_eq, Option.bind_some, w64n (show j < 9223372036854775807 by omega)]
      cases hq : p l[j] with
      | true =>
        rw [hq, if_pos rfl, List.append_nil] at ht
        have := hrec c ⟨e1, by
          have := congrArg (List.drop 1) e2
          simpa [List.drop_drop, Nat.add_comm] using this, by rw [ht]; exact e3⟩
        rw [ht] at this
        exact this
      | false =>
        rw [hq] at ht
        simp only [Bool.false_eq_true, if_false] at ht
        have hlen : ((l.take (j + 1)).filter fun x => !p x).length = ((l.take j).filter fun x => !p x).length + 1 := by rw [ht]; simp
        have hmc : ((l.take j).filter fun x => !p x).length < c.length := by omega
        have := hrec (c.set ((l.take j).filter fun x => !p x).length l[j]) ⟨by simpa using e1, by
          rw [List.drop_set_of_lt (by omega)]
          have := congrArg (List.drop 1) e2
          simpa [List.drop_drop, Nat.add_comm] using this, by
          rw [hlen, take_set hmc, e3, ht]⟩
        rw [hlen] at this
        simp only [Bool.not_false, cond_true, inB_nat (show ((l.take j).filter fun x => !p x).length < l.length by omega), w64n (show ((l.take j).filter fun x => !p x).length < 9223372036854775807 by omega)]
        exact this
    · rintro c rec ⟨e1, e2, e3⟩
      have eT : l.take l.length = l := List.take_of_length_le (Nat.le_refl _)
      rw [eT] at e3
      simp only [eT]
      have hm := List.length_filter_le (fun x => !p x) l
      unfold Fz31.B1
      rw [decF (by simp only; omega)]
      simp only [cond_false, e1]
      rw [inW_true (by omega) (by omega) (by omega), cond_true]
      have e4 : overL c (((l.filter fun x => !p x).length : Nat) : Int).toNat (List.replicate ((((l.length : Nat) : Int)) - (((l.filter fun x => !p x).length : Nat) : Int)).toNat (0, 0)) = (l.filter fun x => !p x) ++ List.replicate (l.length - (l.filter fun x => !p x).length) (0, 0) := by
        unfold overL
        rw [Int.toNat_natCast, e3, List.drop_eq_nil_of_le (by simp; omega), List.append_nil]
        congr 2
        omega
      rw [e4, inW_true (by omega) (by omega) (by simp; omega), cond_true]
      congr 3
theorem s_crateBottles : Fz5.S (cl Cr fun c => c.filter fun b => !decide (b = (0, 0))) := Fz5.of_cl s_cloneB s_delete_cb fun c h k => by
  have hl : c.length = 12 := h
  have hp : PL c := by unfold PL; omega
  unfold Fz5.pf
  rw [cl_eq hp, Option.bind_some, cl_eq hp, Option.bind_some, kept_cut]
def gCs (s : List (List DB)) : Prop := s.length ≤ maxLen ∧ ∀ c, c ∈ s → wC c
theorem good_stack {e : TypeId} {s : List (List DB)} (h : goodV (.row e (.arr 12 (.st (.pair (.int .u8) (.int .i16))))) s) : gCs s := by
  obtain ⟨h1, h2⟩ := h
  refine ⟨h1, fun c hc => ?_⟩
  obtain ⟨i, hi, rfl⟩ := List.mem_iff_getElem.1 hc
  have := h2 i hi
  rw [getD_lt hi] at this
  obtain ⟨g1, g2⟩ := this
  refine ⟨g1, fun b hb => ?_⟩
  obtain ⟨j, hj, rfl⟩ := List.mem_iff_getElem.1 hb
  have hj12 : j < 12 := by rw [← g1]; exact hj
  have := g2 j (by first | exact hj12 | exact hj)
  rw [getD_lt hj] at this
  exact good_B this
theorem szC_ok {s : List (List DB)} {n : Int} (h : ¬ vszC (s, n) < 0) (h0 : 0 ≤ n) (h1 : n ≤ 1048576) : s.length ≤ 1048576 ∧ 0 ≤ vszC (s, n) ∧ vszC (s, n) ≤ 1048576 := by
  unfold vszC at h ⊢
  simp only at h ⊢
  by_cases c : n < s.length
  · rw [if_pos c] at h; omega
  · rw [if_neg c] at h ⊢; omega
def bLt (x y : DB) : Bool := decide (x.1 < y.1) || (decide (x.1 = y.1) && decide (x.2 < y.2))
def cmpB (x : DB × DB) : Int := if x.1.1 < x.2.1 then -1 else if x.1.1 > x.2.1 then 1 else if x.1.2 < x.2.2 then -1 else if x.1.2 > x.2.2 then 1 else 0
theorem cmpB_lt (x y : DB) : decide (cmpB (x, y) < 0) = bLt x y := by
  obtain ⟨x1, x2⟩ := x
  obtain ⟨y1, y2⟩ := y
  unfold cmpB bLt
  simp only
  by_cases h1 : x1 < y1
  · simp [h1]
  · by_cases h2 : x1 > y1
    · simp [h1, h2]; omega
    · have : x1 = y1 := by omega
      subst this
      by_cases h3 : x2 < y2
      · simp [h3]
      · by_cases h4 : x2 > y2
        · simp [h3, h4]
        · simp [h3, h4]
def cmpI (x : Int × Int) : Int := if x.1 < x.2 then -1 else if x.1 > x.2 then 1 else 0
theorem s_isNaN8 : Fz4.S (tot fun _ => false) := Fz4.of_tot fun x k => by unfold Fz4.pf; rw [bneF rfl]
theorem s_isNaN16 : Fz3.S (tot fun _ => false) := Fz3.of_tot fun x k => by unfold Fz3.pf; rw [bneF rfl]
theorem s_cmp8 : Fz1.S (tot cmpI) := Fz1.of_tot s_isNaN8 fun x k => by
  obtain ⟨x, y⟩ := x
  unfold Fz1.pf cmpI
  simp only [tot_eq, Option.bind_some, cond_false]
  by_cases h1 : x < y
  · rw [decT h1, if_pos h1]; rfl
  · rw [decF h1, if_neg h1]
    by_cases h2 : x > y
    · rw [decT h2, if_pos h2]; rfl
    · rw [decF h2, if_neg h2]; rfl
theorem s_cmp16 : Fz0.S (tot cmpI) := Fz0.of_tot s_isNaN16 fun x k => by
  obtain ⟨x, y⟩ := x
  unfold Fz0.pf cmpI
  simp only [tot_eq, Option.bind_some, cond_false]
  by_cases h1 : x < y
  · rw [decT h1, if_pos h1]; rfl
  · rw [decF h1, if_neg h1]
    by_cases h2 : x > y
    · rw [decT h2, if_pos h2]; rfl
    · rw [decF h2, if_neg h2]; rfl
def orL (l : List Int) : Int := (l.find? fun x => x != 0).getD 0
theorem firstOr_find {α : Type} (k : Int → Option α) : ∀ (l : List Int) (j : Nat), firstOr (fun x => x != 0) (fun _ x => k x) (k 0) j l = k (orL l)
  | [], _ => rfl
  | x :: l, j => by
    rw [firstOr, firstOr_find k l]
    unfold orL
    rw [List.find?_cons]
    cases hx : x != 0 <;> rfl
theorem s_cmpOr : cmp_Or_int.S (cl PL orL) := cmp_Or_int.of_cl fun l h k => by
  have h : l.length ≤ 1073741824 := h
  unfold cmp_Or_int.pf
  rw [iter_first l (fun i => (i : Int)) (fun x => x != 0) (fun _ x => k x) (k 0) (x := 0) rfl (big_lt (by omega)) ?_ ?_, firstOr_find]
  · intro i hi rec
    unfold cmp_Or_int.B1
    simp only [decT (show (i : Int) < (l.length : Int) by omega), inB_nat hi, cond_true, Int.toNat_natCast, getD_lt hi, w64n (show i < 9223372036854775807 by omega)]
  · intro rec
    unfold cmp_Or_int.B1
    rw [decF (by omega)]
    rfl
theorem s_compare : Fz15.S (tot cmpB) := Fz15.of_tot s_cmp8 s_cmp16 s_cmpOr fun x k => by
  obtain ⟨⟨x1, x2⟩, y1, y2⟩ := x
  unfold Fz15.pf
  simp only [tot_eq, Option.bind_some]
  rw [cl_eq (show PL [cmpI (x1, y1), cmpI (x2, y2)] by unfold PL; simp), Option.bind_some]
  congr 1
  unfold orL cmpI cmpB
  simp only
  by_cases h1 : x1 < y1
  · simp [h1]
  · by_cases h2 : x1 > y1
    · simp [h1, h2]
    · by_cases h3 : x2 < y2
      · simp [h1, h2, h3]
      · by_cases h4 : x2 > y2
        · simp [h1, h2, h3, h4]
        · simp [h1, h2, h3, h4]
def spotB (o : List DB) (x : DB) : Nat → Nat
  | 0 => 0
  | i + 1 => if bLt x (o.getD i (0, 0)) = true then spotB o x i else i + 1
def putB (o : List DB) (x : DB) : List DB := o.take (spotB o x o.length) ++ x :: o.drop (spotB o x o.length)
def sortB (l : List DB) : List DB := l.foldl putB []
theorem putB_perm (o : List DB) (x : DB) : (putB o x).Perm (x :: o) := by
  unfold putB
  refine List.perm_middle.trans ?_
  rw [List.take_append_drop]
theorem sortB_perm (l : List DB) : (sortB l).Perm l := by
  have key : ∀ (l o : List DB), (l.foldl putB o).Perm (o ++ l) := by
    intro l
    induction l with
    | nil => intro o; simp
    | cons x l ih =>
      intro o
      rw [List.foldl_cons]
      refine (ih _).trans ?_
      refine ((putB_perm o x).append_right l).trans ?_
      exact List.perm_middle.symm
  have := key l []
  rwa [List.nil_append] at this
theorem sortB_len (l : List DB) : (sortB l).length = l.length := (sortB_perm l).length_eq
theorem sortB_take (l : List DB) {p : Nat} (h : p < l.length) : sortB (l.take (p + 1)) = putB (sortB (l.take p)) l[p] := by
  unfold sortB
  rw [List.take_succ_eq_append_getElem h, List.foldl_append]
  rfl
/-- One stands at a place, the others around it. -/
def amd {β : Type} (o : List β) (x : β) (j : Nat) (q : List β) : List β := o.take j ++ x :: (o.drop j ++ q)
theorem amd_len {β : Type} (o : List β) (x : β) (j : Nat) (q : List β) (h : j ≤ o.length) : (amd o x j q).length = o.length + 1 + q.length := by
  unfold amd
  simp
  omega
theorem amd_at {β : Type} (d : β) (o : List β) (x : β) (j : Nat) (q : List β) (h : j ≤ o.length) : (amd o x j q).getD j d = x := by
  unfold amd
  rw [List.getD_eq_getElem?_getD, List.getElem?_append_right (by simp; omega)]
  simp [Nat.min_eq_left h]
theorem amd_below {β : Type} (d : β) (o : List β) (x : β) (j : Nat) (q : List β) (h : j < o.length) : (amd o x (j + 1) q).getD j d = o[j] := by
  unfold amd
  rw [List.getD_eq_getElem?_getD, List.getElem?_append_left (by simp; omega), List.getElem?_take_of_lt (by omega), List.getElem?_eq_getElem h]
  rfl
theorem amd_swap {β : Type} (o : List β) (x : β) (j : Nat) (q : List β) (h : j < o.length) : ((amd o x (j + 1) q).set (j + 1) o[j]).set j x = amd o x j q := by
  unfold amd
  rw [List.set_append_right _ _ (by simp; omega)]
  have e : j + 1 - (o.take (j + 1)).length = 0 := by simp; omega
  rw [e, List.set_cons_zero, List.take_succ_eq_append_getElem h, List.append_assoc, List.set_append_right _ _ (by simp; omega)]
  have e2 : j - (o.take j).length = 0 := by simp; omega
  rw [e2]
  simp
  rw [drop_cons h, List.cons_append]
theorem insB2 {α : Type} (p1 p2 : Int) (o : List DB) (x : DB) (q : List DB) (ho : o.length ≤ 1073741824) (K : Int × List DB → Option α) (K' : Int × List DB → Int → Option α) (hK : ∀ a b, K' a b = K a) :
    iter (Fz36.B2 (tot cmpB) 0 p1 p2 K' K) BIG ((o.length : Int), amd o x o.length q) = K (((spotB o x o.length : Nat) : Int), amd o x (spotB o x o.length) q) := by
  have key : ∀ (j fuel : Nat), j < fuel → j ≤ o.length → iter (Fz36.B2 (tot cmpB) 0 p1 p2 K' K) fuel ((j : Int), amd o x j q) = K (((spotB o x j : Nat) : Int), amd o x (spotB o x j) q) := by
    intro j
    induction j with
    | zero =>
      intro fuel hf _
      match fuel, hf with
      | f + 1, _ =>
        show Fz36.B2 _ 0 p1 p2 K' K _ (((0 : Nat) : Int), _) = _
        unfold Fz36.B2
        rw [decF (by simp)]
        rfl
    | succ j ih =>
      intro fuel hf hj
      match fuel, hf with
      | f + 1, hf =>
        show Fz36.B2 _ 0 p1 p2 K' K (iter (Fz36.B2 (tot cmpB) 0 p1 p2 K' K) f) (((j + 1 : Nat) : Int), amd o x (j + 1) q) = _
        generalize hR : iter (Fz36.B2 (tot cmpB) 0 p1 p2 K' K) f = R
        unfold Fz36.B2
        have e : IntKind.i64.wrap (((j + 1 : Nat) : Int) - 1) = (j : Int) := by rw [w64 (by omega) (by omega)]; omega
        have hjo : j < o.length := by omega
        have hl := amd_len o x (j + 1) q hj
        have h1 : j + 1 < (amd o x (j + 1) q).length := by omega
        have h2 : j < (amd o x (j + 1) q).length := by omega
        have h3 : j < ((amd o x (j + 1) q).set (j + 1) o[j]).length := by rw [List.length_set]; exact h2
        simp only [e, decT (show ((j + 1 : Nat) : Int) > 0 by omega), inB_nat h1, inB_nat h2, Int.toNat_natCast, cond_true, amd_at _ o x (j + 1) q hj, amd_below _ o x j q hjo, tot_eq, Option.bind_some, inB_nat h3, amd_swap o x j q hjo, cmpB_lt]
        unfold spotB
        rw [getD_lt hjo]
        cases c : bLt x o[j] with
        | true => rw [if_pos rfl, cond_true, ← hR]; exact ih f (by omega) (by omega)
        | false => rw [if_neg (by simp), cond_false, hK]
  exact key _ _ (big_lt (by omega)) (Nat.le_refl _)
def PInB (x : List DB × Int × Int) : Prop := PL x.1 ∧ x.2.1 = 0 ∧ x.2.2 = x.1.length
theorem s_insB : Fz36.S (cl PInB fun x => sortB x.1) := Fz36.of_cl s_compare fun x h k => by
  obtain ⟨l, a, b⟩ := x
  obtain ⟨hl, h1, h2⟩ := h
  obtain rfl : a = 0 := h1
  obtain rfl : b = (l.length : Int) := h2
  have hl : l.length ≤ 1073741824 := hl
  show Fz36.pf _ BIG l 0 (l.length : Int) k = k (sortB l)
  unfold Fz36.pf
  rw [w64 (by omega) (by omega)]
  match hq : l with
  | [] =>
    refine iter_to (fun _ => (1, [])) 0 (by rfl) (big_lt (by omega)) (fun k hk => absurd hk (Nat.not_lt_zero _)) fun rec => ?_
    unfold Fz36.B1
    rfl
  | y :: l' =>
    rw [← hq] at hl ⊢
    have hpos : 1 ≤ l.length := by rw [hq]; simp
    have h1 : sortB (l.take 1) ++ l.drop 1 = l := by rw [hq]; rfl
    have := iter_fold (B := Fz36.B1 (tot cmpB) BIG 0 (l.length : Int) fun (x1 : Int × List DB) => k x1.2) l (fun p (c : List DB) => ((p : Int), c)) (fun _ _ => k (sortB l)) (fun p c => 1 ≤ p ∧ c = sortB (l.take p) ++ l.drop p) ?_ ?_ (l.length - 1) 1 l BIG (by omega) (big_lt (by omega)) ⟨by omega, h1.symm⟩
    · exact this
    · rintro p hp c rec ⟨hp1, rfl⟩ hrec
      unfold Fz36.B1
      have ho : (sortB (l.take p)).length = p := by rw [sortB_len, List.length_take]; omega
      have e0 : sortB (l.take p) ++ l.drop p = amd (sortB (l.take p)) l[p] p (l.drop (p + 1)) := by
        unfold amd
        have t1 : (sortB (l.take p)).take p = sortB (l.take p) := List.take_of_length_le (by omega)
        have t2 : (sortB (l.take p)).drop p = [] := List.drop_eq_nil_of_le (by omega)
        rw [t1, t2, List.nil_append, drop_cons hp]
      simp only [decT (show (p : Int) < (l.length : Int) by omega), cond_true]
      rw [e0]
      have e1 := insB2 (l.length : Int) (p : Int) (sortB (l.take p)) l[p] (l.drop (p + 1)) (by omega) (fun (x2 : Int × List DB) => rec (IntKind.i64.wrap ((p : Int) + 1), x2.2)) (fun (x2 : Int × List DB) (_ : Int) => rec (IntKind.i64.wrap ((p : Int) + 1), x2.2)) (fun _ _ => rfl)
      rw [ho] at e1
      rw [e1, w64n (by omega)]
      refine hrec _ ⟨by omega, ?_⟩
      rw [sortB_take l hp]
      unfold amd putB
      rw [ho, List.append_assoc, List.cons_append]
    · rintro c rec ⟨_, rfl⟩
      unfold Fz36.B1
      rw [decF (by omega)]
      simp
def PPdB (x : List DB × Int × Int × Int) : Prop := x.1.length ≤ 12 ∧ x.2.1 = 0 ∧ x.2.2.1 = x.1.length
theorem s_pdqB : Fz37.S (cl PPdB fun x => sortB x.1) := Fz37.of_cl s_insB fun x h k => by
  obtain ⟨l, a, b, c⟩ := x
  obtain ⟨hl, h1, h2⟩ := h
  obtain rfl : a = 0 := h1
  obtain rfl : b = (l.length : Int) := h2
  have hl : l.length ≤ 12 := hl
  show Fz37.pf _ BIG l 0 (l.length : Int) c k = k (sortB l)
  unfold Fz37.pf
  refine iter_to (fun _ => ()) 0 rfl (big_lt (by omega)) (fun k hk => absurd hk (Nat.not_lt_zero _)) fun rec => ?_
  unfold Fz37.B1
  rw [w64 (by omega) (by omega), decT (by omega), cond_true, cl_eq (show PInB (l, 0, (l.length : Int)) from ⟨(show l.length ≤ 1073741824 by omega), rfl, rfl⟩), Option.bind_some]
def P255 (x : Int) : Prop := 0 ≤ x ∧ x ≤ 255
theorem s_Len64_pf {α : Type} (x : Int) (h0 : 0 ≤ x) (h1 : x ≤ 255) (k : Int → Option α) : Fz26.pf BIG x k = k ((Fz26.pf BIG x some).getD 0) := by
  unfold Fz26.pf
  rw [decF (show ¬ x ≥ 4294967296 by omega), decF (show ¬ x ≥ 65536 by omega), decF (show ¬ x ≥ 256 by omega)]
  simp only [cond_false]
  have e : IntKind.u8.wrap x = x := by rw [IntKind.wrap_u8]; omega
  rw [e, inB_true (i := x) h0]
  · rfl
  · exact Int.lt_of_lt_of_le (show x < ((256 : Nat) : Int) by omega) (Int.le_of_eq rfl)
theorem s_Len64 : Fz26.S (cl P255 fun x => (Fz26.pf BIG x some).getD 0) := Fz26.of_cl fun x h k => s_Len64_pf x h.1 h.2 k
theorem s_bitsLen : Fz25.S (cl P255 fun x => (Fz26.pf BIG x some).getD 0) := Fz25.of_cl s_Len64 fun x h k => by
  unfold Fz25.pf
  rw [cl_eq h, Option.bind_some]
def PFew12 {β : Type} (l : List β) : Prop := l.length ≤ 12
theorem s_SortFuncB : Fz35.S (cl PFew12 sortB) := Fz35.of_cl s_bitsLen s_pdqB fun l h k => by
  have h : l.length ≤ 12 := h
  unfold Fz35.pf
  have e : IntKind.u64.wrap ((l.length : Nat) : Int) = (l.length : Int) := by rw [IntKind.wrap_u64]; omega
  rw [e, cl_eq (show P255 (l.length : Int) from ⟨by omega, by omega⟩), Option.bind_some, cl_eq (show PPdB (l, 0, (l.length : Int), _) from ⟨h, rfl, rfl⟩), Option.bind_some]
abbrev allB (c : List DB) : List DB := c.filter fun b => !decide (b = (0, 0))
theorem allB_len (c : List DB) : (allB c).length ≤ c.length := List.length_filter_le _ _
theorem s_crateSorted : Fz8.S (cl Cr fun c => sortB (allB c)) := Fz8.of_cl s_crateBottles s_SortFuncB fun c h k => by
  have hl : c.length = 12 := h
  have := allB_len c
  unfold Fz8.pf
  rw [cl_eq h, Option.bind_some, cl_eq (show PFew12 (allB c) by unfold PFew12; omega), Option.bind_some]
theorem s_l01All : Fz40.S (cl Cr allB) := Fz40.of_cl s_l01Free fun c h k => by
  have hl : c.length = 12 := h
  unfold Fz40.pf
  refine iter_list c (fun i (o : List DB) => ((i : Int), o)) (fun q o => k (o ++ allB q)) (fun i o => o.length ≤ i) (c := []) rfl (big_lt (by omega)) (Nat.le_refl 0) ?_ ?_
  · rintro i hi o rec ho hrec
    unfold Fz40.B1
    simp only [decT (show (i : Int) < 12 by omega), inB_nat (show i < 12 by omega), cond_true, Int.toNat_natCast, getD_lt hi, tot_eq, Option.bind_some, w64n (show i < 9223372036854775807 by omega), allB, List.filter_cons]
    by_cases q : c[i] = (0, 0)
    · rw [decT q]
      exact hrec _ (by omega)
    · rw [decF q, okS (by simp; omega)]
      simp only [Bool.not_false, cond_true, if_true]
      exact (hrec _ (by simp; omega)).trans (by simp [allB])
  · rintro o rec _
    unfold Fz40.B1
    rw [decF (by simp only; omega)]
    simp [allB]
def cmpGo {β : Type} [DecidableEq β] (p : β) : List β → List β
  | [] => []
  | x :: l => if x = p then cmpGo p l else x :: cmpGo x l
def compact {β : Type} [DecidableEq β] : List β → List β
  | [] => []
  | x :: l => x :: cmpGo x l
theorem cmpGo_snoc {β : Type} [DecidableEq β] (x d : β) : ∀ (l : List β) (p : β), cmpGo p (l ++ [x]) = cmpGo p l ++ if x = (p :: l).getLastD d then [] else [x]
  | [], p => by
    simp only [List.nil_append, cmpGo, List.getLastD_cons]
    rfl
  | y :: l, p => by
    rw [List.cons_append, cmpGo, cmpGo]
    have e : ∀ q, (q :: y :: l).getLastD d = (y :: l).getLastD d := fun q => rfl
    split
    · rename_i h
      subst h
      rw [cmpGo_snoc x d l y, e]
    · rw [cmpGo_snoc x d l y, e]
      rfl
theorem compact_succ {β : Type} [DecidableEq β] (d : β) {l : List β} {j : Nat} (h : j + 1 < l.length) : compact (l.take (j + 2)) = compact (l.take (j + 1)) ++ if l.getD (j + 1) d = l.getD j d then [] else [l.getD (j + 1) d] := by
  match l, h with
  | x :: l, h =>
    have hj : j < l.length := by simpa using h
    rw [List.take_succ_cons, List.take_succ_cons, compact, compact, List.take_succ_eq_append_getElem hj, cmpGo_snoc l[j] d]
    have e1 : (x :: l).getD (j + 1) d = l[j] := by rw [getD_lt h]; rfl
    have e2 : (x :: l.take j).getLastD d = (x :: l).getD j d := by
      rw [List.getLastD_eq_getLast?, List.getLast?_eq_getElem?, List.getD_eq_getElem?_getD]
      simp only [List.length_cons, List.length_take, Nat.min_eq_left (Nat.le_of_lt hj), Nat.add_sub_cancel]
      congr 1
      cases j with
      | zero => rfl
      | succ j => rw [List.getElem?_cons_succ, List.getElem?_cons_succ, List.getElem?_take_of_lt (by omega)]
    rw [e1, e2]
    rfl
theorem compact_one {β : Type} [DecidableEq β] {l : List β} (h : 0 < l.length) : compact (l.take 1) = l.take 1 := by
  match l, h with
  | x :: l, _ => rfl
theorem cmpGo_nil {β : Type} [DecidableEq β] (p : β) : ∀ l : List β, cmpGo p l = [] ↔ ∀ x, x ∈ l → x = p
  | [] => by simp [cmpGo]
  | x :: l => by
    unfold cmpGo
    split
    · rename_i h
      rw [cmpGo_nil p l]
      simp [h]
    · rename_i h
      simp [h]
theorem compact_le1 {β : Type} [DecidableEq β] (l : List β) : (compact l).length ≤ 1 ↔ ∀ x, x ∈ l → ∀ y, y ∈ l → x = y := by
  match l with
  | [] => simp [compact]
  | x :: l =>
    have e : (compact (x :: l)).length ≤ 1 ↔ cmpGo x l = [] := by
      simp only [compact, List.length_cons]
      rw [← List.length_eq_zero_iff]
      omega
    rw [e, cmpGo_nil]
    constructor
    · intro h y hy z hz
      have h' : ∀ y, y ∈ x :: l → y = x := fun y hy => by
        rcases List.mem_cons.1 hy with rfl | hy
        · rfl
        · exact h y hy
      rw [h' y hy, h' z hz]
    · intro h y hy
      exact h y (List.mem_cons_of_mem _ hy) x (List.mem_cons_self ..)
/-- What Go's Compact leaves. -/
def compV {β : Type} [DecidableEq β] (d : β) (l : List β) : Option (Nat × Nat) × List β :=
  if (compact l).length = l.length then (none, l) else (some (0, (compact l).length), compact l ++ List.replicate (l.length - (compact l).length) d)
theorem compact_same {β : Type} [DecidableEq β] (d : β) (l : List β) : ∀ j, j < l.length → (∀ i, i < j → l.getD (i + 1) d ≠ l.getD i d) → compact (l.take (j + 1)) = l.take (j + 1)
  | 0, h, _ => compact_one h
  | j + 1, h, hne => by
    rw [compact_succ d h, compact_same d l j (by omega) (fun i hi => hne i (by omega)), if_neg (hne j (by omega)), List.take_succ_eq_append_getElem h, getD_lt h]
theorem compV_len {β : Type} [DecidableEq β] (d : β) (l : List β) : Win.len (compV d l).1 (compV d l).2 = (compact l).length := by
  unfold compV
  split
  · rename_i h; exact h.symm
  · rfl
theorem notDT {p : Prop} [Decidable p] (h : p) : (!decide p) = false := by rw [decT h]; rfl
theorem notDF {p : Prop} [Decidable p] (h : ¬ p) : (!decide p) = true := by rw [decF h]; rfl
theorem s_compactB : Fz28.S (cl PL (compV ((0, 0) : DB))) := Fz28.of_cl fun l h k => by
  have hl : l.length ≤ 1073741824 := h
  unfold Fz28.pf
  by_cases c2 : (l.length : Int) < 2
  · rw [decT c2, cond_true]
    have e : compV ((0, 0) : DB) l = (none, l) := by
      unfold compV
      match l, c2 with
      | [], _ => rfl
      | [x], _ => rfl
      | x :: y :: l, c2 => simp at c2; omega
    rw [e]
  · rw [decF c2, cond_false]
    -- where two stand together first
    have key : ∀ (n j : Nat) (fuel : Nat), j + n = l.length → 1 ≤ j → n < fuel → (∀ i, i + 1 < j → l.getD (i + 1) ((0, 0) : DB) ≠ l.getD i ((0, 0) : DB)) →
        iter (Fz28.B1 BIG l (fun (x1 : Int) (x2 : (Int × Int × (List DB))) => k ((some (0, (x2.1 - (0 : Int)).toNat)), (overL x2.2.2 x2.1.toNat (List.replicate ((((List.length x2.2.2) : Nat) : Int) - x2.1).toNat ((0, 0) : DB))))) (fun (x1 : Int) => k ((none : Option (Nat × Nat)), l))) fuel (j : Int) = k (compV ((0, 0) : DB) l) := by
      intro n
      induction n with
      | zero =>
        intro j fuel hj h1 hf hne
        match fuel, hf with
        | f + 1, _ =>
          show Fz28.B1 _ _ _ _ _ _ = _
          unfold Fz28.B1
          rw [decF (by omega), cond_false]
          have e := compact_same ((0, 0) : DB) l (l.length - 1) (by omega) (fun i hi => hne i (by omega))
          rw [show l.length - 1 + 1 = l.length by omega, List.take_of_length_le (Nat.le_refl _)] at e
          unfold compV
          rw [e, if_pos rfl]
      | succ n ih =>
        intro j fuel hj h1 hf hne
        match fuel, hf with
        | f + 1, hf =>
          have hjl : j < l.length := by omega
          have ej : IntKind.i64.wrap ((j : Int) - 1) = ((j - 1 : Nat) : Int) := by rw [w64 (by omega) (by omega)]; omega
          show Fz28.B1 _ _ _ _ (iter _ f) _ = _
          generalize hR : iter (Fz28.B1 BIG l (fun (x1 : Int) (x2 : (Int × Int × (List DB))) => k ((some (0, (x2.1 - (0 : Int)).toNat)), (overL x2.2.2 x2.1.toNat (List.replicate ((((List.length x2.2.2) : Nat) : Int) - x2.1).toNat ((0, 0) : DB))))) (fun (x1 : Int) => k ((none : Option (Nat × Nat)), l))) f = R
          unfold Fz28.B1
          simp only [decT (show (j : Int) < (l.length : Int) by omega), inB_nat hjl, ej, inB_nat (show j - 1 < l.length by omega), cond_true, Int.toNat_natCast, eqB]
          by_cases c : l.getD j ((0, 0) : DB) = l.getD (j - 1) ((0, 0) : DB)
          · rw [decT c, cond_true, inW_true (by omega) (by omega) (by omega), cond_true]
            have etk : compact (l.take j) = l.take j := by
              have := compact_same ((0, 0) : DB) l (j - 1) (by omega) (fun i hi => hne i (by omega))
              rwa [show j - 1 + 1 = j by omega] at this
            have etk1 : compact (l.take (j + 1)) = l.take j := by
              have := compact_succ ((0, 0) : DB) (l := l) (j := j - 1) (by omega)
              rw [show j - 1 + 2 = j + 1 by omega, show j - 1 + 1 = j by omega, if_pos c, List.append_nil, etk] at this
              exact this
            have := iter_fold (B := Fz28.B2 j (((l.length : Int) - (j : Int)).toNat) (fun (x2 : (Int × Int × (List DB))) => cond (inW x2.1 (((List.length x2.2.2) : Nat) : Int) (List.length x2.2.2)) (cond (inW (0 : Int) x2.1 (List.length (overL x2.2.2 x2.1.toNat (List.replicate ((((List.length x2.2.2) : Nat) : Int) - x2.1).toNat ((0, 0) : DB))))) (k ((some (0, (x2.1 - (0 : Int)).toNat)), (overL x2.2.2 x2.1.toNat (List.replicate ((((List.length x2.2.2) : Nat) : Int) - x2.1).toNat ((0, 0) : DB))))) none) none))
              l (fun p (c : List DB) => (((compact (l.take p)).length : Int), ((p - j : Nat) : Int), c)) (fun _ _ => k (compV ((0, 0) : DB) l)) (fun p c => j + 1 ≤ p ∧ c.length = l.length ∧ c.drop (p - 1) = l.drop (p - 1) ∧ c.take (compact (l.take p)).length = compact (l.take p) ∧ (compact (l.take p)).length < p) ?_ ?_ (l.length - (j + 1)) (j + 1) l BIG (by omega) (big_lt (by omega)) ⟨Nat.le_refl _, rfl, rfl, ?_, ?_⟩
            · have el : (List.take j l).length = j := by rw [List.length_take]; omega
              simp only [etk1, el] at this
              rw [show ((j + 1 - j : Nat) : Int) = 1 by omega] at this
              exact this
            · rintro p hp c' rec ⟨hp1, e1, e2, e3, e4⟩ hrec
              have hpc : p < c'.length := by omega
              have g0 : c'.getD (p - 1) ((0, 0) : DB) = l.getD (p - 1) ((0, 0) : DB) := by
                have := congrArg (fun z => z.getD 0 ((0, 0) : DB)) e2
                simpa [List.getD_eq_getElem?_getD] using this
              have g1 : c'.getD p ((0, 0) : DB) = l.getD p ((0, 0) : DB) := by
                have := congrArg (fun z => z.getD 1 ((0, 0) : DB)) e2
                simpa [List.getD_eq_getElem?_getD, show p - 1 + 1 = p by omega] using this
              have es : compact (l.take (p + 1)) = compact (l.take p) ++ if l.getD p ((0, 0) : DB) = l.getD (p - 1) ((0, 0) : DB) then [] else [l.getD p ((0, 0) : DB)] := by
                have := compact_succ ((0, 0) : DB) (l := l) (j := p - 1) (by omega)
                rwa [show p - 1 + 2 = p + 1 by omega, show p - 1 + 1 = p by omega] at this
              unfold Fz28.B2
              have en : (((l.length : Int) - (j : Int)).toNat) = l.length - j := by omega
              have ep : IntKind.i64.wrap (((p - j : Nat) : Int) - 1) = ((p - 1 - j : Nat) : Int) := by rw [w64 (by omega) (by omega)]; omega
              simp only [en, ep, decT (show ((p - j : Nat) : Int) < ((l.length - j : Nat) : Int) by omega), inB_nat (show p - j < l.length - j by omega), inB_nat (show p - 1 - j < l.length - j by omega), cond_true, Int.toNat_natCast, show j + (p - j) = p by omega, show j + (p - 1 - j) = p - 1 by omega, g0, g1, eqB, w64n (show p - j < 9223372036854775807 by omega)]
              rw [show p - j + 1 = p + 1 - j by omega]
              by_cases cc : l.getD p ((0, 0) : DB) = l.getD (p - 1) ((0, 0) : DB)
              · rw [if_pos cc, List.append_nil] at es
                rw [notDT cc, cond_false]
                have := hrec c' ⟨by omega, e1, by
                  have := congrArg (List.drop 1) e2
                  rw [List.drop_drop, List.drop_drop] at this
                  rwa [show p - 1 + 1 = p + 1 - 1 by omega] at this, by rw [es]; exact e3, by rw [es]; omega⟩
                rw [es] at this
                exact this
              · rw [if_neg cc] at es
                have el : (compact (l.take (p + 1))).length = (compact (l.take p)).length + 1 := by rw [es]; simp
                have hm : (compact (l.take p)).length < c'.length := by omega
                rw [notDF cc, cond_true, inB_nat hm, cond_true, w64n (show (compact (l.take p)).length < 9223372036854775807 by omega)]
                have := hrec (c'.set (compact (l.take p)).length (l.getD p ((0, 0) : DB))) ⟨by omega, by simpa using e1, by
                  rw [List.drop_set_of_lt (by omega)]
                  have := congrArg (List.drop 1) e2
                  rw [List.drop_drop, List.drop_drop] at this
                  rwa [show p - 1 + 1 = p + 1 - 1 by omega] at this, by
                  rw [el, take_set hm, e3, es], by omega⟩
                rw [el] at this
                exact this
            · rintro c' rec ⟨hp1, e1, e2, e3, e4⟩
              have eT : l.take l.length = l := List.take_of_length_le (Nat.le_refl _)
              simp only [eT] at e3 e4 ⊢
              unfold Fz28.B2
              rw [decF (by simp only; omega)]
              simp only [cond_false, e1]
              rw [inW_true (by omega) (by omega) (by omega), cond_true]
              have e5 : overL c' (((compact l).length : Nat) : Int).toNat (List.replicate ((((l.length : Nat) : Int)) - (((compact l).length : Nat) : Int)).toNat ((0, 0) : DB)) = compact l ++ List.replicate (l.length - (compact l).length) ((0, 0) : DB) := by
                unfold overL
                rw [Int.toNat_natCast, e3, List.drop_eq_nil_of_le (by simp; omega), List.append_nil]
                congr 2
                omega
              rw [e5, inW_true (by omega) (by omega) (by simp; omega), cond_true]
              unfold compV
              rw [if_neg (by omega)]
              congr 3
            · rw [etk1, List.length_take, Nat.min_eq_left (by omega)]
            · rw [etk1, List.length_take]; omega
          · rw [decF c, cond_false, w64n (by omega), ← hR]
            exact ih (j + 1) f (by omega) (by omega) (by omega) (fun i hi => by
              rcases Nat.lt_or_ge (i + 1) j with q | q
              · exact hne i q
              · obtain rfl : i + 1 = j := by omega
                exact c)
    exact key (l.length - 1) 1 BIG (by omega) (by omega) (big_lt (by omega)) (fun i hi => by omega)
def oneB (l : List DB) : Bool := decide ((compact (sortB l)).length ≤ 1)
theorem oneB_iff (l : List DB) : oneB l = true ↔ ∀ x, x ∈ l → x = l.getD 0 (0, 0) := by
  unfold oneB
  rw [decide_eq_true_iff, compact_le1]
  have hm : ∀ x, x ∈ sortB l ↔ x ∈ l := fun x => (sortB_perm l).mem_iff
  constructor
  · intro h x hx
    match l, hx, hm, h with
    | y :: l, hx, hm, h => exact h x ((hm x).2 hx) y ((hm y).2 (List.mem_cons_self ..))
  · intro h x hx y hy
    rw [h x ((hm x).1 hx), h y ((hm y).1 hy)]
theorem s_l01Pure : Fz44.S (cl Cr fun c => oneB (allB c)) := Fz44.of_cl s_l01All fun c h k => by
  have hc : c.length = 12 := h
  have hl := allB_len c
  unfold Fz44.pf
  rw [cl_eq h, Option.bind_some]
  generalize allB c = l at hl ⊢
  rw [iter_first (l.drop 1) (fun i => ((i + 1 : Nat) : Int)) (fun b => !decide (b = l.getD 0 (0, 0))) (fun _ _ => k false) (k true) (x := 1) rfl (big_lt (by simp; omega)) ?_ ?_, firstOr_const, any_not]
  · have e : oneB l = (l.drop 1).all fun b => decide (b = l.getD 0 (0, 0)) := by
      rw [Bool.eq_iff_iff, oneB_iff, List.all_eq_true]
      constructor
      · intro h x hx
        exact decT (h x (List.mem_of_mem_drop hx))
      · intro h x hx
        match l, hx, h with
        | y :: l, hx, h =>
          rcases List.mem_cons.1 hx with rfl | hx
          · rfl
          · exact of_decide_eq_true (h x hx)
    rw [e]
    cases (l.drop 1).all fun b => decide (b = l.getD 0 (0, 0)) <;> rfl
  · intro i hi rec
    rw [List.length_drop] at hi
    have h1 : i + 1 < l.length := by omega
    have h0 : 0 < l.length := by omega
    have e : (l.drop 1)[i]'(by rw [List.length_drop]; omega) = l[i + 1] := by rw [List.getElem_drop]; congr 1; omega
    unfold Fz44.B1
    rw [e]
    simp only [decT (show ((i + 1 : Nat) : Int) < (l.length : Int) by omega), inB_nat h1, inB_true (Int.le_refl 0) (show (0 : Int) < (l.length : Int) by omega), cond_true, Int.toNat_natCast, getD_lt h1, eqB, w64n (show i + 1 < 9223372036854775807 by omega)]
  · intro rec
    unfold Fz44.B1
    rw [decF (by rw [List.length_drop]; omega)]
    rfl
theorem s_cratePure : Fz7.S (cl Cr fun c => oneB (allB c)) := Fz7.of_cl s_crateSorted s_compactB fun c h k => by
  have hc : c.length = 12 := h
  have hl := allB_len c
  have hs := sortB_len (allB c)
  unfold Fz7.pf
  rw [cl_eq h, Option.bind_some, cl_eq (show PL (sortB (allB c)) by unfold PL; omega), Option.bind_some, compV_len]
  unfold oneB
  congr 1
  exact decide_eq_decide.2 (by omega)
def mixedIn (s : List (List DB)) : Int × Int := if stackOk s = true then (countI (fun c => !oneB (allB c)) s, 0) else (0, 1)
theorem s_spec_MixedIn : Fz38.S (cl wCs mixedIn) := Fz38.of_cl s_l01Stack s_l01Pure fun s h k => by
  have hl := h.1.1
  unfold Fz38.pf mixedIn
  rw [cl_eq h, Option.bind_some]
  cases stackOk s with
  | false => rfl
  | true =>
    simp only [Bool.not_true, cond_false, if_true]
    refine (iter_list s (fun p (n : Int) => (n, (p : Int))) (fun q n => k (n + countI (fun c => !oneB (allB c)) q, 0)) (fun p n => 0 ≤ n ∧ n ≤ p) (c := 0) rfl (big_lt (by omega)) ⟨by omega, by omega⟩ ?_ ?_).trans (by rw [Int.zero_add])
    · rintro p hp n rec ⟨h1, h2⟩ hrec
      unfold Fz38.B1
      simp only [decT (show (p : Int) < (s.length : Int) by omega), inB_nat hp, cond_true, Int.toNat_natCast, getD_lt hp, cl_eq (h.1.at hp), Option.bind_some, w64n (show p < 9223372036854775807 by omega), w64 (show -9223372036854775808 ≤ n + 1 by omega) (by omega), countI]
      cases oneB (allB s[p]) with
      | true => exact (hrec _ (by omega)).trans (by simp)
      | false => exact (hrec _ (by omega)).trans (by simp [Int.add_assoc])
    · rintro n rec _
      unfold Fz38.B1
      rw [decF (by simp only; omega)]
      simp [countI]
theorem s_impl_MixedIn : Fz9.S (cl wCs mixedIn) := Fz9.of_cl s_ValidStack s_cratePure fun s h k => by
  have hl := h.1.1
  unfold Fz9.pf mixedIn
  rw [cl_eq h, Option.bind_some]
  cases stackOk s with
  | false => rfl
  | true =>
    simp only [Bool.not_true, cond_false, if_true]
    refine (iter_list s (fun p (n : Int) => (n, (p : Int))) (fun q n => k (n + countI (fun c => !oneB (allB c)) q, 0)) (fun p n => 0 ≤ n ∧ n ≤ p) (c := 0) rfl (big_lt (by omega)) ⟨by omega, by omega⟩ ?_ ?_).trans (by rw [Int.zero_add])
    · rintro p hp n rec ⟨h1, h2⟩ hrec
      unfold Fz9.B1
      simp only [decT (show (p : Int) < (s.length : Int) by omega), inB_nat hp, cond_true, Int.toNat_natCast, getD_lt hp, cl_eq (h.1.at hp), Option.bind_some, w64n (show p < 9223372036854775807 by omega), w64 (show -9223372036854775808 ≤ n + 1 by omega) (by omega), countI]
      cases oneB (allB s[p]) with
      | true => exact (hrec _ (by omega)).trans (by simp)
      | false => exact (hrec _ (by omega)).trans (by simp [Int.add_assoc])
    · rintro n rec _
      unfold Fz9.B1
      rw [decF (by simp only; omega)]
      simp [countI]
theorem s_law_MixedIn : laws_FnExactMixedIn.S (cl gCs fun _ => true) := laws_FnExactMixedIn.of_cl s_szCrateS s_toCrateS s_spec_MixedIn s_impl_MixedIn s_eqCrateS fun s h k => by
  have hg : gCs s := h
  unfold laws_FnExactMixedIn.pf
  rw [cl_eq (show PszC (s, 1048576) from ⟨hg.1, by simp, by simp⟩), Option.bind_some]
  by_cases c : vszC (s, 1048576) < 0
  · rw [decT c]; rfl
  · obtain ⟨hs, n0, n1⟩ := szC_ok c (by omega) (by omega)
    have cr : CrS s := ⟨by omega, fun c hc => (hg.2 c hc).1⟩
    have w : wCs s := ⟨cr, fun c hc => (hg.2 c hc).2⟩
    rw [decF c, cond_false]
    simp only [cl_eq cr, Option.bind_some, cl_eq w, bneS, cond_false, cl_eq (show CrS2 (s, s) from ⟨cr, cr⟩), decide_true, Bool.not_true]
end Go.Proofs.Ytjajlmaldeoobaa.G
