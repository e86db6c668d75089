/- Plain proofs: what the functions answer, in plain lists and numbers. -/
import Derived.Test.YtjajlmaldeoobaaRd0
import Derived.Test.YtjajlmaldeoobaaRd1
import Derived.Test.YtjajlmaldeoobaaRd2
namespace Go.Proofs.Ytjajlmaldeoobaa.G
open Go
set_option linter.unusedVariables false
set_option linter.unusedSimpArgs false
set_option maxRecDepth 10000
abbrev DB := Int × Int
abbrev DS := DB × Int
theorem s_toBottle : laws_toBottle.S (tot fun x => x) := laws_toBottle.of_tot fun x k => rfl
/-- A copy, element by element. -/
theorem copied {β : Type} {l o : List β} {k : Nat} {d : β} (h : k < l.length) (ho : o.length = l.length) (hp : o.take k = l.take k) : (o.set k l[k]).take (k + 1) = l.take (k + 1) ∧ (o.set k l[k]).length = l.length := by
  refine ⟨?_, by simpa using ho⟩
  rw [List.take_succ_eq_append_getElem (by simpa [ho] using h), List.take_succ_eq_append_getElem h, List.take_set_of_le (Nat.le_refl k), hp]
  simp
theorem eqB (a b : DB) : eqV (.st (.pair (.int .u8) (.int .i16))) a b = decide (a = b) := by
  obtain ⟨a1, a2⟩ := a
  obtain ⟨b1, b2⟩ := b
  simp only [eqV]
  rw [Bool.eq_iff_iff]
  simp
theorem s_eqBottle : laws_eqBottle.S (tot fun x => decide (x.1 = x.2)) := laws_eqBottle.of_tot fun x k => by
  obtain ⟨⟨a1, a2⟩, b1, b2⟩ := x
  unfold laws_eqBottle.pf
  by_cases h1 : a1 = b1
  · by_cases h2 : a2 = b2
    · simp [h1, h2]
    · simp [h1, h2, bneT h2]
  · simp [h1, bneT h1]
/-- Lists of one length are alike where no pair of elements differs. -/
theorem any_eq {β : Type} [DecidableEq β] : ∀ (a b : List β), a.length = b.length → (a.zip b).any (fun p => !decide (p.1 = p.2)) = !decide (a = b)
  | [], [], _ => by simp
  | [], _ :: _, h => by simp at h
  | _ :: _, [], h => by simp at h
  | x :: a, y :: b, h => by
    rw [List.zip_cons_cons, List.any_cons, any_eq a b (by simpa using h)]
    by_cases c : x = y <;> by_cases c2 : a = b <;> simp [c, c2]
theorem zip_at {β γ : Type} {a : List β} {b : List γ} {k : Nat} (h : k < (a.zip b).length) : (a.zip b)[k] = (a[k]'(by simp at h; omega), b[k]'(by simp at h; omega)) := by simp
theorem take_set {β : Type} {l : List β} {k : Nat} {x : β} (h : k < l.length) : (l.set k x).take (k + 1) = l.take k ++ [x] := by
  rw [List.take_succ_eq_append_getElem (by simpa using h), List.take_set_of_le (Nat.le_refl k)]
  simp
def validB (b : DB) : Bool := decide (1 ≤ b.1) && decide (b.1 ≤ 20) && (decide (1900 ≤ b.2) && decide (b.2 ≤ 2099))
/-- Whole numbers of their kinds. -/
def wB (b : DB) : Prop := 0 ≤ b.1 ∧ b.1 ≤ 255 ∧ -32768 ≤ b.2 ∧ b.2 ≤ 32767
def wS (s : DS) : Prop := wB s.1 ∧ -32768 ≤ s.2 ∧ s.2 ≤ 32767
def wL (l : List DS) : Prop := PL l ∧ ∀ s, s ∈ l → wS s
def wR (r : List (List DS)) : Prop := Bd r ∧ ∀ l, l ∈ r → ∀ s, s ∈ l → wS s
theorem wR.at {r : List (List DS)} (h : wR r) {k : Nat} (hk : k < r.length) : wL r[k] := ⟨h.1.pl hk, h.2 _ (List.getElem_mem hk)⟩
theorem wL.at {l : List DS} (h : wL l) {k : Nat} (hk : k < l.length) : wS l[k] := h.2 _ (List.getElem_mem hk)
theorem s_l00In : spec_l00In.S (tot fun x => decide (x.2.1 ≤ x.1) && decide (x.1 ≤ x.2.2)) := spec_l00In.of_tot fun x k => by
  unfold spec_l00In.pf
  by_cases c : x.2.1 ≤ x.1
  · rw [decT (show x.1 ≥ x.2.1 from c)]; rfl
  · rw [decF (show ¬ x.1 ≥ x.2.1 from c)]; rfl
theorem s_within : impl_within.S (tot fun x => decide (x.2.1 ≤ x.1) && decide (x.1 ≤ x.2.2)) := impl_within.of_tot fun x k => by
  unfold impl_within.pf
  by_cases c : x.2.1 ≤ x.1
  · rw [decT c]; rfl
  · rw [decF c]; rfl
theorem s_l01Bottle : spec_l01Bottle.S (cl wB validB) := spec_l01Bottle.of_cl s_l00In fun x ⟨h1, h2, h3, h4⟩ k => by
  unfold spec_l01Bottle.pf validB
  simp only [tot_eq, Option.bind_some, w64 (n := x.1) (by omega) (by omega), w64 (n := x.2) (by omega) (by omega)]
  cases decide (1 ≤ x.1) && decide (x.1 ≤ 20) <;> rfl
theorem s_ValidBottle : impl_ValidBottle.S (cl wB validB) := impl_ValidBottle.of_cl s_within fun x ⟨h1, h2, h3, h4⟩ k => by
  unfold impl_ValidBottle.pf validB
  simp only [tot_eq, Option.bind_some, w64 (n := x.1) (by omega) (by omega), w64 (n := x.2) (by omega) (by omega)]
  cases decide (1 ≤ x.1) && decide (x.1 ≤ 20) <;> rfl
theorem any_not {β : Type} (l : List β) (p : β → Bool) : (l.any fun x => !p x) = !l.all p := by
  induction l with
  | nil => rfl
  | cons x l ih => rw [List.any_cons, List.all_cons, ih, Bool.not_and]
/-- Where the first one is. -/
def indexI {β : Type} (p : β → Bool) (l : List β) : Int := match l.findIdx? p with
  | some i => i
  | none => -1
theorem firstOr_index {α β : Type} (p : β → Bool) (k : Int → Option α) : ∀ (l : List β) (j : Nat), firstOr p (fun i _ => k (i : Int)) (k (-1)) j l = k (match l.findIdx? p with | some i => ((j + i : Nat) : Int) | none => -1)
  | [], _ => rfl
  | x :: l, j => by
    rw [firstOr, List.findIdx?_cons]
    cases p x with
    | true => simp
    | false =>
      rw [cond_false, firstOr_index p k l]
      cases l.findIdx? p with
      | none => rfl
      | some i => simp [Nat.add_assoc, Nat.add_comm 1 i]
theorem indexI_nn {β : Type} (p : β → Bool) (l : List β) : decide (indexI p l ≥ 0) = l.any p := by
  unfold indexI
  cases h : l.findIdx? p with
  | none =>
    have := List.findIdx?_eq_none_iff.1 h
    simp only
    rw [decF (by omega)]
    symm
    rw [List.any_eq_false]
    intro x hx
    simpa using this x hx
  | some i =>
    simp only
    rw [decT (by omega)]
    symm
    obtain ⟨hi, hp, _⟩ := List.findIdx?_eq_some_iff_getElem.1 h
    exact List.any_eq_true.2 ⟨_, List.getElem_mem hi, hp⟩
theorem good_B {b : DB} (h : goodV (.st (.pair (.int .u8) (.int .i16))) b) : wB b := by
  obtain ⟨h1, h2⟩ := h
  simp only [goodV, Lit.wf, IntKind.min, IntKind.max, IntKind.bits, IntKind.signed] at h1 h2
  simp at h1 h2
  unfold wB
  omega
def codeOf (a b : Bool) : Int := cond a (cond b 0 2) 1
theorem s_codeOf : impl_codeOf.S (tot fun x => codeOf x.1 x.2) := impl_codeOf.of_tot fun x k => by
  obtain ⟨a, b⟩ := x
  unfold impl_codeOf.pf codeOf
  cases a <;> cases b <;> rfl
theorem bneS (a : Int) : (a != a) = false := by simp
theorem okS {n : Nat} (h : n ≤ 4294967296) : okL n = true := okL_true h
theorem codeOf_cases (a b : Bool) : (codeOf a b = 0 ∧ a = true ∧ b = true) ∨ codeOf a b ≠ 0 := by cases a <;> cases b <;> simp [codeOf]
/-- Few lanes, each of them short. -/
def Few (o : List (List DS)) : Prop := o.length ≤ 8 ∧ ∀ x, x ∈ o → x.length ≤ 6
theorem Few.at {o : List (List DS)} (h : Few o) {n : Nat} (hn : n < o.length) : o[n].length ≤ 6 := h.2 _ (List.getElem_mem hn)
theorem Few.set {o : List (List DS)} (h : Few o) {n : Nat} {x : List DS} (hx : x.length ≤ 6) : Few (o.set n x) := ⟨by rw [List.length_set]; exact h.1, fun y hy => by
  rcases List.mem_or_eq_of_mem_set hy with q | rfl
  · exact h.2 y q
  · exact hx⟩
/-- What is left of some when those are gone that a test tells, and what lies behind it. -/
def keptOf {β : Type} (d : β) (p : β → Bool) (l : List β) : Option (Nat × Nat) × List β :=
  if l.any p = true then (some (0, (l.filter fun x => !p x).length), (l.filter fun x => !p x) ++ List.replicate (l.length - (l.filter fun x => !p x).length) d) else (none, l)
theorem kept_cut {β : Type} (d : β) (p : β → Bool) (l : List β) : Win.cut (keptOf d p l).1 (keptOf d p l).2 = l.filter fun x => !p x := by
  unfold keptOf
  by_cases c : l.any p = true
  · rw [if_pos c]
    simp [Win.cut]
  · rw [if_neg c]
    symm
    show l.filter _ = l
    rw [List.filter_eq_self]
    intro x hx
    simp only [List.any_eq_true, not_exists, not_and, Bool.not_eq_true] at c
    simp [c x hx]
theorem s_szBottleS : laws_szBottleS.S (cl (fun x => x.1.length ≤ maxLen ∧ 0 ≤ x.2 ∧ x.2 ≤ 1048576) fun x => if x.2 < x.1.length then -1 else x.2 - x.1.length) :=
  laws_szBottleS.of_cl fun x ⟨h1, h2, h3⟩ k => by
    unfold maxLen at h1
    unfold laws_szBottleS.pf
    rw [w64 (by omega) (by omega)]
    by_cases c : x.2 < x.1.length
    · rw [decT (by omega), if_pos c]; rfl
    · rw [decF (by omega), if_neg c]; rfl
def PszB (x : List DB × Int) : Prop := x.1.length ≤ maxLen ∧ 0 ≤ x.2 ∧ x.2 ≤ 1048576
def vszB (x : List DB × Int) : Int := if x.2 < x.1.length then -1 else x.2 - x.1.length
theorem s_szBottleS' : laws_szBottleS.S (cl PszB vszB) := s_szBottleS
theorem s_toBottleS : laws_toBottleS.S (cl PL fun l => l) := laws_toBottleS.of_cl s_toBottle fun l h k => by
  have h : l.length ≤ 1073741824 := h
  unfold laws_toBottleS.pf
  rw [inW_true (by omega) (by omega) (by unfold LIM; omega)]
  simp only [cond_true]
  refine (iter_list (B := laws_toBottleS.B1 (tot fun x => x) l fun x1 => k x1.2) l (fun i (c : List DB) => ((i : Int), c)) (fun _ _ => k l) (fun i c => c.length = l.length ∧ c.take i = l.take i) (c := List.replicate l.length (0, 0)) (by simp) (big_lt (by omega)) (by simp) ?_ ?_)
  · rintro i hi c rec ⟨h1, h2⟩ hrec
    unfold laws_toBottleS.B1
    simp only [decT (show (i : Int) < (l.length : Int) by omega), inB_nat hi, inB_nat (h1 ▸ hi : i < c.length), cond_true, Int.toNat_natCast, getD_lt hi, tot_eq, Option.bind_some, w64n (show i < 9223372036854775807 by omega)]
    have := copied (d := ((0, 0) : DB)) hi h1 h2
    exact hrec _ ⟨this.2, this.1⟩
  · rintro c rec ⟨h1, h2⟩
    unfold laws_toBottleS.B1
    rw [decF (by omega)]
    rw [List.take_of_length_le (by omega), List.take_of_length_le (Nat.le_refl _)] at h2
    simp only [cond_false, h2]
theorem s_eqBottleS : laws_eqBottleS.S (cl PL1 fun x => decide (x.1 = x.2)) := laws_eqBottleS.of_cl s_eqBottle fun x h k => by
  obtain ⟨a, b⟩ := x
  have h : a.length ≤ 1073741824 := h
  show laws_eqBottleS.pf _ BIG a b k = k (decide (a = b))
  unfold laws_eqBottleS.pf
  by_cases c : a.length = b.length
  · rw [show (((a.length : Nat) : Int) != ((b.length : Nat) : Int)) = false by simp [c], cond_false]
    have hz : (a.zip b).length = a.length := by simp [c]
    rw [iter_first (a.zip b) (fun i => (i : Int)) (fun p => !decide (p.1 = p.2)) (fun _ _ => k false) (k true) (x := 0) rfl (big_lt (by omega)) ?_ ?_, firstOr_const, any_eq a b c]
    · by_cases e : a = b <;> simp [e]
    · intro i hi rec
      have h1 : i < a.length := by omega
      have h2 : i < b.length := by omega
      unfold laws_eqBottleS.B1
      rw [zip_at hi]
      simp only [decT (show (i : Int) < (a.length : Int) by omega), inB_nat h1, inB_nat h2, cond_true, Int.toNat_natCast, getD_lt h1, getD_lt h2, tot_eq, Option.bind_some, w64n (show i < 9223372036854775807 by omega)]
    · intro rec
      unfold laws_eqBottleS.B1
      rw [decF (by omega)]
      rfl
  · rw [show (((a.length : Nat) : Int) != ((b.length : Nat) : Int)) = true by simpa using fun q => c (by omega), cond_true]
    rw [decF (fun e => c (by rw [e]))]
def wBs (l : List DB) : Prop := l.length ≤ 1073741824 ∧ ∀ b, b ∈ l → wB b
/-- All that lies in a rack. -/
def AllIn (Q : DS → Prop) (o : List (List DS)) : Prop := ∀ l, l ∈ o → ∀ s, s ∈ l → Q s
theorem AllIn.set {Q : DS → Prop} {o : List (List DS)} (h : AllIn Q o) {n : Nat} {x : List DS} (hx : ∀ s, s ∈ x → Q s) : AllIn Q (o.set n x) := fun l hl s hs => by
  rcases List.mem_or_eq_of_mem_set hl with q | rfl
  · exact h l q s hs
  · exact hx s hs
theorem AllIn.at {Q : DS → Prop} {o : List (List DS)} (h : AllIn Q o) {n : Nat} (hn : n < o.length) : ∀ s, s ∈ o.getD n [] → Q s := fun s hs => by
  rw [getD_lt hn] at hs
  exact h _ (List.getElem_mem hn) s hs
def gB (l : List DB) : Prop := l.length ≤ maxLen ∧ ∀ b, b ∈ l → wB b
theorem good_Bs {e : TypeId} {l : List DB} (h : goodV (.row e (.st (.pair (.int .u8) (.int .i16)))) l) : gB l := by
  obtain ⟨h1, h2⟩ := h
  refine ⟨h1, fun s hs => ?_⟩
  obtain ⟨i, hi, rfl⟩ := List.mem_iff_getElem.1 hs
  have := h2 i hi
  rw [getD_lt hi] at this
  exact good_B this
theorem szB_ok {l : List DB} {n : Int} (h : ¬ vszB (l, n) < 0) (h1 : n ≤ 1048576) : l.length ≤ 1048576 := by
  unfold vszB at h
  simp only at h
  by_cases c : n < l.length
  · rw [if_pos c] at h; omega
  · omega
/-- A crate: twelve places. -/
def Cr (c : List DB) : Prop := c.length = 12
def CrS (s : List (List DB)) : Prop := s.length ≤ 1073741824 ∧ ∀ c, c ∈ s → c.length = 12
theorem CrS.at {s : List (List DB)} (h : CrS s) {i : Nat} (hi : i < s.length) : Cr s[i] := h.2 _ (List.getElem_mem hi)
theorem s_toCrate : laws_toCrate.S (cl Cr fun c => c) := laws_toCrate.of_cl s_toBottle fun l h k => by
  have h : l.length = 12 := h
  unfold laws_toCrate.pf
  refine (iter_list (B := laws_toCrate.B1 (tot fun x => x) l (List.replicate 12 (0, 0)) fun x1 => k x1.2) l (fun i (c : List DB) => ((i : Int), c)) (fun _ _ => k l) (fun i c => c.length = l.length ∧ c.take i = l.take i) (c := List.replicate 12 (0, 0)) (by simp) (big_lt (by omega)) (by simp [h]) ?_ ?_)
  · rintro i hi c rec ⟨h1, h2⟩ hrec
    unfold laws_toCrate.B1
    simp only [decT (show (i : Int) < 12 by omega), inB_nat (show i < 12 by omega), cond_true, Int.toNat_natCast, getD_lt hi, tot_eq, Option.bind_some, w64n (show i < 9223372036854775807 by omega)]
    have := copied (d := ((0, 0) : DB)) hi h1 h2
    exact hrec _ ⟨this.2, this.1⟩
  · rintro c rec ⟨h1, h2⟩
    unfold laws_toCrate.B1
    rw [decF (by simp only; omega)]
    rw [List.take_of_length_le (by omega), List.take_of_length_le (Nat.le_refl _)] at h2
    simp only [cond_false, h2]
theorem s_toCrateS : laws_toCrateS.S (cl CrS fun s => s) := laws_toCrateS.of_cl s_toCrate fun l h k => by
  have hl : l.length ≤ 1073741824 := h.1
  unfold laws_toCrateS.pf
  rw [inW_true (by omega) (by omega) (by unfold LIM; omega)]
  simp only [cond_true]
  refine (iter_list (B := laws_toCrateS.B1 (cl Cr fun c => c) l fun x1 => k x1.2) l (fun i (c : List (List DB)) => ((i : Int), c)) (fun _ _ => k l) (fun i c => c.length = l.length ∧ c.take i = l.take i) (c := List.replicate l.length (List.replicate 12 (0, 0))) (by simp) (big_lt (by omega)) (by simp) ?_ ?_)
  · rintro i hi c rec ⟨h1, h2⟩ hrec
    unfold laws_toCrateS.B1
    simp only [decT (show (i : Int) < (l.length : Int) by omega), inB_nat hi, inB_nat (h1 ▸ hi : i < c.length), cond_true, Int.toNat_natCast, getD_lt hi, cl_eq (h.at hi), Option.bind_some, w64n (show i < 9223372036854775807 by omega)]
    have := copied (d := (List.replicate 12 (0, 0) : List DB)) hi h1 h2
    exact hrec _ ⟨this.2, this.1⟩
  · rintro c rec ⟨h1, h2⟩
    unfold laws_toCrateS.B1
    rw [decF (by simp only; omega)]
    rw [List.take_of_length_le (by omega), List.take_of_length_le (Nat.le_refl _)] at h2
    simp only [cond_false, h2]
def PszC (x : List (List DB) × Int) : Prop := x.1.length ≤ maxLen ∧ 0 ≤ x.2 ∧ x.2 ≤ 1048576
def vszC (x : List (List DB) × Int) : Int := if x.2 < x.1.length then -1 else x.2 - x.1.length
theorem s_szCrateS : laws_szCrateS.S (cl PszC vszC) :=
  laws_szCrateS.of_cl fun x ⟨h1, h2, h3⟩ k => by
    unfold maxLen at h1
    unfold laws_szCrateS.pf vszC
    rw [w64 (by omega) (by omega)]
    by_cases c : x.2 < x.1.length
    · rw [decT (by omega), if_pos c]; rfl
    · rw [decF (by omega), if_neg c]; rfl
def Cr2 (x : List DB × List DB) : Prop := Cr x.1 ∧ Cr x.2
theorem s_eqCrate : laws_eqCrate.S (cl Cr2 fun x => decide (x.1 = x.2)) := laws_eqCrate.of_cl s_eqBottle fun x h k => by
  obtain ⟨a, b⟩ := x
  obtain ⟨ha, hb⟩ := h
  have ha : a.length = 12 := ha
  have hb : b.length = 12 := hb
  show laws_eqCrate.pf _ BIG a b k = k (decide (a = b))
  unfold laws_eqCrate.pf
  have hz : (a.zip b).length = 12 := by simp [ha, hb]
  rw [iter_first (a.zip b) (fun i => (i : Int)) (fun p => !decide (p.1 = p.2)) (fun _ _ => k false) (k true) (x := 0) rfl (big_lt (by omega)) ?_ ?_, firstOr_const, any_eq a b (by omega)]
  · by_cases e : a = b <;> simp [e]
  · intro i hi rec
    have h1 : i < a.length := by omega
    have h2 : i < b.length := by omega
    unfold laws_eqCrate.B1
    rw [zip_at hi]
    simp only [decT (show (i : Int) < 12 by omega), inB_nat (show i < 12 by omega), cond_true, Int.toNat_natCast, getD_lt h1, getD_lt h2, tot_eq, Option.bind_some, w64n (show i < 9223372036854775807 by omega)]
  · intro rec
    unfold laws_eqCrate.B1
    rw [hz, decF (by omega)]
    rfl
def CrS2 (x : List (List DB) × List (List DB)) : Prop := CrS x.1 ∧ CrS x.2
theorem s_eqCrateS : laws_eqCrateS.S (cl CrS2 fun x => decide (x.1 = x.2)) := laws_eqCrateS.of_cl s_eqCrate fun x h k => by
  obtain ⟨a, b⟩ := x
  obtain ⟨ha, hb⟩ := h
  simp only at ha hb
  have hl := ha.1
  show laws_eqCrateS.pf _ BIG a b k = k (decide (a = b))
  unfold laws_eqCrateS.pf
  by_cases c : a.length = b.length
  · rw [show (((a.length : Nat) : Int) != ((b.length : Nat) : Int)) = false by simp [c], cond_false]
    have hz : (a.zip b).length = a.length := by simp [c]
    rw [iter_first (a.zip b) (fun i => (i : Int)) (fun p => !decide (p.1 = p.2)) (fun _ _ => k false) (k true) (x := 0) rfl (big_lt (by omega)) ?_ ?_, firstOr_const, any_eq a b c]
    · by_cases e : a = b <;> simp [e]
    · intro i hi rec
      have h1 : i < a.length := by omega
      have h2 : i < b.length := by omega
      unfold laws_eqCrateS.B1
      rw [zip_at hi]
      simp only [decT (show (i : Int) < (a.length : Int) by omega), inB_nat h1, inB_nat h2, cond_true, Int.toNat_natCast, getD_lt h1, getD_lt h2, cl_eq (show Cr2 (a[i], b[i]) from ⟨ha.at h1, hb.at h2⟩), Option.bind_some, w64n (show i < 9223372036854775807 by omega)]
    · intro rec
      unfold laws_eqCrateS.B1
      rw [decF (by omega)]
      rfl
  · rw [show (((a.length : Nat) : Int) != ((b.length : Nat) : Int)) = true by simpa using fun q => c (by omega), cond_true]
    rw [decF (fun e => c (by rw [e]))]
theorem s_cloneB : slices_Clone_impl_Bottle_impl_Bottle.S (cl PL fun l => l) := slices_Clone_impl_Bottle_impl_Bottle.of_cl fun l h k => by
  have h : l.length ≤ 1073741824 := h
  unfold slices_Clone_impl_Bottle_impl_Bottle.pf
  simp only [List.nil_append, List.length_nil]
  rw [okS (by omega)]
  cases l with
  | nil => exact both_same _
  | cons x l => rfl

theorem s_l01Free : spec_l01Free.S (tot fun b => decide (b = (0, 0))) := spec_l01Free.of_tot fun b k => by
  unfold spec_l01Free.pf
  rw [eqB]
def okB (b : DB) : Bool := decide (b = (0, 0)) || validB b
def crateOk (c : List DB) : Bool := c.all okB
def stackOk (s : List (List DB)) : Bool := decide (s.length ≤ 12) && s.all crateOk
def wC (c : List DB) : Prop := c.length = 12 ∧ ∀ b, b ∈ c → wB b
def wCs (s : List (List DB)) : Prop := CrS s ∧ ∀ c, c ∈ s → ∀ b, b ∈ c → wB b
theorem wCs.at {s : List (List DB)} (h : wCs s) {i : Nat} (hi : i < s.length) : wC s[i] := ⟨h.1.at hi, h.2 _ (List.getElem_mem hi)⟩
theorem s_l01Ok : spec_l01Ok.S (cl wC crateOk) := spec_l01Ok.of_cl s_l01Free s_l01Bottle fun c h k => by
  obtain ⟨hl, hw⟩ := h
  unfold spec_l01Ok.pf
  rw [iter_first c (fun i => (i : Int)) (fun b => !okB b) (fun _ _ => k false) (k true) (x := 0) rfl (big_lt (by omega)) ?_ ?_, firstOr_const, any_not]
  · unfold crateOk
    cases c.all okB <;> rfl
  · intro i hi rec
    unfold spec_l01Ok.B1
    simp only [decT (show (i : Int) < 12 by omega), inB_nat (show i < 12 by omega), cond_true, Int.toNat_natCast, getD_lt hi, tot_eq, cl_eq (hw _ (List.getElem_mem hi)), Option.bind_some, w64n (show i < 9223372036854775807 by omega), okB]
    cases decide (c[i] = (0, 0)) <;> cases validB c[i] <;> rfl
  · intro rec
    unfold spec_l01Ok.B1
    rw [decF (by omega)]
    rfl
theorem s_l01Stack : spec_l01Stack.S (cl wCs stackOk) := spec_l01Stack.of_cl s_l01Ok fun s h k => by
  have hl := h.1.1
  unfold spec_l01Stack.pf
  rw [iter_first s (fun i => (i : Int)) (fun c => !crateOk c) (fun _ _ => k false) (k (decide ((s.length : Int) ≤ 12))) (x := 0) rfl (big_lt (by omega)) ?_ ?_, firstOr_const, any_not]
  · unfold stackOk
    cases s.all crateOk with
    | false => simp
    | true =>
      rw [Bool.and_true]
      show k _ = k _
      congr 1
      exact decide_eq_decide.2 (by omega)
  · intro i hi rec
    unfold spec_l01Stack.B1
    simp only [decT (show (i : Int) < (s.length : Int) by omega), inB_nat hi, cond_true, Int.toNat_natCast, getD_lt hi, cl_eq (h.at hi), Option.bind_some, w64n (show i < 9223372036854775807 by omega)]
  · intro rec
    unfold spec_l01Stack.B1
    rw [decF (by omega)]
    rfl
/-- How many are told by a test. -/
def countI {β : Type} (p : β → Bool) : List β → Int
  | [] => 0
  | x :: l => cond (p x) 1 0 + countI p l
theorem countI_le {β : Type} (p : β → Bool) : ∀ (l : List β), 0 ≤ countI p l ∧ countI p l ≤ l.length
  | [] => ⟨by simp [countI], by simp [countI]⟩
  | x :: l => by
    have := countI_le p l
    unfold countI
    cases p x <;> simp <;> omega
theorem s_l03Stray : spec_l03Stray.S (cl (fun x => Cr x.1) fun x => countI (fun b => !decide (b = (0, 0)) && !decide (b = x.2)) x.1) := spec_l03Stray.of_cl s_l01Free fun x h k => by
  obtain ⟨c, b⟩ := x
  have hl : c.length = 12 := h
  show spec_l03Stray.pf _ BIG c b k = k (countI (fun x => !decide (x = (0, 0)) && !decide (x = b)) c)
  unfold spec_l03Stray.pf
  refine (iter_list c (fun p (n : Int) => (n, (p : Int))) (fun q n => k (n + countI (fun x => !decide (x = (0, 0)) && !decide (x = b)) q)) (fun p n => 0 ≤ n ∧ n ≤ p) (c := 0) rfl (big_lt (by omega)) ⟨by omega, by omega⟩ ?_ ?_).trans (by rw [Int.zero_add])
  · rintro p hp n rec ⟨h1, h2⟩ hrec
    unfold spec_l03Stray.B1
    simp only [decT (show (p : Int) < 12 by omega), inB_nat (show p < 12 by omega), cond_true, Int.toNat_natCast, getD_lt hp, tot_eq, Option.bind_some, eqB, w64n (show p < 9223372036854775807 by omega), w64 (show -9223372036854775808 ≤ n + 1 by omega) (by omega), countI]
    by_cases q1 : c[p] = (0, 0)
    · rw [decT q1]
      exact (hrec _ (by omega)).trans (by simp)
    · rw [decF q1]
      by_cases q2 : c[p] = b
      · rw [decT q2]
        exact (hrec _ (by omega)).trans (by simp)
      · rw [decF q2]
        exact (hrec _ (by omega)).trans (by simp [Int.add_assoc])
  · rintro n rec _
    unfold spec_l03Stray.B1
    rw [decF (by simp only; omega)]
    simp [countI]
def sumStray : List (List DB) → List DB → Int
  | c :: s, b :: l => countI (fun x => !decide (x = (0, 0)) && !decide (x = b)) c + sumStray s l
  | _, _ => 0
def strayIn (s : List (List DB)) (l : List DB) : Int × Int :=
  if codeOf (stackOk s && l.all validB) (decide (l.length = s.length)) ≠ 0 then (0, codeOf (stackOk s && l.all validB) (decide (l.length = s.length))) else (sumStray s l, 0)
def PStr (x : List (List DB) × List DB) : Prop := wCs x.1 ∧ wBs x.2
theorem sumZip : ∀ (s : List (List DB)) (l : List DB), sumStray s l = ((s.zip l).map fun q => countI (fun x => !decide (x = (0, 0)) && !decide (x = q.2)) q.1).sum
  | [], l => by simp [sumStray]
  | c :: s, [] => by simp [sumStray]
  | c :: s, b :: l => by rw [sumStray, sumZip s l]; simp
abbrev strayB (q : List DB × DB) : Int := countI (fun x => !decide (x = (0, 0)) && !decide (x = q.2)) q.1
theorem strayB_le {q : List DB × DB} (h : q.1.length = 12) : 0 ≤ strayB q ∧ strayB q ≤ 12 := by
  have := countI_le (fun x => !decide (x = (0, 0)) && !decide (x = q.2)) q.1
  unfold strayB
  omega
theorem s_spec_StrayIn : spec_StrayIn.S (cl PStr fun x => strayIn x.1 x.2) := spec_StrayIn.of_cl s_l01Stack s_l01Bottle s_l03Stray fun x h k => by
  obtain ⟨s, l⟩ := x
  obtain ⟨hw, hl, hb⟩ := h
  simp only at hw hl hb
  have hs := hw.1.1
  show spec_StrayIn.pf _ _ _ BIG s l k = k (strayIn s l)
  unfold spec_StrayIn.pf strayIn
  rw [cl_eq hw, Option.bind_some]
  refine (iter_list l (fun p (c : Bool) => (c, (p : Int))) (fun q c => k (if codeOf (c && q.all validB) (decide (l.length = s.length)) ≠ 0 then (0, codeOf (c && q.all validB) (decide (l.length = s.length))) else (sumStray s l, 0))) (fun p c => True) (c := stackOk s) rfl (big_lt (by omega)) trivial ?_ ?_)
  · rintro p hp c rec _ hrec
    unfold spec_StrayIn.B1
    simp only [decT (show (p : Int) < (l.length : Int) by omega), inB_nat hp, cond_true, Int.toNat_natCast, getD_lt hp, cl_eq (hb _ (List.getElem_mem hp)), Option.bind_some, w64n (show p < 9223372036854775807 by omega), List.all_cons]
    cases c with
    | true => rw [cond_true, hrec _ trivial]; simp only [Bool.true_and]
    | false => rw [cond_false, hrec _ trivial]; simp only [Bool.false_and]
  · rintro c rec _
    unfold spec_StrayIn.B1
    rw [decF (by simp)]
    simp only [cond_false, List.all_nil, Bool.and_true]
    cases c with
    | false => rfl
    | true =>
      simp only [Bool.not_true, cond_false]
      by_cases e : l.length = s.length
      · rw [bneF (by omega), cond_false, decT e, if_neg (by simp [codeOf])]
        have hz : (s.zip l).length = s.length := by simp [e]
        refine (iter_list (s.zip l) (fun p (n : Int) => (n, (p : Int))) (fun q n => k (n + (q.map strayB).sum, 0)) (fun p n => 0 ≤ n ∧ n ≤ 12 * p) (c := 0) rfl (big_lt (by omega)) ⟨by omega, by omega⟩ ?_ ?_).trans (by rw [Int.zero_add, sumZip])
        · rintro p hp n rec ⟨h1, h2⟩ hrec
          have hps : p < s.length := by omega
          have hpl : p < l.length := by omega
          have hc := hw.1.at hps
          have hsb := strayB_le (q := (s[p], l[p])) hc
          simp only [strayB] at hsb
          unfold spec_StrayIn.B2
          rw [zip_at hp]
          simp only [decT (show (p : Int) < (s.length : Int) by omega), inB_nat hps, inB_nat hpl, cond_true, Int.toNat_natCast, getD_lt hps, getD_lt hpl, cl_eq (P := fun x : List DB × DB => Cr x.1) (x := (s[p], l[p])) hc, Option.bind_some, w64n (show p < 9223372036854775807 by omega)]
          rw [w64 (by omega) (by omega)]
          exact (hrec _ (by omega)).trans (by rw [List.map_cons, List.sum_cons, Int.add_assoc])
        · rintro n rec _
          unfold spec_StrayIn.B2
          rw [decF (by simp only; omega)]
          simp
      · rw [bneT (by omega), decF e, if_pos (by simp [codeOf])]
        rfl

theorem s_StrayIn_1 : impl_StrayIn_1.S (cl wB fun s => !validB s) := impl_StrayIn_1.of_cl s_ValidBottle fun x h k => by
  unfold impl_StrayIn_1.pf
  rw [cl_eq h]; rfl
theorem s_index_str : slices_IndexFunc_impl_Bottle_impl_Bottle__impl_StrayIn_1.S (cl wBs fun l => indexI (fun s => !validB s) l) := slices_IndexFunc_impl_Bottle_impl_Bottle__impl_StrayIn_1.of_cl s_StrayIn_1 fun x h k => by
  have hl : x.length ≤ 1073741824 := h.1
  unfold slices_IndexFunc_impl_Bottle_impl_Bottle__impl_StrayIn_1.pf
  rw [iter_first x (fun i => (i : Int)) (fun s => !validB s) (fun i _ => k (i : Int)) (k (-1)) (x := 0) rfl (big_lt (by omega)) ?_ ?_, firstOr_index]
  · unfold indexI
    congr 1
    cases x.findIdx? (fun s => !validB s) <;> simp
  · intro i hi rec
    unfold slices_IndexFunc_impl_Bottle_impl_Bottle__impl_StrayIn_1.B1
    simp only [decT (show (i : Int) < (x.length : Int) by omega), inB_nat hi, cond_true, Int.toNat_natCast, getD_lt hi, cl_eq (h.2 _ (List.getElem_mem hi)), Option.bind_some, w64n (show i < 9223372036854775807 by omega)]
  · intro rec
    unfold slices_IndexFunc_impl_Bottle_impl_Bottle__impl_StrayIn_1.B1
    rw [decF (by omega)]
    rfl
theorem s_contains_str : slices_ContainsFunc_impl_Bottle_impl_Bottle__impl_StrayIn_1.S (cl wBs fun l => l.any (fun s => !validB s)) := slices_ContainsFunc_impl_Bottle_impl_Bottle__impl_StrayIn_1.of_cl s_index_str fun x h k => by
  unfold slices_ContainsFunc_impl_Bottle_impl_Bottle__impl_StrayIn_1.pf
  rw [cl_eq h, Option.bind_some, indexI_nn]
theorem s_ValidCrate_1 : impl_ValidCrate_1.S (cl wB fun s => !okB s) := impl_ValidCrate_1.of_cl s_ValidBottle fun x h k => by
  unfold impl_ValidCrate_1.pf okB
  rw [eqB]
  by_cases c : x = (0, 0)
  · rw [decT c]; rfl
  · rw [decF c, cl_eq h]; rfl
theorem s_index_vc : slices_IndexFunc_impl_Bottle_impl_Bottle__impl_ValidCrate_1.S (cl wBs fun l => indexI (fun s => !okB s) l) := slices_IndexFunc_impl_Bottle_impl_Bottle__impl_ValidCrate_1.of_cl s_ValidCrate_1 fun x h k => by
  have hl : x.length ≤ 1073741824 := h.1
  unfold slices_IndexFunc_impl_Bottle_impl_Bottle__impl_ValidCrate_1.pf
  rw [iter_first x (fun i => (i : Int)) (fun s => !okB s) (fun i _ => k (i : Int)) (k (-1)) (x := 0) rfl (big_lt (by omega)) ?_ ?_, firstOr_index]
  · unfold indexI
    congr 1
    cases x.findIdx? (fun s => !okB s) <;> simp
  · intro i hi rec
    unfold slices_IndexFunc_impl_Bottle_impl_Bottle__impl_ValidCrate_1.B1
    simp only [decT (show (i : Int) < (x.length : Int) by omega), inB_nat hi, cond_true, Int.toNat_natCast, getD_lt hi, cl_eq (h.2 _ (List.getElem_mem hi)), Option.bind_some, w64n (show i < 9223372036854775807 by omega)]
  · intro rec
    unfold slices_IndexFunc_impl_Bottle_impl_Bottle__impl_ValidCrate_1.B1
    rw [decF (by omega)]
    rfl
theorem s_contains_vc : slices_ContainsFunc_impl_Bottle_impl_Bottle__impl_ValidCrate_1.S (cl wBs fun l => l.any (fun s => !okB s)) := slices_ContainsFunc_impl_Bottle_impl_Bottle__impl_ValidCrate_1.of_cl s_index_vc fun x h k => by
  unfold slices_ContainsFunc_impl_Bottle_impl_Bottle__impl_ValidCrate_1.pf
  rw [cl_eq h, Option.bind_some, indexI_nn]
theorem wC.bs {c : List DB} (h : wC c) : wBs c := ⟨by have := h.1; omega, h.2⟩
theorem s_ValidCrate : impl_ValidCrate.S (cl wC crateOk) := impl_ValidCrate.of_cl s_contains_vc fun x h k => by
  unfold impl_ValidCrate.pf crateOk
  rw [cl_eq h.bs, Option.bind_some, any_not, Bool.not_not]
theorem s_ValidStack_1 : impl_ValidStack_1.S (cl wC fun c => !crateOk c) := impl_ValidStack_1.of_cl s_ValidCrate fun x h k => by
  unfold impl_ValidStack_1.pf
  rw [cl_eq h]; rfl
theorem s_index_vs : slices_IndexFunc_impl_Crate_impl_Crate__impl_ValidStack_1.S (cl wCs fun l => indexI (fun c => !crateOk c) l) := slices_IndexFunc_impl_Crate_impl_Crate__impl_ValidStack_1.of_cl s_ValidStack_1 fun x h k => by
  have hl : x.length ≤ 1073741824 := h.1.1
  unfold slices_IndexFunc_impl_Crate_impl_Crate__impl_ValidStack_1.pf
  rw [iter_first x (fun i => (i : Int)) (fun c => !crateOk c) (fun i _ => k (i : Int)) (k (-1)) (x := 0) rfl (big_lt (by omega)) ?_ ?_, firstOr_index]
  · unfold indexI
    congr 1
    cases x.findIdx? (fun c => !crateOk c) <;> simp
  · intro i hi rec
    unfold slices_IndexFunc_impl_Crate_impl_Crate__impl_ValidStack_1.B1
    simp only [decT (show (i : Int) < (x.length : Int) by omega), inB_nat hi, cond_true, Int.toNat_natCast, getD_lt hi, cl_eq (h.at hi), Option.bind_some, w64n (show i < 9223372036854775807 by omega)]
  · intro rec
    unfold slices_IndexFunc_impl_Crate_impl_Crate__impl_ValidStack_1.B1
    rw [decF (by omega)]
    rfl
theorem s_contains_vs : slices_ContainsFunc_impl_Crate_impl_Crate__impl_ValidStack_1.S (cl wCs fun l => l.any (fun c => !crateOk c)) := slices_ContainsFunc_impl_Crate_impl_Crate__impl_ValidStack_1.of_cl s_index_vs fun x h k => by
  unfold slices_ContainsFunc_impl_Crate_impl_Crate__impl_ValidStack_1.pf
  rw [cl_eq h, Option.bind_some, indexI_nn]
theorem s_ValidStack : impl_ValidStack.S (cl wCs stackOk) := impl_ValidStack.of_cl s_contains_vs fun x h k => by
  unfold impl_ValidStack.pf stackOk
  by_cases c : x.length ≤ 12
  · rw [decT (show ((x.length : Int) ≤ 12) by omega), decT c, cond_true, cl_eq h, Option.bind_some, any_not, Bool.not_not, Bool.true_and]
  · rw [decF (show ¬ ((x.length : Int) ≤ 12) by omega), decF c]; rfl
theorem s_bottles_1 : impl_Crate_bottles_1.S (tot fun b => decide (b = (0, 0))) := impl_Crate_bottles_1.of_tot fun x k => by
  unfold impl_Crate_bottles_1.pf
  rw [eqB]
theorem s_index_cb : slices_IndexFunc_impl_Bottle_impl_Bottle__impl_Crate_bottles_1.S (cl PL fun l => indexI (fun b => decide (b = (0, 0))) l) := slices_IndexFunc_impl_Bottle_impl_Bottle__impl_Crate_bottles_1.of_cl s_bottles_1 fun x h k => by
  have hl : x.length ≤ 1073741824 := h
  unfold slices_IndexFunc_impl_Bottle_impl_Bottle__impl_Crate_bottles_1.pf
  rw [iter_first x (fun i => (i : Int)) (fun b => decide (b = (0, 0))) (fun i _ => k (i : Int)) (k (-1)) (x := 0) rfl (big_lt (by omega)) ?_ ?_, firstOr_index]
  · unfold indexI
    congr 1
    cases x.findIdx? (fun b => decide (b = (0, 0))) <;> simp
  · intro i hi rec
    unfold slices_IndexFunc_impl_Bottle_impl_Bottle__impl_Crate_bottles_1.B1
    simp only [decT (show (i : Int) < (x.length : Int) by omega), inB_nat hi, cond_true, Int.toNat_natCast, getD_lt hi, tot_eq, Option.bind_some, w64n (show i < 9223372036854775807 by omega)]
  · intro rec
    unfold slices_IndexFunc_impl_Bottle_impl_Bottle__impl_Crate_bottles_1.B1
    rw [decF (by omega)]
    rfl
theorem s_delete_cb : slices_DeleteFunc_impl_Bottle_impl_Bottle__impl_Crate_bottles_1.S (cl PL fun l => keptOf (0, 0) (fun b => decide (b = (0, 0))) l) := slices_DeleteFunc_impl_Bottle_impl_Bottle__impl_Crate_bottles_1.of_cl s_index_cb s_bottles_1 fun l h k => by
  have hl : l.length ≤ 1073741824 := h
  show slices_DeleteFunc_impl_Bottle_impl_Bottle__impl_Crate_bottles_1.pf _ _ BIG l k = k (keptOf (0, 0) (fun b => decide (b = (0, 0))) l)
  unfold slices_DeleteFunc_impl_Bottle_impl_Bottle__impl_Crate_bottles_1.pf
  rw [cl_eq h, Option.bind_some]
  generalize hp : (fun b : DB => decide (b = (0, 0))) = p
  unfold indexI keptOf
  cases hf : l.findIdx? p with
  | none =>
    have := List.findIdx?_eq_none_iff.1 hf
    rw [if_neg (by simpa using this)]
    rfl
  | some i =>
    obtain ⟨hi, hpi, hbef⟩ := List.findIdx?_eq_some_iff_getElem.1 hf
    rw [if_pos (List.any_eq_true.2 ⟨_, List.getElem_mem hi, hpi⟩)]
    simp only
    rw [beqF (by omega), cond_false, w64n (by omega)]
    have h0 : (l.take i).filter (fun x => !p x) = l.take i := by
      rw [List.filter_eq_self]
      intro x hx
      obtain ⟨j, hj, rfl⟩ := List.mem_iff_getElem.1 hx
      have hj' : j < i := by simp at hj; omega
      have := hbef j hj'
      simpa using this
    have h1 : (l.take (i + 1)).filter (fun x => !p x) = l.take i := by
      rw [List.take_succ_eq_append_getElem hi, List.filter_append, h0]
      simp [hpi]
    have := iter_fold (B := slices_DeleteFunc_impl_Bottle_impl_Bottle__impl_Crate_bottles_1.B1 (tot p) fun (x1 : Int × Int × List DB) => cond (inW x1.1 (((List.length x1.2.2) : Nat) : Int) (List.length x1.2.2)) (cond (inW 0 x1.1 (List.length (overL x1.2.2 x1.1.toNat (List.replicate ((((List.length x1.2.2) : Nat) : Int) - x1.1).toNat (0, 0))))) (k ((some (0, (x1.1 - 0).toNat)), (overL x1.2.2 x1.1.toNat (List.replicate ((((List.length x1.2.2) : Nat) : Int) - x1.1).toNat (0, 0))))) none) none)
      l (fun j (c : List DB) => ((((l.take j).filter fun x => !p x).length : Int), (j : Int), c)) (fun _ _ => k (some (0, (l.filter fun x => !p x).length), (l.filter fun x => !p x) ++ List.replicate (l.length - (l.filter fun x => !p x).length) (0, 0))) (fun j c => c.length = l.length ∧ c.drop j = l.drop j ∧ c.take ((l.take j).filter fun x => !p x).length = (l.take j).filter fun x => !p x) ?_ ?_ (l.length - (i + 1)) (i + 1) l BIG (by omega) (big_lt (by omega)) ⟨rfl, rfl, by rw [h1]; simp⟩
    · rw [h1, List.length_take, Nat.min_eq_left (by omega)] at this
      exact this
    · rintro j hj c rec ⟨e1, e2, e3⟩ hrec
      have hjc : j < c.length := by omega
      have hcj : c[j] = l[j] := by
        have := congrArg (fun z => z[0]?) e2
        simpa [hjc, hj] using this
      have hm : ((l.take j).filter fun x => !p x).length ≤ j := by
        have := List.length_filter_le (fun x => !p x) (l.take j)
        rw [List.length_take] at this
        omega
      have ht : (l.take (j + 1)).filter (fun x => !p x) = (l.take j).filter (fun x => !p x) ++ if p l[j] = true then [] else [l[j]] := by
        rw [List.take_succ_eq_append_getElem hj, List.filter_append]
        cases hq : p l[j] <;> simp [hq]
      unfold slices_DeleteFunc_impl_Bottle_impl_Bottle__impl_Crate_bottles_1.B1
      simp only [e1, decT (show (j : Int) < (l.length : Int) by omega), inB_nat hj, cond_true, Int.toNat_natCast, getD_lt hjc, hcj, tot_eq, Option.bind_some, w64n (show j < 9223372036854775807 by omega)]
      cases hq : p l[j] with
      | true =>
        rw [hq, if_pos rfl, List.append_nil] at ht
        have := hrec c ⟨e1, by
          have := congrArg (List.drop 1) e2
          simpa [List.drop_drop, Nat.add_comm] using this, by rw [ht]; exact e3⟩
        rw [ht] at this
        exact this
      | false =>
        rw [hq] at ht
        simp only [Bool.false_eq_true, if_false] at ht
        have hlen : ((l.take (j + 1)).filter fun x => !p x).length = ((l.take j).filter fun x => !p x).length + 1 := by rw [ht]; simp
        have hmc : ((l.take j).filter fun x => !p x).length < c.length := by omega
        have := hrec (c.set ((l.take j).filter fun x => !p x).length l[j]) ⟨by simpa using e1, by
          rw [List.drop_set_of_lt (by omega)]
          have := congrArg (List.drop 1) e2
          simpa [List.drop_drop, Nat.add_comm] using this, by
          rw [hlen, take_set hmc, e3, ht]⟩
        rw [hlen] at this
        simp only [Bool.not_false, cond_true, inB_nat (show ((l.take j).filter fun x => !p x).length < l.length by omega), w64n (show ((l.take j).filter fun x => !p x).length < 9223372036854775807 by omega)]
        exact this
    · rintro c rec ⟨e1, e2, e3⟩
      have eT : l.take l.length = l := List.take_of_length_le (Nat.le_refl _)
      rw [eT] at e3
      simp only [eT]
      have hm := List.length_filter_le (fun x => !p x) l
      unfold slices_DeleteFunc_impl_Bottle_impl_Bottle__impl_Crate_bottles_1.B1
      rw [decF (by simp only; omega)]
      simp only [cond_false, e1]
      rw [inW_true (by omega) (by omega) (by omega), cond_true]
      have e4 : overL c (((l.filter fun x => !p x).length : Nat) : Int).toNat (List.replicate ((((l.length : Nat) : Int)) - (((l.filter fun x => !p x).length : Nat) : Int)).toNat (0, 0)) = (l.filter fun x => !p x) ++ List.replicate (l.length - (l.filter fun x => !p x).length) (0, 0) := by
        unfold overL
        rw [Int.toNat_natCast, e3, List.drop_eq_nil_of_le (by simp; omega), List.append_nil]
        congr 2
        omega
      rw [e4, inW_true (by omega) (by omega) (by simp; omega), cond_true]
      congr 3
theorem s_crateBottles : impl_Crate_bottles.S (cl Cr fun c => c.filter fun b => !decide (b = (0, 0))) := impl_Crate_bottles.of_cl s_cloneB s_delete_cb fun c h k => by
  have hl : c.length = 12 := h
  have hp : PL c := by unfold PL; omega
  unfold impl_Crate_bottles.pf
  rw [cl_eq hp, Option.bind_some, cl_eq hp, Option.bind_some, kept_cut]
theorem count2 {α : Type} (p0 p1 : Int) (c : List DB) (hc : c.length = 12) (s : List (List DB)) (b : DB) (n0 : Int) (h0 : 0 ≤ n0) (h1 : n0 ≤ 100000000000) (K : Int × Int → Option α) :
    iter (impl_countOf.B2 p0 p1 c s b K) BIG (n0, 0) = K (n0 + countI (fun x => decide (x = b)) c, 12) := by
  refine (iter_list c (fun p (n : Int) => (n, (p : Int))) (fun q n => K (n + countI (fun x => decide (x = b)) q, 12)) (fun p n => n0 ≤ n ∧ n ≤ n0 + p) (c := n0) rfl (big_lt (by omega)) ⟨by omega, by omega⟩ ?_ ?_)
  · rintro p hp n rec ⟨h1, h2⟩ hrec
    unfold impl_countOf.B2
    simp only [decT (show (p : Int) < 12 by omega), inB_nat (show p < 12 by omega), cond_true, Int.toNat_natCast, getD_lt hp, eqB, w64n (show p < 9223372036854775807 by omega), w64 (show -9223372036854775808 ≤ n + 1 by omega) (by omega), countI]
    by_cases q2 : c[p] = b
    · rw [decT q2]
      exact (hrec _ (by omega)).trans (by simp [Int.add_assoc])
    · rw [decF q2]
      exact (hrec _ (by omega)).trans (by simp)
  · rintro n rec _
    unfold impl_countOf.B2
    rw [decF (by simp only; omega)]
    simp [countI, hc]
def POne (x : List (List DB) × DB) : Prop := ∃ c, x.1 = [c] ∧ c.length = 12
theorem s_countOf : impl_countOf.S (cl POne fun x => countI (fun y => decide (y = x.2)) (x.1.getD 0 [])) := impl_countOf.of_cl fun x h k => by
  obtain ⟨s, b⟩ := x
  obtain ⟨c, e, hc⟩ := h
  have e : s = [c] := e
  subst e
  show impl_countOf.pf BIG [c] b k = k (countI (fun y => decide (y = b)) c)
  unfold impl_countOf.pf
  refine iter_list [c] (fun p (n : Int) => (n, (p : Int))) (fun q n => k (n + (q.map (countI (fun y => decide (y = b)))).sum)) (fun p n => 0 ≤ n ∧ n ≤ 100 * p) (c := 0) rfl (big_lt (by simp)) ⟨by omega, by omega⟩ ?_ ?_ |>.trans (by simp)
  · rintro p hp n rec ⟨h1, h2⟩ hrec
    have hp1 : p = 0 := by simp at hp; exact hp
    subst hp1
    have := countI_le (fun y => decide (y = b)) c
    unfold impl_countOf.B1
    simp only [List.length_cons, List.length_nil]
    rw [decT (by simp), cond_true, inB_true (by simp) (by simp), cond_true]
    simp only [Int.toNat_natCast, List.getD_cons_zero]
    rw [count2 _ _ c hc _ b n h1 (by omega)]
    exact (hrec (n + countI (fun y => decide (y = b)) c) (by omega)).trans (by simp)
  · rintro n rec _
    unfold impl_countOf.B1
    rw [decF (by simp)]
    simp
theorem stray_count (b : DB) (hb : b ≠ (0, 0)) : ∀ c : List DB, ((c.filter fun x => !decide (x = (0, 0))).length : Int) - countI (fun y => decide (y = b)) c = countI (fun x => !decide (x = (0, 0)) && !decide (x = b)) c
  | [] => by simp [countI]
  | x :: c => by
    have ih := stray_count b hb c
    rw [List.filter_cons]
    unfold countI
    by_cases q1 : x = (0, 0)
    · have q2 : ¬ x = b := fun e => hb (e ▸ q1)
      simp only [q1, decide_true, Bool.not_true, Bool.false_and, cond_false, Bool.false_eq_true, if_false]
      rw [decF (fun e => q2 (q1.trans e))]
      simp only [cond_false]
      omega
    · by_cases q2 : x = b
      · rw [decF q1, decT q2]
        simp only [Bool.not_false, if_true, List.length_cons, cond_true, Bool.not_true, Bool.and_false, cond_false]
        omega
      · rw [decF q1, decF q2]
        simp only [Bool.not_false, if_true, List.length_cons, cond_true, cond_false, Bool.and_true]
        omega
theorem valid_ne {b : DB} (h : validB b = true) : b ≠ (0, 0) := fun e => by
  subst e
  simp [validB] at h
theorem stray_tail {α : Type} (s : List (List DB)) (l : List DB) (hw : CrS s) (hv : l.all validB = true) (e : l.length = s.length) (k : Int × Int → Option α) :
    iter (impl_StrayIn.B1 (cl Cr fun c => c.filter fun b => !decide (b = (0, 0))) (cl POne fun x => countI (fun y => decide (y = x.2)) (x.1.getD 0 [])) ((s.length : Nat) : Int) s l fun (x1 : Int × Int) => k (x1.1, 0)) BIG (0, 0) = k (sumStray s l, 0) := by
  have hs := hw.1
  have hz : (s.zip l).length = s.length := by simp [e]
  refine (iter_list (s.zip l) (fun p (n : Int) => (n, (p : Int))) (fun q n => k (n + (q.map strayB).sum, 0)) (fun p n => 0 ≤ n ∧ n ≤ 12 * p) (c := 0) rfl (big_lt (by omega)) ⟨by omega, by omega⟩ ?_ ?_).trans (by rw [Int.zero_add, sumZip])
  · rintro p hp n rec ⟨h1, h2⟩ hrec
    have hps : p < s.length := by omega
    have hpl : p < l.length := by omega
    have hc := hw.at hps
    have hsb := strayB_le (q := (s[p], l[p])) hc
    have hb := valid_ne (List.all_eq_true.1 hv _ (List.getElem_mem hpl))
    have hsc := stray_count l[p] hb s[p]
    simp only [strayB] at hsb
    unfold impl_StrayIn.B1
    rw [zip_at hp]
    simp only [decT (show (p : Int) < (s.length : Int) by omega), inB_nat hps, inB_nat hpl, cond_true, Int.toNat_natCast, getD_lt hps, getD_lt hpl, cl_eq hc, cl_eq (show POne ([s[p]], l[p]) from ⟨_, rfl, hc⟩), Option.bind_some, w64n (show p < 9223372036854775807 by omega), List.getD_cons_zero]
    rw [hsc, w64 (n := countI (fun x => !decide (x = (0, 0)) && !decide (x = l[p])) s[p]) (by omega) (by omega), w64 (by omega) (by omega)]
    exact (hrec _ (by omega)).trans (by rw [List.map_cons, List.sum_cons, Int.add_assoc])
  · rintro n rec _
    unfold impl_StrayIn.B1
    rw [decF (by simp only; omega)]
    simp
theorem s_impl_StrayIn : impl_StrayIn.S (cl PStr fun x => strayIn x.1 x.2) := impl_StrayIn.of_cl s_contains_str s_ValidStack s_codeOf s_crateBottles s_countOf fun x h k => by
  obtain ⟨s, l⟩ := x
  obtain ⟨hw, hb⟩ := h
  simp only at hw hb
  show impl_StrayIn.pf _ _ _ _ _ BIG s l k = k (strayIn s l)
  unfold impl_StrayIn.pf strayIn
  simp only [cl_eq hb, cl_eq hw, Option.bind_some, any_not, Bool.not_not, tot_eq]
  have e0 : (((l.length : Nat) : Int) == ((s.length : Nat) : Int)) = decide (l.length = s.length) := by
    by_cases e : l.length = s.length
    · rw [beqT (by omega), decT e]
    · rw [beqF (by omega), decF e]
  rw [e0]
  cases hv : stackOk s with
  | false =>
    simp only [cond_false, Bool.false_and]
    rw [bneT (by simp [codeOf]), if_pos (by simp [codeOf])]
    rfl
  | true =>
    simp only [cond_true, Bool.true_and]
    rcases codeOf_cases (l.all validB) (decide (l.length = s.length)) with ⟨c, c1, c2⟩ | c
    · rw [bneF c, if_neg (by simp [c]), cond_false]
      exact stray_tail s l hw.1 c1 (of_decide_eq_true c2) k
    · rw [bneT c, if_pos c]; rfl
def gCs (s : List (List DB)) : Prop := s.length ≤ maxLen ∧ ∀ c, c ∈ s → wC c
theorem good_stack {e : TypeId} {s : List (List DB)} (h : goodV (.row e (.arr 12 (.st (.pair (.int .u8) (.int .i16))))) s) : gCs s := by
  obtain ⟨h1, h2⟩ := h
  refine ⟨h1, fun c hc => ?_⟩
  obtain ⟨i, hi, rfl⟩ := List.mem_iff_getElem.1 hc
  have := h2 i hi
  rw [getD_lt hi] at this
  obtain ⟨g1, g2⟩ := this
  refine ⟨g1, fun b hb => ?_⟩
  obtain ⟨j, hj, rfl⟩ := List.mem_iff_getElem.1 hb
  have hj12 : j < 12 := by rw [← g1]; exact hj
  have := g2 j (by first | exact hj12 | exact hj)
  rw [getD_lt hj] at this
  exact good_B this
theorem szC_ok {s : List (List DB)} {n : Int} (h : ¬ vszC (s, n) < 0) (h0 : 0 ≤ n) (h1 : n ≤ 1048576) : s.length ≤ 1048576 ∧ 0 ≤ vszC (s, n) ∧ vszC (s, n) ≤ 1048576 := by
  unfold vszC at h ⊢
  simp only at h ⊢
  by_cases c : n < s.length
  · rw [if_pos c] at h; omega
  · rw [if_neg c] at h ⊢; omega
theorem s_law_StrayIn : laws_FnExactStrayIn.S (cl (fun x => gCs x.1 ∧ gB x.2) fun _ => true) := laws_FnExactStrayIn.of_cl s_szCrateS s_szBottleS' s_toCrateS s_toBottleS s_spec_StrayIn s_impl_StrayIn s_eqCrateS s_eqBottleS fun x ⟨h, hb⟩ k => by
  obtain ⟨s, l⟩ := x
  have hg : gCs s := h
  have hb : gB l := hb
  show laws_FnExactStrayIn.pf _ _ _ _ _ _ _ _ BIG s l k = k true
  unfold laws_FnExactStrayIn.pf
  rw [cl_eq (show PszC (s, 1048576) from ⟨hg.1, by simp, by simp⟩), Option.bind_some]
  by_cases c : vszC (s, 1048576) < 0
  · rw [decT c]; rfl
  · obtain ⟨hs, n0, n1⟩ := szC_ok c (by omega) (by omega)
    rw [decF c, cond_false, cl_eq (show PszB (l, vszC (s, 1048576)) from ⟨hb.1, n0, n1⟩), Option.bind_some]
    by_cases c2 : vszB (l, vszC (s, 1048576)) < 0
    · rw [decT c2]; rfl
    · have hl := szB_ok c2 n1
      have hl : l.length ≤ 1073741824 := by omega
      have cr : CrS s := ⟨by omega, fun c hc => (hg.2 c hc).1⟩
      have w : wCs s := ⟨cr, fun c hc => (hg.2 c hc).2⟩
      rw [decF c2, cond_false]
      simp only [cl_eq cr, cl_eq (show PL l from hl), Option.bind_some, cl_eq (show PStr (s, l) from ⟨w, hl, hb.2⟩), bneS, cond_false, cl_eq (show CrS2 (s, s) from ⟨cr, cr⟩), cl_eq (show PL1 (l, l) from hl), decide_true, Bool.not_true]
end Go.Proofs.Ytjajlmaldeoobaa.G
