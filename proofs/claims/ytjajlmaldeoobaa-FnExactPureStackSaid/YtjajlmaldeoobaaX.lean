/- Plain proofs: what the functions answer, in plain lists and numbers. -/
import Derived.Test.YtjajlmaldeoobaaRd0
import Derived.Test.YtjajlmaldeoobaaRd1
import Derived.Test.YtjajlmaldeoobaaRd2
import Derived.Test.YtjajlmaldeoobaaShelf
namespace Go.Proofs.Ytjajlmaldeoobaa.G
open Go
set_option linter.unusedVariables false
set_option linter.unusedSimpArgs false
set_option maxRecDepth 10000
abbrev DB := Int × Int
abbrev DS := DB × Int
theorem s_toBottle : Fz24.S (tot fun x => x) := Fz24.of_tot fun x k => rfl
/-- A copy, element by element. -/
theorem copied {β : Type} {l o : List β} {k : Nat} {d : β} (h : k < l.length) (ho : o.length = l.length) (hp : o.take k = l.take k) : (o.set k l[k]).take (k + 1) = l.take (k + 1) ∧ (o.set k l[k]).length = l.length := by
  refine ⟨?_, by simpa using ho⟩
  rw [List.take_succ_eq_append_getElem (by simpa [ho] using h), List.take_succ_eq_append_getElem h, List.take_set_of_le (Nat.le_refl k), hp]
  simp
theorem eqB (a b : DB) : eqV (.st (.pair (.int .u8) (.int .i16))) a b = decide (a = b) := by
  obtain ⟨a1, a2⟩ := a
  obtain ⟨b1, b2⟩ := b
  simp only [eqV]
  rw [Bool.eq_iff_iff]
  simp
theorem s_eqBottle : Fz18.S (tot fun x => decide (x.1 = x.2)) := Fz18.of_tot fun x k => by
  obtain ⟨⟨a1, a2⟩, b1, b2⟩ := x
  unfold Fz18.pf
  by_cases h1 : a1 = b1
  · by_cases h2 : a2 = b2
    · simp [h1, h2]
    · simp [h1, h2, bneT h2]
  · simp [h1, bneT h1]
/-- Lists of one length are alike where no pair of elements differs. -/
theorem any_eq {β : Type} [DecidableEq β] : ∀ (a b : List β), a.length = b.length → (a.zip b).any (fun p => !decide (p.1 = p.2)) = !decide (a = b)
  | [], [], _ => by simp
  | [], _ :: _, h => by simp at h
  | _ :: _, [], h => by simp at h
  | x :: a, y :: b, h => by
    rw [List.zip_cons_cons, List.any_cons, any_eq a b (by simpa using h)]
    by_cases c : x = y <;> by_cases c2 : a = b <;> simp [c, c2]
theorem zip_at {β γ : Type} {a : List β} {b : List γ} {k : Nat} (h : k < (a.zip b).length) : (a.zip b)[k] = (a[k]'(by simp at h; omega), b[k]'(by simp at h; omega)) := by simp
theorem take_set {β : Type} {l : List β} {k : Nat} {x : β} (h : k < l.length) : (l.set k x).take (k + 1) = l.take k ++ [x] := by
  rw [List.take_succ_eq_append_getElem (by simpa using h), List.take_set_of_le (Nat.le_refl k)]
  simp
def validB (b : DB) : Bool := decide (1 ≤ b.1) && decide (b.1 ≤ 20) && (decide (1900 ≤ b.2) && decide (b.2 ≤ 2099))
/-- Whole numbers of their kinds. -/
def wB (b : DB) : Prop := 0 ≤ b.1 ∧ b.1 ≤ 255 ∧ -32768 ≤ b.2 ∧ b.2 ≤ 32767
def wS (s : DS) : Prop := wB s.1 ∧ -32768 ≤ s.2 ∧ s.2 ≤ 32767
def wL (l : List DS) : Prop := PL l ∧ ∀ s, s ∈ l → wS s
def wR (r : List (List DS)) : Prop := Bd r ∧ ∀ l, l ∈ r → ∀ s, s ∈ l → wS s
theorem wR.at {r : List (List DS)} (h : wR r) {k : Nat} (hk : k < r.length) : wL r[k] := ⟨h.1.pl hk, h.2 _ (List.getElem_mem hk)⟩
theorem wL.at {l : List DS} (h : wL l) {k : Nat} (hk : k < l.length) : wS l[k] := h.2 _ (List.getElem_mem hk)
theorem s_l00In : spec_l00In.S (tot fun x => decide (x.2.1 ≤ x.1) && decide (x.1 ≤ x.2.2)) := spec_l00In.of_tot fun x k => by
  unfold spec_l00In.pf
  by_cases c : x.2.1 ≤ x.1
  · rw [decT (show x.1 ≥ x.2.1 from c)]; rfl
  · rw [decF (show ¬ x.1 ≥ x.2.1 from c)]; rfl
theorem s_within : Fz16.S (tot fun x => decide (x.2.1 ≤ x.1) && decide (x.1 ≤ x.2.2)) := Fz16.of_tot fun x k => by
  unfold Fz16.pf
  by_cases c : x.2.1 ≤ x.1
  · rw [decT c]; rfl
  · rw [decF c]; rfl
theorem s_l01Bottle : Fz39.S (cl wB validB) := Fz39.of_cl s_l00In fun x ⟨h1, h2, h3, h4⟩ k => by
  unfold Fz39.pf validB
  simp only [tot_eq, Option.bind_some, w64 (n := x.1) (by omega) (by omega), w64 (n := x.2) (by omega) (by omega)]
  cases decide (1 ≤ x.1) && decide (x.1 ≤ 20) <;> rfl
theorem s_ValidBottle : Fz8.S (cl wB validB) := Fz8.of_cl s_within fun x ⟨h1, h2, h3, h4⟩ k => by
  unfold Fz8.pf validB
  simp only [tot_eq, Option.bind_some, w64 (n := x.1) (by omega) (by omega), w64 (n := x.2) (by omega) (by omega)]
  cases decide (1 ≤ x.1) && decide (x.1 ≤ 20) <;> rfl
theorem any_not {β : Type} (l : List β) (p : β → Bool) : (l.any fun x => !p x) = !l.all p := by
  induction l with
  | nil => rfl
  | cons x l ih => rw [List.any_cons, List.all_cons, ih, Bool.not_and]
/-- Where the first one is. -/
def indexI {β : Type} (p : β → Bool) (l : List β) : Int := match l.findIdx? p with
  | some i => i
  | none => -1
theorem firstOr_index {α β : Type} (p : β → Bool) (k : Int → Option α) : ∀ (l : List β) (j : Nat), firstOr p (fun i _ => k (i : Int)) (k (-1)) j l = k (match l.findIdx? p with | some i => ((j + i : Nat) : Int) | none => -1)
  | [], _ => rfl
  | x :: l, j => by
    rw [firstOr, List.findIdx?_cons]
    cases p x with
    | true => simp
    | false =>
      rw [cond_false, firstOr_index p k l]
      cases l.findIdx? p with
      | none => rfl
      | some i => simp [Nat.add_assoc, Nat.add_comm 1 i]
theorem indexI_nn {β : Type} (p : β → Bool) (l : List β) : decide (indexI p l ≥ 0) = l.any p := by
  unfold indexI
  cases h : l.findIdx? p with
  | none =>
    have := List.findIdx?_eq_none_iff.1 h
    simp only
    rw [decF (by omega)]
    symm
    rw [List.any_eq_false]
    intro x hx
    simpa using this x hx
  | some i =>
    simp only
    rw [decT (by omega)]
    symm
    obtain ⟨hi, hp, _⟩ := List.findIdx?_eq_some_iff_getElem.1 h
    exact List.any_eq_true.2 ⟨_, List.getElem_mem hi, hp⟩
theorem good_B {b : DB} (h : goodV (.st (.pair (.int .u8) (.int .i16))) b) : wB b := by
  obtain ⟨h1, h2⟩ := h
  simp only [goodV, Lit.wf, IntKind.min, IntKind.max, IntKind.bits, IntKind.signed] at h1 h2
  simp at h1 h2
  unfold wB
  omega
theorem bneS (a : Int) : (a != a) = false := by simp
theorem okS {n : Nat} (h : n ≤ 4294967296) : okL n = true := okL_true h
/-- Few lanes, each of them short. -/
def Few (o : List (List DS)) : Prop := o.length ≤ 8 ∧ ∀ x, x ∈ o → x.length ≤ 6
theorem Few.at {o : List (List DS)} (h : Few o) {n : Nat} (hn : n < o.length) : o[n].length ≤ 6 := h.2 _ (List.getElem_mem hn)
theorem Few.set {o : List (List DS)} (h : Few o) {n : Nat} {x : List DS} (hx : x.length ≤ 6) : Few (o.set n x) := ⟨by rw [List.length_set]; exact h.1, fun y hy => by
  rcases List.mem_or_eq_of_mem_set hy with q | rfl
  · exact h.2 y q
  · exact hx⟩
/-- What is left of some when those are gone that a test tells, and what lies behind it. -/
def keptOf {β : Type} (d : β) (p : β → Bool) (l : List β) : Option (Nat × Nat) × List β :=
  if l.any p = true then (some (0, (l.filter fun x => !p x).length), (l.filter fun x => !p x) ++ List.replicate (l.length - (l.filter fun x => !p x).length) d) else (none, l)
theorem kept_cut {β : Type} (d : β) (p : β → Bool) (l : List β) : Win.cut (keptOf d p l).1 (keptOf d p l).2 = l.filter fun x => !p x := by
  unfold keptOf
  by_cases c : l.any p = true
  · rw [if_pos c]
    simp [Win.cut]
  · rw [if_neg c]
    symm
    show l.filter _ = l
    rw [List.filter_eq_self]
    intro x hx
    simp only [List.any_eq_true, not_exists, not_and, Bool.not_eq_true] at c
    simp [c x hx]
def wBs (l : List DB) : Prop := l.length ≤ 1073741824 ∧ ∀ b, b ∈ l → wB b
/-- All that lies in a rack. -/
def AllIn (Q : DS → Prop) (o : List (List DS)) : Prop := ∀ l, l ∈ o → ∀ s, s ∈ l → Q s
theorem AllIn.set {Q : DS → Prop} {o : List (List DS)} (h : AllIn Q o) {n : Nat} {x : List DS} (hx : ∀ s, s ∈ x → Q s) : AllIn Q (o.set n x) := fun l hl s hs => by
  rcases List.mem_or_eq_of_mem_set hl with q | rfl
  · exact h l q s hs
  · exact hx s hs
theorem AllIn.at {Q : DS → Prop} {o : List (List DS)} (h : AllIn Q o) {n : Nat} (hn : n < o.length) : ∀ s, s ∈ o.getD n [] → Q s := fun s hs => by
  rw [getD_lt hn] at hs
  exact h _ (List.getElem_mem hn) s hs
/-- A crate: twelve places. -/
def Cr (c : List DB) : Prop := c.length = 12
def CrS (s : List (List DB)) : Prop := s.length ≤ 1073741824 ∧ ∀ c, c ∈ s → c.length = 12
theorem CrS.at {s : List (List DB)} (h : CrS s) {i : Nat} (hi : i < s.length) : Cr s[i] := h.2 _ (List.getElem_mem hi)
theorem s_toCrate : Fz25.S (cl Cr fun c => c) := Fz25.of_cl s_toBottle fun l h k => by
  have h : l.length = 12 := h
  unfold Fz25.pf
  refine (iter_list (B := Fz25.B1 (tot fun x => x) l (List.replicate 12 (0, 0)) fun x1 => k x1.2) l (fun i (c : List DB) => ((i : Int), c)) (fun _ _ => k l) (fun i c => c.length = l.length ∧ c.take i = l.take i) (c := List.replicate 12 (0, 0)) (by simp) (big_lt (by omega)) (by simp [h]) ?_ ?_)
  · rintro i hi c rec ⟨h1, h2⟩ hrec
    unfold Fz25.B1
    simp only [decT (show (i : Int) < 12 by omega), inB_nat (show i < 12 by omega), cond_true, Int.toNat_natCast, getD_lt hi, tot_eq, Option.bind_some, w64n (show i < 9223372036854775807 by omega)]
    have := copied (d := ((0, 0) : DB)) hi h1 h2
    exact hrec _ ⟨this.2, this.1⟩
  · rintro c rec ⟨h1, h2⟩
    unfold Fz25.B1
    rw [decF (by simp only; omega)]
    rw [List.take_of_length_le (by omega), List.take_of_length_le (Nat.le_refl _)] at h2
    simp only [cond_false, h2]
theorem s_toCrateS : Fz26.S (cl CrS fun s => s) := Fz26.of_cl s_toCrate fun l h k => by
  have hl : l.length ≤ 1073741824 := h.1
  unfold Fz26.pf
  rw [inW_true (by omega) (by omega) (by unfold LIM; omega)]
  simp only [cond_true]
  refine (iter_list (B := Fz26.B1 (cl Cr fun c => c) l fun x1 => k x1.2) l (fun i (c : List (List DB)) => ((i : Int), c)) (fun _ _ => k l) (fun i c => c.length = l.length ∧ c.take i = l.take i) (c := List.replicate l.length (List.replicate 12 (0, 0))) (by simp) (big_lt (by omega)) (by simp) ?_ ?_)
  · rintro i hi c rec ⟨h1, h2⟩ hrec
    unfold Fz26.B1
    simp only [decT (show (i : Int) < (l.length : Int) by omega), inB_nat hi, inB_nat (h1 ▸ hi : i < c.length), cond_true, Int.toNat_natCast, getD_lt hi, cl_eq (h.at hi), Option.bind_some, w64n (show i < 9223372036854775807 by omega)]
    have := copied (d := (List.replicate 12 (0, 0) : List DB)) hi h1 h2
    exact hrec _ ⟨this.2, this.1⟩
  · rintro c rec ⟨h1, h2⟩
    unfold Fz26.B1
    rw [decF (by simp only; omega)]
    rw [List.take_of_length_le (by omega), List.take_of_length_le (Nat.le_refl _)] at h2
    simp only [cond_false, h2]
def PszC (x : List (List DB) × Int) : Prop := x.1.length ≤ maxLen ∧ 0 ≤ x.2 ∧ x.2 ≤ 1048576
def vszC (x : List (List DB) × Int) : Int := if x.2 < x.1.length then -1 else x.2 - x.1.length
theorem s_szCrateS : Fz23.S (cl PszC vszC) :=
  Fz23.of_cl fun x ⟨h1, h2, h3⟩ k => by
    unfold maxLen at h1
    unfold Fz23.pf vszC
    rw [w64 (by omega) (by omega)]
    by_cases c : x.2 < x.1.length
    · rw [decT (by omega), if_pos c]; rfl
    · rw [decF (by omega), if_neg c]; rfl
def Cr2 (x : List DB × List DB) : Prop := Cr x.1 ∧ Cr x.2
theorem s_eqCrate : Fz19.S (cl Cr2 fun x => decide (x.1 = x.2)) := Fz19.of_cl s_eqBottle fun x h k => by
  obtain ⟨a, b⟩ := x
  obtain ⟨ha, hb⟩ := h
  have ha : a.length = 12 := ha
  have hb : b.length = 12 := hb
  show Fz19.pf _ BIG a b k = k (decide (a = b))
  unfold Fz19.pf
  have hz : (a.zip b).length = 12 := by simp [ha, hb]
  rw [iter_first (a.zip b) (fun i => (i : Int)) (fun p => !decide (p.1 = p.2)) (fun _ _ => k false) (k true) (x := 0) rfl (big_lt (by omega)) ?_ ?_, firstOr_const, any_eq a b (by omega)]
  · by_cases e : a = b <;> simp [e]
  · intro i hi rec
    have h1 : i < a.length := by omega
    have h2 : i < b.length := by omega
    unfold Fz19.B1
    rw [zip_at hi]
    simp only [decT (show (i : Int) < 12 by omega), inB_nat (show i < 12 by omega), cond_true, Int.toNat_natCast, getD_lt h1, getD_lt h2, tot_eq, Option.bind_some, w64n (show i < 9223372036854775807 by omega)]
  · intro rec
    unfold Fz19.B1
    rw [hz, decF (by omega)]
    rfl
def CrS2 (x : List (List DB) × List (List DB)) : Prop := CrS x.1 ∧ CrS x.2
theorem s_eqCrateS : Fz20.S (cl CrS2 fun x => decide (x.1 = x.2)) := Fz20.of_cl s_eqCrate fun x h k => by
  obtain ⟨a, b⟩ := x
  obtain ⟨ha, hb⟩ := h
  simp only at ha hb
  have hl := ha.1
  show Fz20.pf _ BIG a b k = k (decide (a = b))
  unfold Fz20.pf
  by_cases c : a.length = b.length
  · rw [show (((a.length : Nat) : Int) != ((b.length : Nat) : Int)) = false by simp [c], cond_false]
    have hz : (a.zip b).length = a.length := by simp [c]
    rw [iter_first (a.zip b) (fun i => (i : Int)) (fun p => !decide (p.1 = p.2)) (fun _ _ => k false) (k true) (x := 0) rfl (big_lt (by omega)) ?_ ?_, firstOr_const, any_eq a b c]
    · by_cases e : a = b <;> simp [e]
    · intro i hi rec
      have h1 : i < a.length := by omega
      have h2 : i < b.length := by omega
      unfold Fz20.B1
      rw [zip_at hi]
      simp only [decT (show (i : Int) < (a.length : Int) by omega), inB_nat h1, inB_nat h2, cond_true, Int.toNat_natCast, getD_lt h1, getD_lt h2, cl_eq (show Cr2 (a[i], b[i]) from ⟨ha.at h1, hb.at h2⟩), Option.bind_some, w64n (show i < 9223372036854775807 by omega)]
    · intro rec
      unfold Fz20.B1
      rw [decF (by omega)]
      rfl
  · rw [show (((a.length : Nat) : Int) != ((b.length : Nat) : Int)) = true by simpa using fun q => c (by omega), cond_true]
    rw [decF (fun e => c (by rw [e]))]
theorem s_cloneB : Fz27.S (cl PL fun l => l) := Fz27.of_cl fun l h k => by
  have h : l.length ≤ 1073741824 := h
  unfold Fz27.pf
  simp only [List.nil_append, List.length_nil]
  rw [okS (by omega)]
  cases l with
  | nil => exact both_same _
  | cons x l => rfl

theorem s_l01Free : Fz41.S (tot fun b => decide (b = (0, 0))) := Fz41.of_tot fun b k => by
  unfold Fz41.pf
  rw [eqB]
def okB (b : DB) : Bool := decide (b = (0, 0)) || validB b
def crateOk (c : List DB) : Bool := c.all okB
def stackOk (s : List (List DB)) : Bool := decide (s.length ≤ 12) && s.all crateOk
def wC (c : List DB) : Prop := c.length = 12 ∧ ∀ b, b ∈ c → wB b
def wCs (s : List (List DB)) : Prop := CrS s ∧ ∀ c, c ∈ s → ∀ b, b ∈ c → wB b
theorem wCs.at {s : List (List DB)} (h : wCs s) {i : Nat} (hi : i < s.length) : wC s[i] := ⟨h.1.at hi, h.2 _ (List.getElem_mem hi)⟩
theorem s_l01Ok : spec_l01Ok.S (cl wC crateOk) := spec_l01Ok.of_cl s_l01Free s_l01Bottle fun c h k => by
  obtain ⟨hl, hw⟩ := h
  unfold spec_l01Ok.pf
  rw [iter_first c (fun i => (i : Int)) (fun b => !okB b) (fun _ _ => k false) (k true) (x := 0) rfl (big_lt (by omega)) ?_ ?_, firstOr_const, any_not]
  · unfold crateOk
    cases c.all okB <;> rfl
  · intro i hi rec
    unfold spec_l01Ok.B1
    simp only [decT (show (i : Int) < 12 by omega), inB_nat (show i < 12 by omega), cond_true, Int.toNat_natCast, getD_lt hi, tot_eq, cl_eq (hw _ (List.getElem_mem hi)), Option.bind_some, w64n (show i < 9223372036854775807 by omega), okB]
    cases decide (c[i] = (0, 0)) <;> cases validB c[i] <;> rfl
  · intro rec
    unfold spec_l01Ok.B1
    rw [decF (by omega)]
    rfl
theorem s_l01Stack : Fz45.S (cl wCs stackOk) := Fz45.of_cl s_l01Ok fun s h k => by
  have hl := h.1.1
  unfold Fz45.pf
  rw [iter_first s (fun i => (i : Int)) (fun c => !crateOk c) (fun _ _ => k false) (k (decide ((s.length : Int) ≤ 12))) (x := 0) rfl (big_lt (by omega)) ?_ ?_, firstOr_const, any_not]
  · unfold stackOk
    cases s.all crateOk with
    | false => simp
    | true =>
      rw [Bool.and_true]
      show k _ = k _
      congr 1
      exact decide_eq_decide.2 (by omega)
  · intro i hi rec
    unfold Fz45.B1
    simp only [decT (show (i : Int) < (s.length : Int) by omega), inB_nat hi, cond_true, Int.toNat_natCast, getD_lt hi, cl_eq (h.at hi), Option.bind_some, w64n (show i < 9223372036854775807 by omega)]
  · intro rec
    unfold Fz45.B1
    rw [decF (by omega)]
    rfl
theorem s_ValidCrate_1 : Fz10.S (cl wB fun s => !okB s) := Fz10.of_cl s_ValidBottle fun x h k => by
  unfold Fz10.pf okB
  rw [eqB]
  by_cases c : x = (0, 0)
  · rw [decT c]; rfl
  · rw [decF c, cl_eq h]; rfl
theorem s_index_vc : Fz32.S (cl wBs fun l => indexI (fun s => !okB s) l) := Fz32.of_cl s_ValidCrate_1 fun x h k => by
  have hl : x.length ≤ 1073741824 := h.1
  unfold Fz32.pf
  rw [iter_first x (fun i => (i : Int)) (fun s => !okB s) (fun i _ => k (i : Int)) (k (-1)) (x := 0) rfl (big_lt (by omega)) ?_ ?_, firstOr_index]
  · unfold indexI
    congr 1
    cases x.findIdx? (fun s => !okB s) <;> simp
  · intro i hi rec
    unfold Fz32.B1
    simp only [decT (show (i : Int) < (x.length : Int) by omega), inB_nat hi, cond_true, Int.toNat_natCast, getD_lt hi, cl_eq (h.2 _ (List.getElem_mem hi)), Option.bind_some, w64n (show i < 9223372036854775807 by omega)]
  · intro rec
    unfold Fz32.B1
    rw [decF (by omega)]
    rfl
theorem s_contains_vc : Fz28.S (cl wBs fun l => l.any (fun s => !okB s)) := Fz28.of_cl s_index_vc fun x h k => by
  unfold Fz28.pf
  rw [cl_eq h, Option.bind_some, indexI_nn]
theorem wC.bs {c : List DB} (h : wC c) : wBs c := ⟨by have := h.1; omega, h.2⟩
theorem s_ValidCrate : Fz9.S (cl wC crateOk) := Fz9.of_cl s_contains_vc fun x h k => by
  unfold Fz9.pf crateOk
  rw [cl_eq h.bs, Option.bind_some, any_not, Bool.not_not]
theorem s_ValidStack_1 : Fz12.S (cl wC fun c => !crateOk c) := Fz12.of_cl s_ValidCrate fun x h k => by
  unfold Fz12.pf
  rw [cl_eq h]; rfl
theorem s_index_vs : Fz33.S (cl wCs fun l => indexI (fun c => !crateOk c) l) := Fz33.of_cl s_ValidStack_1 fun x h k => by
  have hl : x.length ≤ 1073741824 := h.1.1
  unfold Fz33.pf
  rw [iter_first x (fun i => (i : Int)) (fun c => !crateOk c) (fun i _ => k (i : Int)) (k (-1)) (x := 0) rfl (big_lt (by omega)) ?_ ?_, firstOr_index]
  · unfold indexI
    congr 1
    cases x.findIdx? (fun c => !crateOk c) <;> simp
  · intro i hi rec
    unfold Fz33.B1
    simp only [decT (show (i : Int) < (x.length : Int) by omega), inB_nat hi, cond_true, Int.toNat_natCast, getD_lt hi, cl_eq (h.at hi), Option.bind_some, w64n (show i < 9223372036854775807 by omega)]
  · intro rec
    unfold Fz33.B1
    rw [decF (by omega)]
    rfl
theorem s_contains_vs : Fz29.S (cl wCs fun l => l.any (fun c => !crateOk c)) := Fz29.of_cl s_index_vs fun x h k => by
  unfold Fz29.pf
  rw [cl_eq h, Option.bind_some, indexI_nn]
theorem s_ValidStack : Fz11.S (cl wCs stackOk) := Fz11.of_cl s_contains_vs fun x h k => by
  unfold Fz11.pf stackOk
  by_cases c : x.length ≤ 12
  · rw [decT (show ((x.length : Int) ≤ 12) by omega), decT c, cond_true, cl_eq h, Option.bind_some, any_not, Bool.not_not, Bool.true_and]
  · rw [decF (show ¬ ((x.length : Int) ≤ 12) by omega), decF c]; rfl
theorem s_bottles_1 : Fz6.S (tot fun b => decide (b = (0, 0))) := Fz6.of_tot fun x k => by
  unfold Fz6.pf
  rw [eqB]
theorem s_index_cb : Fz31.S (cl PL fun l => indexI (fun b => decide (b = (0, 0))) l) := Fz31.of_cl s_bottles_1 fun x h k => by
  have hl : x.length ≤ 1073741824 := h
  unfold Fz31.pf
  rw [iter_first x (fun i => (i : Int)) (fun b => decide (b = (0, 0))) (fun i _ => k (i : Int)) (k (-1)) (x := 0) rfl (big_lt (by omega)) ?_ ?_, firstOr_index]
  · unfold indexI
    congr 1
    cases x.findIdx? (fun b => decide (b = (0, 0))) <;> simp
  · intro i hi rec
    unfold Fz31.B1
    simp only [decT (show (i : Int) < (x.length : Int) by omega), inB_nat hi, cond_true, Int.toNat_natCast, getD_lt hi, tot_eq, Option.bind_some, w64n (show i < 9223372036854775807 by omega)]
  · intro rec
    unfold Fz31.B1
    rw [decF (by omega)]
    rfl
theorem s_delete_cb : Fz30.S (cl PL fun l => keptOf (0, 0) (fun b => decide (b = (0, 0))) l) := Fz30.of_cl s_index_cb s_bottles_1 fun l h k => by
  have hl : l.length ≤ 1073741824 := h
  show Fz30.pf _ _ BIG l k = k (keptOf (0, 0) (fun b => decide (b = (0, 0))) l)
  unfold Fz30.pf
  rw [cl_eq h, Option.bind_some]
  generalize hp : (fun b : DB => decide (b = (0, 0))) = p
  unfold indexI keptOf
  cases hf : l.findIdx? p with
  | none =>
    have := List.findIdx?_eq_none_iff.1 hf
    rw [if_neg (by simpa using this)]
    rfl
  | some i =>
    obtain ⟨hi, hpi, hbef⟩ := List.findIdx?_eq_some_iff_getElem.1 hf
    rw [if_pos (List.any_eq_true.2 ⟨_, List.getElem_mem hi, hpi⟩)]
    simp only
    rw [beqF (by omega), cond_false, w64n (by omega)]
    have h0 : (l.take i).filter (fun x => !p x) = l.take i := by
      rw [List.filter_eq_self]
      intro x hx
      obtain ⟨j, hj, rfl⟩ := List.mem_iff_getElem.1 hx
      have hj' : j < i := by simp at hj; omega
      have := hbef j hj'
      simpa using this
    have h1 : (l.take (i + 1)).filter (fun x => !p x) = l.take i := by
      rw [List.take_succ_eq_append_getElem hi, List.filter_append, h0]
      simp [hpi]
    have := iter_fold (B := Fz30.B1 (tot p) fun (x1 : Int × Int × List DB) => cond (inW x1.1 (((List.length x1.2.2) : Nat) : Int) (List.length x1.2.2)) (cond (inW 0 x1.1 (List.length (overL x1.2.2 x1.1.toNat (List.replicate ((((List.length x1.2.2) : Nat) : Int) - x1.1).toNat (0, 0))))) (k ((some (0, (x1.1 - 0).toNat)), (overL x1.2.2 x1.1.toNat (List.replicate ((((List.length x1.2.2) : Nat) : Int) - x1.1).toNat (0, 0))))) none) none)
      l (fun j (c : List DB) => ((((l.take j).filter fun x => !p x).length : Int), (j : Int), c)) (fun _ _ => k (some (0, (l.filter fun x => !p x).length), (l.filter fun x => !p x) ++ List.replicate (l.length - (l.filter fun x => !p x).length) (0, 0))) (fun j c => c.length = l.length ∧ c.drop j = l.drop j ∧ c.take ((l.take j).filter fun x => !p x).length = (l.take j).filter fun x => !p x) ?_ ?_ (l.length - (i + 1)) (i + 1) l BIG (by omega) (big_lt (by omega)) ⟨rfl, rfl, by rw [h1]; simp⟩
    · rw [h1, List.length_take, Nat.min_eq_left (by omega)] at this
      exact this
    · rintro j hj c rec ⟨e1, e2, e3⟩ hrec
      have hjc : j < c.length := by omega
      have hcj : c[j] = l[j] := by
        have := congrArg (fun z => z[0]?) e2
        simpa [hjc, hj] using this
      have hm : ((l.take j).filter fun x => !p x).length ≤ j := by
        have := List.length_filter_le (fun x => !p x) (l.take j)
        rw [List.length_take] at this
        omega
      have ht : (l.take (j + 1)).filter (fun x => !p x) = (l.take j).filter (fun x => !p x) ++ if p l[j] = true then [] else [l[j]] := by
        rw [List.take_succ_eq_append_getElem hj, List.filter_append]
        cases hq : p l[j] <;> simp [hq]
      unfold Fz30.B1
      simp only [e1, decT (show (j : Int) < (l.length : Int) by omega), inB_nat hj, cond_true, Int.toNat_natCast, getD_lt hjc, hcj, tot_eq, Option.bind_some, w64n (show j < 9223372036854775807 by omega)]
      cases hq : p l[j] with
      | true =>
        rw [hq, if_pos rfl, List.append_nil] at ht
        have := hrec c ⟨e1, by
          have := congrArg (List.drop 1) e2
          simpa [List.drop_drop, Nat.add_comm] using this, by rw [ht]; exact e3⟩
        rw [ht] at this
        exact this
      | false =>
        rw [hq] at ht
        simp only [Bool.false_eq_true, if_false] at ht
        have hlen : ((l.take (j + 1)).filter fun x => !p x).length = ((l.take j).filter fun x => !p x).length + 1 := by rw [ht]; simp
        have hmc : ((l.take j).filter fun x => !p x).length < c.length := by omega
        have := hrec (c.set ((l.take j).filter fun x => !p x).length l[j]) ⟨by simpa using e1, by
          rw [List.drop_set_of_lt (by omega)]
          have := congrArg (List.drop 1) e2
          simpa [List.drop_drop, Nat.add_comm] using this, by
          rw [hlen, take_set hmc, e3, ht]⟩
        rw [hlen] at this
        simp only [Bool.not_false, cond_true, inB_nat (show ((l.take j).filter fun x => !p x).length < l.length by omega), w64n (show ((l.take j).filter fun x => !p x).length < 9223372036854775807 by omega)]
        exact this
    · rintro c rec ⟨e1, e2, e3⟩
      have eT : l.take l.length = l := List.take_of_length_le (Nat.le_refl _)
      rw [eT] at e3
      simp only [eT]
      have hm := List.length_filter_le (fun x => !p x) l
      unfold Fz30.B1
      rw [decF (by simp only; omega)]
      simp only [cond_false, e1]
      rw [inW_true (by omega) (by omega) (by omega), cond_true]
      have e4 : overL c (((l.filter fun x => !p x).length : Nat) : Int).toNat (List.replicate ((((l.length : Nat) : Int)) - (((l.filter fun x => !p x).length : Nat) : Int)).toNat (0, 0)) = (l.filter fun x => !p x) ++ List.replicate (l.length - (l.filter fun x => !p x).length) (0, 0) := by
        unfold overL
        rw [Int.toNat_natCast, e3, List.drop_eq_nil_of_le (by simp; omega), List.append_nil]
        congr 2
        omega
      rw [e4, inW_true (by omega) (by omega) (by simp; omega), cond_true]
      congr 3
theorem s_crateBottles : Fz5.S (cl Cr fun c => c.filter fun b => !decide (b = (0, 0))) := Fz5.of_cl s_cloneB s_delete_cb fun c h k => by
  have hl : c.length = 12 := h
  have hp : PL c := by unfold PL; omega
  unfold Fz5.pf
  rw [cl_eq hp, Option.bind_some, cl_eq hp, Option.bind_some, kept_cut]
def gCs (s : List (List DB)) : Prop := s.length ≤ maxLen ∧ ∀ c, c ∈ s → wC c
theorem good_stack {e : TypeId} {s : List (List DB)} (h : goodV (.row e (.arr 12 (.st (.pair (.int .u8) (.int .i16))))) s) : gCs s := by
  obtain ⟨h1, h2⟩ := h
  refine ⟨h1, fun c hc => ?_⟩
  obtain ⟨i, hi, rfl⟩ := List.mem_iff_getElem.1 hc
  have := h2 i hi
  rw [getD_lt hi] at this
  obtain ⟨g1, g2⟩ := this
  refine ⟨g1, fun b hb => ?_⟩
  obtain ⟨j, hj, rfl⟩ := List.mem_iff_getElem.1 hb
  have hj12 : j < 12 := by rw [← g1]; exact hj
  have := g2 j (by first | exact hj12 | exact hj)
  rw [getD_lt hj] at this
  exact good_B this
theorem szC_ok {s : List (List DB)} {n : Int} (h : ¬ vszC (s, n) < 0) (h0 : 0 ≤ n) (h1 : n ≤ 1048576) : s.length ≤ 1048576 ∧ 0 ≤ vszC (s, n) ∧ vszC (s, n) ≤ 1048576 := by
  unfold vszC at h ⊢
  simp only at h ⊢
  by_cases c : n < s.length
  · rw [if_pos c] at h; omega
  · rw [if_neg c] at h ⊢; omega
def bLt (x y : DB) : Bool := decide (x.1 < y.1) || (decide (x.1 = y.1) && decide (x.2 < y.2))
def cmpB (x : DB × DB) : Int := if x.1.1 < x.2.1 then -1 else if x.1.1 > x.2.1 then 1 else if x.1.2 < x.2.2 then -1 else if x.1.2 > x.2.2 then 1 else 0
theorem cmpB_lt (x y : DB) : decide (cmpB (x, y) < 0) = bLt x y := by
  obtain ⟨x1, x2⟩ := x
  obtain ⟨y1, y2⟩ := y
  unfold cmpB bLt
  simp only
  by_cases h1 : x1 < y1
  · simp [h1]
  · by_cases h2 : x1 > y1
    · simp [h1, h2]; omega
    · have : x1 = y1 := by omega
      subst this
      by_cases h3 : x2 < y2
      · simp [h3]
      · by_cases h4 : x2 > y2
        · simp [h3, h4]
        · simp [h3, h4]
theorem s_spec_Compare : Fz35.S (tot cmpB) := Fz35.of_tot fun x k => by
  obtain ⟨⟨x1, x2⟩, y1, y2⟩ := x
  unfold Fz35.pf cmpB
  simp only
  by_cases h1 : x1 < y1
  · rw [decT h1, if_pos h1]; rfl
  · rw [decF h1, if_neg h1]
    by_cases h2 : x1 > y1
    · rw [decT h2, if_pos h2]; rfl
    · rw [decF h2, if_neg h2]
      by_cases h3 : x2 < y2
      · rw [decT h3, if_pos h3]; rfl
      · rw [decF h3, if_neg h3]
        by_cases h4 : x2 > y2
        · rw [decT h4, if_pos h4]; rfl
        · rw [decF h4, if_neg h4]; rfl
def cmpI (x : Int × Int) : Int := if x.1 < x.2 then -1 else if x.1 > x.2 then 1 else 0
theorem s_isNaN8 : Fz4.S (tot fun _ => false) := Fz4.of_tot fun x k => by unfold Fz4.pf; rw [bneF rfl]
theorem s_isNaN16 : Fz3.S (tot fun _ => false) := Fz3.of_tot fun x k => by unfold Fz3.pf; rw [bneF rfl]
theorem s_cmp8 : Fz1.S (tot cmpI) := Fz1.of_tot s_isNaN8 fun x k => by
  obtain ⟨x, y⟩ := x
  unfold Fz1.pf cmpI
  simp only [tot_eq, Option.bind_some, cond_false]
  by_cases h1 : x < y
  · rw [decT h1, if_pos h1]; rfl
  · rw [decF h1, if_neg h1]
    by_cases h2 : x > y
    · rw [decT h2, if_pos h2]; rfl
    · rw [decF h2, if_neg h2]; rfl
theorem s_cmp16 : Fz0.S (tot cmpI) := Fz0.of_tot s_isNaN16 fun x k => by
  obtain ⟨x, y⟩ := x
  unfold Fz0.pf cmpI
  simp only [tot_eq, Option.bind_some, cond_false]
  by_cases h1 : x < y
  · rw [decT h1, if_pos h1]; rfl
  · rw [decF h1, if_neg h1]
    by_cases h2 : x > y
    · rw [decT h2, if_pos h2]; rfl
    · rw [decF h2, if_neg h2]; rfl
def orL (l : List Int) : Int := (l.find? fun x => x != 0).getD 0
theorem firstOr_find {α : Type} (k : Int → Option α) : ∀ (l : List Int) (j : Nat), firstOr (fun x => x != 0) (fun _ x => k x) (k 0) j l = k (orL l)
  | [], _ => rfl
  | x :: l, j => by
    rw [firstOr, firstOr_find k l]
    unfold orL
    rw [List.find?_cons]
    cases hx : x != 0 <;> rfl
theorem s_cmpOr : cmp_Or_int.S (cl PL orL) := cmp_Or_int.of_cl fun l h k => by
  have h : l.length ≤ 1073741824 := h
  unfold cmp_Or_int.pf
  rw [iter_first l (fun i => (i : Int)) (fun x => x != 0) (fun _ x => k x) (k 0) (x := 0) rfl (big_lt (by omega)) ?_ ?_, firstOr_find]
  · intro i hi rec
    unfold cmp_Or_int.B1
    simp only [decT (show (i : Int) < (l.length : Int) by omega), inB_nat hi, cond_true, Int.toNat_natCast, getD_lt hi, w64n (show i < 9223372036854775807 by omega)]
  · intro rec
    unfold cmp_Or_int.B1
    rw [decF (by omega)]
    rfl
theorem s_compare : Fz14.S (tot cmpB) := Fz14.of_tot s_cmp8 s_cmp16 s_cmpOr fun x k => by
  obtain ⟨⟨x1, x2⟩, y1, y2⟩ := x
  unfold Fz14.pf
  simp only [tot_eq, Option.bind_some]
  rw [cl_eq (show PL [cmpI (x1, y1), cmpI (x2, y2)] by unfold PL; simp), Option.bind_some]
  congr 1
  unfold orL cmpI cmpB
  simp only
  by_cases h1 : x1 < y1
  · simp [h1]
  · by_cases h2 : x1 > y1
    · simp [h1, h2]
    · by_cases h3 : x2 < y2
      · simp [h1, h2, h3]
      · by_cases h4 : x2 > y2
        · simp [h1, h2, h3, h4]
        · simp [h1, h2, h3, h4]
def spotB (o : List DB) (x : DB) : Nat → Nat
  | 0 => 0
  | i + 1 => if bLt x (o.getD i (0, 0)) = true then spotB o x i else i + 1
def putB (o : List DB) (x : DB) : List DB := o.take (spotB o x o.length) ++ x :: o.drop (spotB o x o.length)
def sortB (l : List DB) : List DB := l.foldl putB []
theorem spotB_le (o : List DB) (x : DB) : ∀ i, spotB o x i ≤ i
  | 0 => Nat.le_refl 0
  | i + 1 => by
    have := spotB_le o x i
    unfold spotB
    split <;> omega
theorem putB_perm (o : List DB) (x : DB) : (putB o x).Perm (x :: o) := by
  unfold putB
  refine List.perm_middle.trans ?_
  rw [List.take_append_drop]
theorem sortB_perm (l : List DB) : (sortB l).Perm l := by
  have key : ∀ (l o : List DB), (l.foldl putB o).Perm (o ++ l) := by
    intro l
    induction l with
    | nil => intro o; simp
    | cons x l ih =>
      intro o
      rw [List.foldl_cons]
      refine (ih _).trans ?_
      refine ((putB_perm o x).append_right l).trans ?_
      exact List.perm_middle.symm
  have := key l []
  rwa [List.nil_append] at this
theorem sortB_len (l : List DB) : (sortB l).length = l.length := (sortB_perm l).length_eq
theorem sortB_take (l : List DB) {p : Nat} (h : p < l.length) : sortB (l.take (p + 1)) = putB (sortB (l.take p)) l[p] := by
  unfold sortB
  rw [List.take_succ_eq_append_getElem h, List.foldl_append]
  rfl
/-- One stands at a place, the others around it. -/
def amd {β : Type} (o : List β) (x : β) (j : Nat) (q : List β) : List β := o.take j ++ x :: (o.drop j ++ q)
theorem amd_len {β : Type} (o : List β) (x : β) (j : Nat) (q : List β) (h : j ≤ o.length) : (amd o x j q).length = o.length + 1 + q.length := by
  unfold amd
  simp
  omega
theorem amd_at {β : Type} (d : β) (o : List β) (x : β) (j : Nat) (q : List β) (h : j ≤ o.length) : (amd o x j q).getD j d = x := by
  unfold amd
  rw [List.getD_eq_getElem?_getD, List.getElem?_append_right (by simp; omega)]
  simp [Nat.min_eq_left h]
theorem amd_below {β : Type} (d : β) (o : List β) (x : β) (j : Nat) (q : List β) (h : j < o.length) : (amd o x (j + 1) q).getD j d = o[j] := by
  unfold amd
  rw [List.getD_eq_getElem?_getD, List.getElem?_append_left (by simp; omega), List.getElem?_take_of_lt (by omega), List.getElem?_eq_getElem h]
  rfl
theorem amd_swap {β : Type} (o : List β) (x : β) (j : Nat) (q : List β) (h : j < o.length) : ((amd o x (j + 1) q).set (j + 1) o[j]).set j x = amd o x j q := by
  unfold amd
  rw [List.set_append_right _ _ (by simp; omega)]
  have e : j + 1 - (o.take (j + 1)).length = 0 := by simp; omega
  rw [e, List.set_cons_zero, List.take_succ_eq_append_getElem h, List.append_assoc, List.set_append_right _ _ (by simp; omega)]
  have e2 : j - (o.take j).length = 0 := by simp; omega
  rw [e2]
  simp
  rw [drop_cons h, List.cons_append]
abbrev allB (c : List DB) : List DB := c.filter fun b => !decide (b = (0, 0))
theorem allB_len (c : List DB) : (allB c).length ≤ c.length := List.length_filter_le _ _
theorem s_l01All : Fz38.S (cl Cr allB) := Fz38.of_cl s_l01Free fun c h k => by
  have hl : c.length = 12 := h
  unfold Fz38.pf
  refine iter_list c (fun i (o : List DB) => ((i : Int), o)) (fun q o => k (o ++ allB q)) (fun i o => o.length ≤ i) (c := []) rfl (big_lt (by omega)) (Nat.le_refl 0) ?_ ?_
  · rintro i hi o rec ho hrec
    unfold Fz38.B1
    simp only [decT (show (i : Int) < 12 by omega), inB_nat (show i < 12 by omega), cond_true, Int.toNat_natCast, getD_lt hi, tot_eq, Option.bind_some, w64n (show i < 9223372036854775807 by omega), allB, List.filter_cons]
    by_cases q : c[i] = (0, 0)
    · rw [decT q]
      exact hrec _ (by omega)
    · rw [decF q, okS (by simp; omega)]
      simp only [Bool.not_false, cond_true, if_true]
      exact (hrec _ (by simp; omega)).trans (by simp [allB])
  · rintro o rec _
    unfold Fz38.B1
    rw [decF (by simp only; omega)]
    simp [allB]
theorem srtB2 {α : Type} (p1 : Int) (l0 : List DB) (o : List DB) (x : DB) (q : List DB) (ho : o.length ≤ 1073741824) (K : List DB → Option α) (K1 : Int × List DB → Option α) (K0 : Int × List DB → Int → Option α)
    (h1 : ∀ (j : Nat) (c : List DB), j < c.length → K1 ((j : Int), c) = K (c.set j x)) (h0 : ∀ (j : Nat) (c : List DB) r, j < c.length → K0 ((j : Int), c) r = K (c.set j x)) :
    iter (Fz44.B2 (tot cmpB) p1 l0 x K0 K1) BIG ((o.length : Int), amd o x o.length q) = K (amd o x (spotB o x o.length) q) := by
  have key : ∀ (j fuel : Nat) (c : List DB), j < fuel → j ≤ o.length → c.length = o.length + 1 + q.length → c.set j x = amd o x j q → iter (Fz44.B2 (tot cmpB) p1 l0 x K0 K1) fuel ((j : Int), c) = K (amd o x (spotB o x j) q) := by
    intro j
    induction j with
    | zero =>
      intro fuel c hf _ hc he
      match fuel, hf with
      | f + 1, _ =>
        show Fz44.B2 _ p1 l0 x K0 K1 _ (((0 : Nat) : Int), _) = _
        unfold Fz44.B2
        rw [decF (by simp)]
        simp only [cond_false]
        rw [h1 0 c (by omega), he]
        rfl
    | succ j ih =>
      intro fuel c hf hj hc he
      match fuel, hf with
      | f + 1, hf =>
        show Fz44.B2 _ p1 l0 x K0 K1 (iter (Fz44.B2 (tot cmpB) p1 l0 x K0 K1) f) (((j + 1 : Nat) : Int), c) = _
        generalize hR : iter (Fz44.B2 (tot cmpB) p1 l0 x K0 K1) f = R
        unfold Fz44.B2
        have e : IntKind.i64.wrap (((j + 1 : Nat) : Int) - 1) = (j : Int) := by rw [w64 (by omega) (by omega)]; omega
        have hjo : j < o.length := by omega
        have hjc : j < c.length := by omega
        have hcj : c.getD j (0, 0) = o[j] := by
          have := amd_below (0, 0) o x j q hjo
          rw [← he, List.getD_eq_getElem?_getD, List.getElem?_set_ne (by omega), ← List.getD_eq_getElem?_getD] at this
          exact this
        simp only [e, decT (show ((j + 1 : Nat) : Int) > 0 by omega), inB_nat hjc, inB_nat (show j + 1 < c.length by omega), Int.toNat_natCast, cond_true, hcj, tot_eq, Option.bind_some, cmpB_lt]
        unfold spotB
        rw [getD_lt hjo]
        cases hb : bLt x o[j] with
        | true =>
          rw [if_pos rfl, cond_true, ← hR]
          refine ih f _ (by omega) (by omega) (by simpa using hc) ?_
          rw [← amd_swap o x j q hjo, ← he, List.set_set]
        | false => rw [if_neg (by simp), cond_false, h0 (j + 1) c _ (by omega), he]
  refine key _ _ _ (big_lt (by omega)) (Nat.le_refl _) (amd_len o x _ q (Nat.le_refl _)) ?_
  have hl := amd_len o x o.length q (Nat.le_refl _)
  refine List.ext_getElem (by simp) fun i h1 h2 => ?_
  rw [List.getElem_set]
  split
  · rename_i e
    subst e
    have := amd_at (0, 0) o x o.length q (Nat.le_refl _)
    rw [getD_lt h2] at this
    exact this.symm
  · rfl
theorem s_l01Sorted : Fz44.S (cl PL sortB) := Fz44.of_cl s_spec_Compare fun l h k => by
  have hl : l.length ≤ 1073741824 := h
  unfold Fz44.pf
  simp only [List.nil_append, List.length_nil]
  rw [okS (by omega), cond_true]
  match hq : l with
  | [] =>
    refine iter_to (fun _ => (1, [])) 0 (by rfl) (big_lt (by omega)) (fun k hk => absurd hk (Nat.not_lt_zero _)) fun rec => ?_
    unfold Fz44.B1
    rfl
  | y :: l' =>
    rw [← hq] at hl ⊢
    have hpos : 1 ≤ l.length := by rw [hq]; simp
    have h1 : sortB (l.take 1) ++ l.drop 1 = l := by rw [hq]; rfl
    have := iter_fold (B := Fz44.B1 (tot cmpB) BIG l fun (x1 : Int × List DB) => k x1.2) l (fun p (c : List DB) => ((p : Int), c)) (fun _ _ => k (sortB l)) (fun p c => 1 ≤ p ∧ c = sortB (l.take p) ++ l.drop p) ?_ ?_ (l.length - 1) 1 l BIG (by omega) (big_lt (by omega)) ⟨by omega, h1.symm⟩
    · exact this
    · rintro p hp c rec ⟨hp1, rfl⟩ hrec
      unfold Fz44.B1
      have ho : (sortB (l.take p)).length = p := by rw [sortB_len, List.length_take]; omega
      have e0 : sortB (l.take p) ++ l.drop p = amd (sortB (l.take p)) l[p] p (l.drop (p + 1)) := by
        unfold amd
        have t1 : (sortB (l.take p)).take p = sortB (l.take p) := List.take_of_length_le (by omega)
        have t2 : (sortB (l.take p)).drop p = [] := List.drop_eq_nil_of_le (by omega)
        rw [t1, t2, List.nil_append, drop_cons hp]
      have hlen : (sortB (l.take p) ++ l.drop p).length = l.length := by rw [List.length_append, ho, List.length_drop]; omega
      simp only [hlen, decT (show (p : Int) < (l.length : Int) by omega), inB_nat (show p < l.length by omega), cond_true, Int.toNat_natCast]
      have hx : (sortB (l.take p) ++ l.drop p).getD p (0, 0) = l[p] := by
        rw [e0]
        exact amd_at _ _ _ _ _ (by omega)
      rw [hx, e0]
      have e1 := srtB2 (p : Int) l (sortB (l.take p)) l[p] (l.drop (p + 1)) (by omega) (fun c => rec (IntKind.i64.wrap ((p : Int) + 1), c))
        (fun (x2 : Int × List DB) => cond (inB x2.1 (List.length x2.2)) (rec (((IntKind.i64.wrap ((p : Int) + 1)), (List.set x2.2 x2.1.toNat l[p])))) none)
        (fun (x2 : Int × List DB) (_ : Int) => cond (inB x2.1 (List.length x2.2)) (rec (((IntKind.i64.wrap ((p : Int) + 1)), (List.set x2.2 x2.1.toNat l[p])))) none)
        (fun j c hj => by simp only [inB_nat hj, cond_true, Int.toNat_natCast]) (fun j c r hj => by simp only [inB_nat hj, cond_true, Int.toNat_natCast])
      rw [ho] at e1
      refine e1.trans ?_
      simp only [w64n (show p < 9223372036854775807 by omega)]
      refine hrec _ ⟨by omega, ?_⟩
      rw [sortB_take l hp]
      unfold amd putB
      rw [ho, List.append_assoc, List.cons_append]
    · rintro c rec ⟨_, rfl⟩
      unfold Fz44.B1
      have hlen : (sortB (l.take l.length) ++ l.drop l.length).length = l.length := by rw [List.take_length, List.drop_length, List.append_nil, sortB_len]
      rw [decF (by simp only [hlen]; omega)]
      simp

theorem bLt_iff (x y : DB) : bLt x y = true ↔ x.1 < y.1 ∨ (x.1 = y.1 ∧ x.2 < y.2) := by
  unfold bLt
  simp
def leB (x y : DB) : Prop := bLt y x = false
theorem leB_iff (x y : DB) : leB x y ↔ ¬ (y.1 < x.1 ∨ (y.1 = x.1 ∧ y.2 < x.2)) := by
  unfold leB
  rw [← bLt_iff]
  simp
theorem leB_trans {x y z : DB} (h1 : leB x y) (h2 : leB y z) : leB x z := by
  rw [leB_iff] at *
  omega
theorem leB_refl (x : DB) : leB x x := by
  rw [leB_iff]
  omega
theorem leB_anti {x y : DB} (h1 : leB x y) (h2 : leB y x) : x = y := by
  rw [leB_iff] at *
  refine Prod.ext ?_ ?_ <;> omega
theorem leB_of_lt {x y : DB} (h : bLt x y = true) : leB x y := by
  rw [leB_iff]
  rw [bLt_iff] at h
  omega
theorem spotB_spec (o : List DB) (x : DB) : ∀ j, j ≤ o.length → (∀ i, spotB o x j ≤ i → i < j → bLt x (o.getD i (0, 0)) = true) ∧ (∀ i, i + 1 = spotB o x j → bLt x (o.getD i (0, 0)) = false)
  | 0, _ => ⟨fun i _ h => absurd h (Nat.not_lt_zero i), fun i h => by simp [spotB] at h⟩
  | j + 1, h => by
    obtain ⟨h1, h2⟩ := spotB_spec o x j (by omega)
    unfold spotB
    split
    · rename_i c
      refine ⟨fun i hi hj => ?_, h2⟩
      rcases Nat.lt_or_ge i j with q | q
      · exact h1 i hi q
      · obtain rfl : i = j := by omega
        exact c
    · rename_i c
      refine ⟨fun i hi hj => by omega, fun i hi => ?_⟩
      obtain rfl : i = j := by omega
      simpa using c
def SortedB (l : List DB) : Prop := l.Pairwise leB
theorem SortedB.get {l : List DB} (h : SortedB l) {i j : Nat} (hij : i ≤ j) (hj : j < l.length) : leB (l.getD i (0, 0)) (l.getD j (0, 0)) := by
  rcases Nat.lt_or_eq_of_le hij with q | rfl
  · rw [getD_lt (by omega : i < l.length), getD_lt hj]
    exact List.pairwise_iff_getElem.1 h i j (by omega) hj q
  · exact leB_refl _
theorem putB_sorted {o : List DB} {x : DB} (h : SortedB o) : SortedB (putB o x) := by
  obtain ⟨h1, h2⟩ := spotB_spec o x o.length (Nat.le_refl _)
  have hk := spotB_le o x o.length
  unfold putB
  generalize spotB o x o.length = k at *
  have ht : ∀ a, a ∈ o.take k → leB a x := by
    intro a ha
    obtain ⟨i, hi, rfl⟩ := List.mem_iff_getElem.1 ha
    rw [List.length_take] at hi
    rw [List.getElem_take]
    have h3 := h2 (k - 1) (by omega)
    have h4 := h.get (i := i) (j := k - 1) (by omega) (by omega)
    rw [getD_lt (by omega : i < o.length)] at h4
    exact leB_trans h4 h3
  have hd : ∀ b, b ∈ o.drop k → leB x b := by
    intro b hb
    obtain ⟨i, hi, rfl⟩ := List.mem_iff_getElem.1 hb
    rw [List.length_drop] at hi
    rw [List.getElem_drop]
    have h3 := h1 (k + i) (by omega) (by omega)
    rw [getD_lt (by omega : k + i < o.length)] at h3
    exact leB_of_lt h3
  unfold SortedB at *
  rw [List.pairwise_append, List.pairwise_cons]
  rw [← List.take_append_drop k o, List.pairwise_append] at h
  refine ⟨h.1, ⟨hd, h.2.1⟩, fun a ha b hb => ?_⟩
  rcases List.mem_cons.1 hb with rfl | hb
  · exact ht a ha
  · exact h.2.2 a ha b hb
theorem sortB_sorted (l : List DB) : SortedB (sortB l) := by
  have key : ∀ (l o : List DB), SortedB o → SortedB (l.foldl putB o) := by
    intro l
    induction l with
    | nil => intro o h; exact h
    | cons x l ih => intro o h; exact ih _ (putB_sorted h)
  exact key l [] List.Pairwise.nil
theorem notDT {p : Prop} [Decidable p] (h : p) : (!decide p) = false := by rw [decT h]; rfl
theorem notDF {p : Prop} [Decidable p] (h : ¬ p) : (!decide p) = true := by rw [decF h]; rfl
/-- How many there are of each, one after another. -/
def addRun (o : List DS) (b : DB) : List DS := match o.getLast? with
  | some x => if x.1 = b then o.dropLast ++ [(b, x.2 + 1)] else o ++ [(b, 1)]
  | none => [(b, 1)]
def runs (l : List DB) : List DS := l.foldl addRun []
theorem runs_take (l : List DB) {p : Nat} (h : p < l.length) : runs (l.take (p + 1)) = addRun (runs (l.take p)) l[p] := by
  unfold runs
  rw [List.take_succ_eq_append_getElem h, List.foldl_append]
  rfl
theorem addRun_last (o : List DS) (b : DB) : ∃ q n, addRun o b = q ++ [(b, n)] := by
  unfold addRun
  split
  · split
    · exact ⟨_, _, rfl⟩
    · exact ⟨_, _, rfl⟩
  · exact ⟨[], 1, rfl⟩
theorem runs_last (l : List DB) {p : Nat} (h : p < l.length) : ∃ q n, runs (l.take (p + 1)) = q ++ [(l[p], n)] := by
  rw [runs_take l h]
  exact addRun_last _ _
theorem runs_bd (l : List DB) : ∀ p, p ≤ l.length → (runs (l.take p)).length ≤ p ∧ ∀ x, x ∈ runs (l.take p) → 0 ≤ x.2 ∧ x.2 ≤ p
  | 0, _ => by simp [runs]
  | p + 1, h => by
    obtain ⟨h1, h2⟩ := runs_bd l p (by omega)
    rw [runs_take l h]
    generalize runs (l.take p) = o at *
    unfold addRun
    split
    · rename_i y hy
      have hm : y ∈ o := List.mem_of_getLast? hy
      have hb := h2 y hm
      have ho : 0 < o.length := List.length_pos_of_mem hm
      split
      · refine ⟨by simp; omega, fun x hx => ?_⟩
        rcases List.mem_append.1 hx with hx | hx
        · have := h2 x ((List.dropLast_prefix _).subset hx); omega
        · obtain rfl := List.mem_singleton.1 hx
          simp only; omega
      · refine ⟨by simp; omega, fun x hx => ?_⟩
        rcases List.mem_append.1 hx with hx | hx
        · have := h2 x hx; omega
        · obtain rfl := List.mem_singleton.1 hx
          simp only; omega
    · refine ⟨by simp, fun x hx => ?_⟩
      obtain rfl := List.mem_singleton.1 hx
      simp only; omega
theorem snoc_set {β : Type} (q : List β) (x y : β) : (q ++ [x]).set q.length y = q ++ [y] := by
  rw [List.set_append_right _ _ (Nat.le_refl _), Nat.sub_self]
  rfl
theorem snoc_getD {β : Type} (q : List β) (x d : β) : (q ++ [x]).getD q.length d = x := by
  rw [List.getD_eq_getElem?_getD, List.getElem?_append_right (Nat.le_refl _), Nat.sub_self]
  rfl
theorem s_l01Counts : Fz40.S (cl PL runs) := Fz40.of_cl fun l h k => by
  have hl : l.length ≤ 1073741824 := h
  unfold Fz40.pf
  refine iter_list l (fun p (o : List DS) => ((p : Int), o)) (fun _ _ => k (runs l)) (fun p o => o = runs (l.take p)) (c := []) rfl (big_lt (by omega)) rfl ?_ ?_
  · rintro p hp o rec rfl hrec
    obtain ⟨b1, b2⟩ := runs_bd l p (by omega)
    have hr := runs_take l hp
    have hnew : ∀ o : List DS, o.length ≤ p → ((((o ++ [(l[p], (0 : Int))]).length : Nat) : Int) - 1 = (o.length : Int)) := fun o ho => by simp
    unfold Fz40.B1
    have app : ∀ o : List DS, o.length ≤ p → rec (((p + 1 : Nat) : Int), o ++ [(l[p], 1)]) = (cond (okL (List.length o + List.length [(l[p], (0 : Int))])) (cond (inB (IntKind.i64.wrap ((((List.length (o ++ [(l[p], (0 : Int))])) : Nat) : Int) - 1)) (List.length (o ++ [(l[p], (0 : Int))]))) (cond (inB (IntKind.i64.wrap ((((List.length (o ++ [(l[p], (0 : Int))])) : Nat) : Int) - 1)) (List.length (o ++ [(l[p], (0 : Int))]))) (rec (((p + 1 : Nat) : Int), (List.set (o ++ [(l[p], (0 : Int))]) (IntKind.i64.wrap ((((List.length (o ++ [(l[p], (0 : Int))])) : Nat) : Int) - 1)).toNat ((List.getD (o ++ [(l[p], (0 : Int))]) (IntKind.i64.wrap ((((List.length (o ++ [(l[p], (0 : Int))])) : Nat) : Int) - 1)).toNat ((0, 0), 0)).1, (IntKind.i64.wrap ((List.getD (o ++ [(l[p], (0 : Int))]) (IntKind.i64.wrap ((((List.length (o ++ [(l[p], (0 : Int))])) : Nat) : Int) - 1)).toNat ((0, 0), 0)).2 + 1)))))) none) none) none) := fun o ho => by
      rw [okS (by simp; omega), hnew o ho, w64 (by omega) (by omega), inB_nat (by simp)]
      simp only [cond_true, Int.toNat_natCast, snoc_getD, snoc_set]
      rw [w64 (by omega) (by omega)]
      rfl
    by_cases c : p = 0
    · subst c
      have e0 : runs (l.take 0) = [] := rfl
      simp only [decT (show ((0 : Nat) : Int) < (l.length : Int) by omega), inB_nat hp, cond_true, Int.toNat_natCast, getD_lt hp, e0, w64n (show 0 < 9223372036854775807 by omega), beqT (show ((0 : Nat) : Int) = 0 from rfl)]
      refine (app [] (Nat.le_refl _)).symm.trans ?_
      exact hrec _ (by rw [hr, e0]; rfl)
    · have ep : IntKind.i64.wrap ((p : Int) - 1) = ((p - 1 : Nat) : Int) := by rw [w64 (by omega) (by omega)]; omega
      have hp1 : p - 1 < l.length := by omega
      obtain ⟨q, n, hq⟩ := runs_last l hp1
      rw [show p - 1 + 1 = p by omega] at hq
      rw [beqF (by omega)]
      simp only [decT (show (p : Int) < (l.length : Int) by omega), inB_nat hp, ep, inB_nat hp1, cond_true, cond_false, Int.toNat_natCast, getD_lt hp, getD_lt hp1, eqB, w64n (show p < 9223372036854775807 by omega)]
      by_cases cc : l[p] = l[p - 1]
      · rw [notDT cc, cond_false]
        have hlen : (((runs (l.take p)).length : Nat) : Int) - 1 = (q.length : Int) := by rw [hq]; simp
        have hn := b2 (l[p - 1], n) (by rw [hq]; simp)
        simp only at hn
        rw [hlen, w64 (by omega) (by rw [hq] at b1; simp at b1; omega), inB_nat (by rw [hq]; simp)]
        simp only [cond_true, Int.toNat_natCast]
        rw [hq, snoc_getD, snoc_set]
        simp only
        rw [w64 (by omega) (by omega)]
        refine hrec _ ?_
        rw [hr, hq]
        unfold addRun
        simp [cc]
      · rw [notDF cc, cond_true]
        refine (app _ b1).symm.trans (hrec _ ?_)
        rw [hr, hq]
        unfold addRun
        simp
        exact fun e => absurd e.symm cc
  · rintro o rec rfl
    unfold Fz40.B1
    rw [decF (by simp), List.take_of_length_le (Nat.le_refl _)]
    rfl
abbrev TyB : Ty := .st (.pair (.int .u8) (.int .i16))
def celB (x : DB) : List Value := [.int .u8 x.1, .int .i16 x.2]
def cfB (x y : DB) : Int := cmpB (x, y)
theorem ltB (x y : DB) : Go.Proofs.ltOf cfB x y = bLt x y := cmpB_lt x y
theorem swoB : Go.Sort.SWO (Go.Proofs.ltOf cfB) where
  irrefl x := by
    rw [ltB]
    exact leB_refl x
  trans x y z h1 h2 := by
    rw [ltB, bLt_iff] at *
    omega
  ntrans x y z h1 h2 := by
    rw [ltB] at *
    exact leB_trans (x := z) (y := y) (z := x) h2 h1
theorem sortB_merge (l : List DB) : (l.mergeSort fun x y => !(Go.Proofs.ltOf cfB) y x) = sortB l := by
  refine List.Perm.eq_of_pairwise (le := leB) (fun a b _ _ h1 h2 => leB_anti h1 h2) ?_ (sortB_sorted l) ((List.mergeSort_perm _ _).trans (sortB_perm l).symm)
  refine (List.pairwise_mergeSort (le := fun x y => !(Go.Proofs.ltOf cfB) y x) ?_ ?_ l).imp ?_
  · intro a b c h1 h2
    simp only [ltB, Bool.not_eq_true'] at *
    exact leB_trans (x := a) (y := b) (z := c) h1 h2
  · intro a b
    simp only [ltB, Bool.or_eq_true, Bool.not_eq_true']
    rcases Bool.eq_false_or_eq_true (bLt b a) with h | h
    · exact .inr (leB_of_lt h)
    · exact .inl h
  · intro a b h
    simp only [ltB, Bool.not_eq_true'] at h
    exact h
/-- A call that answers a whole number: what lay stays, and no fewer draws. -/
theorem Sound.int {P : Program} {W : World} {f : FuncId} {A : Type} {dec : List AV → Option A} {fn : A → Option Int} {enc : List AV → Int → Res} (S : Sound P f (mkSig [] dec fn enc)) (henc : ∀ avs r, enc avs r = ⟨[.val (.int .i64) r], []⟩) {avs : List AV} {vs : List Value} (h : All2 (EntryOk W) avs vs) {x : A} (hd : dec avs = some x)
    {b : Int} (hx : fn x = some b) (hgo : GO W []) : Calls P f vs.toArray W fun e W' => e = .returned (.int .i64 b) ∧ Fr [] W W' := by
  obtain ⟨gh, hR⟩ := entry_R h hgo
  have := S.does avs ⟨[.val (.int .i64) b], []⟩ (by simp only [mkSig, hd, hx]; rw [← henc avs b]; rfl) vs W gh [] hR
  refine this.mono (fun e w' he => ?_)
  cases e with
  | returned v =>
    obtain ⟨objs', g', xs', vs', Rc, hou, _, rfl⟩ := he
    refine ⟨?_, Rc.frame⟩
    have hall : All2 (SRel objs' g') xs' vs' := by
      have t1 := Rc.tm
      simp only [List.size_toArray] at t1
      refine ⟨t1.symm, fun i x y hx hy => ?_⟩
      have hi := (List.getElem?_eq_some_iff.1 hx).1
      have := Rc.slots i hi
      rw [List.getD_eq_getElem?_getD, hx] at this
      rw [show vs'.toArray.getD i undef = y by
        have hi2 := (List.getElem?_eq_some_iff.1 hy).1
        have e := (List.getElem?_eq_some_iff.1 hy).2
        simp [hi2, e]] at this
      exact this
    have hrel := plain_rel xs' vs' [] _ [.val (.int .i64) b] hall hou rfl [] g'
    · match vs', hrel with
      | [v'], hrel =>
        have := (hrel.2 0 _ _ rfl rfl).2.2
        show Ending.returned v' = _
        rw [this]
        rfl
      | [], hrel => have := hrel.1; simp at this
      | _ :: _ :: _, hrel => have := hrel.1; simp at this
  | panicked _ => exact he.elim
  | outgrown => exact he.elim
theorem grown_of (hD : DR) {w w' : World} (h : Fr [] w w') : ∃ q os', w' = Go.Sort.grow (w.drewN q) os' := by
  refine ⟨w'.drawn - w.drawn, w'.heap.extract w.heap.size w'.heap.size, ?_⟩
  obtain ⟨h1, h2, h3, h4, h5⟩ := h
  obtain ⟨h2, h6⟩ := h2
  have h6 := h6 hD
  have e : w'.heap = w.heap ++ w'.heap.extract w.heap.size w'.heap.size := by
    refine Array.ext_getElem? fun k => ?_
    by_cases c : k < w.heap.size
    · rw [Array.getElem?_append_left c, h5 k c (by simp)]
    · rw [Array.getElem?_append_right (by omega)]
      simp only [Array.getElem?_extract]
      by_cases c2 : k < w'.heap.size
      · rw [if_pos (by omega)]
        congr 1
        omega
      · rw [if_neg (by omega), Array.getElem?_eq_none (by omega)]
  obtain ⟨hp, tp, dr, os, ou⟩ := w'
  obtain ⟨hp', tp', dr', os', ou'⟩ := w
  simp only at h1 h2 h3 h6 e
  subst h1 h2 h3
  unfold Go.Sort.grow World.drewN
  simp only
  rw [← e, show dr' + (dr - dr') = dr by omega]
theorem hDR : DR := trivial
theorem calls_cmp (x y : DB) (W : World) : Calls Try.prog 113 #[.agg (celB x).toArray, .agg (celB y).toArray] W fun e w' => e = .returned (.int .i64 (cfB x y)) ∧ ∃ q os', w' = Go.Sort.grow (W.drewN q) os' := by
  have := Sound.int (W := W) s_compare (fun _ _ => rfl) (avs := [.val TyB x, .val TyB y]) (vs := [.agg (celB x).toArray, .agg (celB y).toArray]) (x := (x, y)) (b := cfB x y) ?_ rfl rfl (go0 rfl _ _)
  · exact this.mono fun e w' ⟨he, hf⟩ => ⟨he, grown_of hDR hf⟩
  · exact All2.cons_iff.2 ⟨⟨rfl, ⟨trivial, trivial⟩, rfl⟩, All2.cons_iff.2 ⟨⟨rfl, ⟨trivial, trivial⟩, rfl⟩, All2.nil _⟩⟩
theorem cel_len (x : DB) : (celB x).length = 2 := rfl
theorem cel_at (l : List DB) : ∀ t, t < l.length * 2 → (l.flatMap celB)[t]? = (celB (l.getD (t / 2) (0, 0)))[t % 2]? := by
  induction l with
  | nil => intro t h; simp at h
  | cons x l ih =>
    intro t h
    rw [List.flatMap_cons]
    match t, h with
    | 0, _ => rfl
    | 1, _ => rfl
    | t + 2, h =>
      rw [List.getElem?_append_right (by rw [cel_len]; omega), cel_len, show t + 2 - 2 = t by omega, ih t (by simp only [List.length_cons] at h; omega), show (t + 2) / 2 = t / 2 + 1 by omega, show (t + 2) % 2 = t % 2 by omega]
      rfl
theorem cel_flat (l : List DB) : (l.flatMap celB).length = l.length * 2 := by
  induction l with
  | nil => rfl
  | cons x l ih => rw [List.flatMap_cons, List.length_append, ih, cel_len, List.length_cons]; omega
theorem flatK_at (l : List DB) (t : Nat) (h : t < l.length * 2) : (l.flatMap celB)[t]? = some (Go.Sort.flatK celB 2 l.toArray)[t]! := by
  rw [cel_at l t h, Go.Sort.get_flatK celB 2 l.toArray t (by simpa using h)]
  have h2 : t / 2 < l.length := by omega
  rw [getD_lt h2]
  have e : l.toArray[t / 2]! = l[t / 2] := by rw [getElem!_pos _ _ (by simpa using h2)]; simp
  rw [e]
  have h3 : t % 2 < (celB l[t / 2]).length := by rw [cel_len]; omega
  rw [List.getElem?_eq_getElem h3, getElem!_pos (celB l[t / 2]) (t % 2) h3]
theorem many_flat (l l2 : List DB) (h : l2.length = l.length) : Go.Sort.setMany (Go.Sort.flatK celB 2 l.toArray) 0 (l2.flatMap celB) = Go.Sort.flatK celB 2 l2.toArray := by
  refine Go.Sort.ext_get! (by simp [h]) fun t ht => ?_
  have ht : t < l.length * 2 := by simpa using ht
  rw [Go.Sort.get_setMany _ _ _ t (by simpa using ht), if_pos ⟨Nat.zero_le _, by rw [cel_flat, h]; omega⟩, Nat.sub_zero]
  have := flatK_at l2 t (by rw [h]; exact ht)
  rw [getElem!_pos _ t (by rw [cel_flat, h]; exact ht)]
  rw [List.getElem?_eq_getElem (by rw [cel_flat, h]; exact ht)] at this
  exact Option.some.inj this
theorem cells_row (l : List DB) (locs : Nat → TyB.loc) : rowCells TyB l locs = l.flatMap celB := by
  have e : ∀ i, cells TyB (List.getD l i (0, 0)) (locs i) = celB (List.getD l i (0, 0)) := fun i => rfl
  show ((List.range l.length).flatMap fun i => cells TyB (List.getD l i (0, 0)) (locs i)) = _
  rw [show (fun i => cells TyB (List.getD l i (0, 0)) (locs i)) = fun i => celB (List.getD l i (0, 0)) from funext e]
  clear e locs
  induction l with
  | nil => rfl
  | cons x l ih =>
    rw [List.length_cons, List.range_succ_eq_map, List.flatMap_cons, List.flatMap_cons, List.flatMap_map]
    exact congrArg (celB x ++ ·) ih
theorem s_SortFuncL : Fz34.S (cl PL sortB) where
  fn := ⟨Try.f112, by kernel_rfl, by decide, by decide⟩
  does := fun avs r hr vs w gh MBb hR => by
    obtain ⟨x, y, h1, h2, rfl⟩ := mkSig_run hr
    obtain ⟨e0, rfl⟩ := Fz34.dec_eq h1
    obtain ⟨hp, rfl⟩ := cl_some h2
    have hp : x.length ≤ 1073741824 := hp
    have hR : R 2 w ⟨MBb, _⟩ ⟨[.sl 0 [] none, .fn 113 []], [some (.dat ⟨e0, TyB, x, true, false, none⟩)]⟩ gh ⟨vs.toArray, []⟩ w := hR
    have hsz : vs.length = 2 := by simpa using hR.tm
    match vs, hsz with
    | [v0, v1], _ =>
      have a1 : SRel [some (.dat ⟨e0, TyB, x, true, false, none⟩)] gh (.fn 113 []) v1 := hR.slots 1 (by omega)
      obtain ⟨us, rfl, hus⟩ := a1
      obtain rfl : us = [] := List.eq_nil_of_length_eq_zero hus.1.symm
      obtain ⟨A, c, q1, q2, q3⟩ := sl_root hR (x := .tmp 0) (n := 0) (wn := none) rfl rfl
      have q1 : v0 = .slice A x.length c := q1
      subst q1
      rcases hR.dat 0 _ rfl with hm | ⟨hrow, _⟩
      · exact absurd hm Bool.false_ne_true
      · rcases Nat.eq_zero_or_pos x.length with h0 | h0
        · have hn : x = [] := List.eq_nil_of_length_eq_zero h0
          subst hn
          refine (Go.Proofs.AnyF.slices_SortFunc_none Try.sortB A c (.func (.func 113) #[] #[]) w).mono fun e w' ⟨he, hw⟩ => ?_
          subst he hw
          exact ⟨_, gh, [], [], hR.ret (Go.RowKit.Below.refl _ _) (fun _ => Nat.le_refl _) [] [] (All2.nil _), rfl, rfl, rfl⟩
        · obtain ⟨b, o, eA, eA2⟩ := q3 h0
          obtain ⟨b', o', eA', hb, hr⟩ := hrow.at_ h0
          have eA' : (gh.G 0 TyB).1.A = some ⟨b', o', none⟩ := eA'
          rw [eA] at eA'
          simp only [Option.some.injEq, Addr.mk.injEq, and_true] at eA'
          obtain ⟨rfl, rfl⟩ := eA'
          have eA2 : A = some ⟨b, o, none⟩ := by rw [eA2]; simp [Win.off]
          subst eA2
          obtain ⟨b2, o2, arr, e2, f1, f2, _⟩ := hrow.own rfl (Nat.lt_of_lt_of_le h0 hrow.le)
          have f1 : (gh.G 0 TyB).1.A = some ⟨b2, o2, none⟩ := f1
          rw [eA] at f1
          simp only [Option.some.injEq, Addr.mk.injEq, and_true] at f1
          obtain ⟨rfl, rfl⟩ := f1
          rw [cells_row] at hr
          have hH : Go.Sort.HoldsK celB 2 w b o x.toArray := fun j hj => by
            have hj : j < x.length * 2 := by simpa using hj
            refine ⟨hr j _ (flatK_at x j hj), ?_⟩
            unfold World.frozen?
            rw [f2]
            simp
          have C := Go.Proofs.AnyQ.slices_SortFunc_total Try.sortB 2 Try.isAgg41 Try.sizeOf41 celB cel_len (fun x v hv => by simp [celB] at hv; rcases hv with rfl | rfl <;> rfl) cfB swoB 113 #[] b o c x.toArray w (enters_of Try.func113 (by kernel_rfl) rfl) (fun m os dk hdk x y => calls_cmp x y _) hH hb (by simp; omega) (fun x y h1 h2 => by rw [ltB] at h1 h2; exact leB_anti h2 h1)
          rw [show x.toArray.size = x.length by simp, show x.toArray.toList = x by simp, sortB_merge] at C
          refine C.mono fun e w' ⟨he, n, os, hw⟩ => ?_
          subst he
          have R1 := hR.drawn (w.drawn + n) (Nat.le_add_right _ _)
          obtain ⟨g', R2⟩ := R.over (t := TyB) rfl (x := .tmp 0) (A := some ⟨b, o, none⟩) (len := x.length) (c := c) rfl (sortB x) 0 _ _ _ x R1 (wn := none) rfl rfl (fun y _ => ⟨trivial, trivial⟩) (by rw [sortB_len]; omega) b o (fun _ => rfl)
          have eo : overL x (Win.off none + 0) (sortB x) = sortB x := by
            unfold overL
            rw [show Win.off none + 0 = 0 from rfl, sortB_len, Nat.zero_add, List.drop_length]
            simp
          have ew : ({ w with drawn := w.drawn + n } : World).setCells b (o + 0 * TyB.size) ((sortB x).flatMap fun y => cells TyB y TyB.dloc) = Go.Sort.putRowK celB 2 (Go.Sort.ahead w n) b o (sortB x).toArray := by
            have h1 : Go.Sort.putRow id (Go.Sort.ahead w n) b o (Go.Sort.flatK celB 2 x.toArray) = Go.Sort.ahead w n := Go.Sort.putRow_self id _ _ _ _ (Go.Sort.holdsK_ahead celB 2 w n b o _ hH)
            have h2 := Go.Sort.setCells_putRow (Go.Sort.ahead w n) b o ((sortB x).flatMap celB) 0 (Go.Sort.flatK celB 2 x.toArray) (by rw [cel_flat, sortB_len]; simp)
            rw [h1, many_flat _ _ (sortB_len x)] at h2
            rw [Nat.zero_mul]
            exact h2
          rw [eo, ew] at R2
          subst hw
          refine ⟨_, g', [], [], R2.ret (w' := Go.Proofs.sortWorldK celB 2 w b o n (sortB x).toArray os) ⟨rfl, rfl, rfl, ?_, fun k hk => ?_⟩ (fun _ => Nat.le_refl _) [] [] (All2.nil _), rfl, rfl, rfl⟩
          · unfold Go.Proofs.sortWorldK Go.Sort.grow
            simp
          · unfold Go.Proofs.sortWorldK Go.Sort.grow
            simp only
            rw [Array.getElem?_append_left hk]
def flatB (s : List (List DB)) : List DB := s.flatMap allB
def whole (s : List (List DB)) : List DB := sortB (flatB s)
def wS12 (s : List (List DB)) : Prop := s.length ≤ 12 ∧ ∀ c, c ∈ s → c.length = 12
theorem flatB_len : ∀ (s : List (List DB)), (∀ c, c ∈ s → c.length = 12) → (flatB s).length ≤ 12 * s.length
  | [], _ => by simp [flatB]
  | c :: s, h => by
    have h1 := flatB_len s fun x hx => h x (List.mem_cons_of_mem _ hx)
    have h2 := allB_len c
    rw [h c (List.mem_cons_self ..)] at h2
    unfold flatB at *
    rw [List.flatMap_cons, List.length_append, List.length_cons]
    omega
theorem flatB_take (s : List (List DB)) {p : Nat} (h : p < s.length) : flatB (s.take (p + 1)) = flatB (s.take p) ++ allB s[p] := by
  unfold flatB
  rw [List.take_succ_eq_append_getElem h, List.flatMap_append]
  simp
theorem wS12.tk {s : List (List DB)} (h : wS12 s) (p : Nat) : (flatB (s.take p)).length ≤ 144 := by
  have := flatB_len (s.take p) fun c hc => h.2 c (List.take_subset p s hc)
  have h1 := h.1
  rw [List.length_take] at this
  omega
theorem whole_len {s : List (List DB)} (h : wS12 s) : (whole s).length ≤ 144 := by
  have := h.tk s.length
  rw [List.take_length] at this
  unfold whole
  rw [sortB_len]
  exact this
theorem s_allOf : impl_allOf.S (cl wS12 whole) := impl_allOf.of_cl s_crateBottles s_SortFuncL fun s h k => by
  obtain ⟨h1, h2⟩ := h
  unfold impl_allOf.pf
  refine iter_list s (fun p (o : List DB) => ((p : Int), o)) (fun _ _ => k (whole s)) (fun p o => o = flatB (s.take p)) (c := []) rfl (big_lt (by omega)) rfl ?_ ?_
  · rintro p hp o rec rfl hrec
    have hb := wS12.tk ⟨h1, h2⟩ p
    have hb1 := wS12.tk ⟨h1, h2⟩ (p + 1)
    rw [flatB_take s hp, List.length_append] at hb1
    unfold impl_allOf.B1
    simp only [decT (show (p : Int) < (s.length : Int) by omega), inB_nat hp, cond_true, Int.toNat_natCast, getD_lt hp, cl_eq (show Cr s[p] from h2 _ (List.getElem_mem hp)), Option.bind_some, w64n (show p < 9223372036854775807 by omega)]
    rw [okS (show (flatB (s.take p)).length + (allB s[p]).length ≤ 4294967296 by omega), cond_true]
    exact hrec _ (flatB_take s hp).symm
  · rintro o rec rfl
    unfold impl_allOf.B1
    have hb := wS12.tk ⟨h1, h2⟩ s.length
    rw [List.take_length] at hb ⊢
    rw [decF (by simp only; omega), cond_false]
    show (cl PL sortB (flatB s)).bind _ = _
    rw [cl_eq (show PL (flatB s) by unfold PL; omega), Option.bind_some]
    rfl
theorem s_l01Whole : Fz46.S (cl wS12 whole) := Fz46.of_cl s_l01All s_l01Sorted fun s h k => by
  obtain ⟨h1, h2⟩ := h
  unfold Fz46.pf
  refine iter_list s (fun p (o : List DB) => ((p : Int), o)) (fun _ _ => k (whole s)) (fun p o => o = flatB (s.take p)) (c := []) rfl (big_lt (by omega)) rfl ?_ ?_
  · rintro p hp o rec rfl hrec
    have hb1 := wS12.tk ⟨h1, h2⟩ (p + 1)
    rw [flatB_take s hp, List.length_append] at hb1
    unfold Fz46.B1
    simp only [decT (show (p : Int) < (s.length : Int) by omega), inB_nat hp, cond_true, Int.toNat_natCast, getD_lt hp, cl_eq (show Cr s[p] from h2 _ (List.getElem_mem hp)), Option.bind_some, w64n (show p < 9223372036854775807 by omega)]
    rw [okS (by omega), cond_true]
    exact hrec _ (flatB_take s hp).symm
  · rintro o rec rfl
    unfold Fz46.B1
    have hb := wS12.tk ⟨h1, h2⟩ s.length
    rw [List.take_length] at hb ⊢
    rw [decF (by simp only; omega), cond_false]
    show (cl PL sortB (flatB s)).bind _ = _
    rw [cl_eq (show PL (flatB s) by unfold PL; omega), Option.bind_some]
    rfl
abbrev noC : List DB := List.replicate 12 (0, 0)
def stepPk (o : List (List DB)) (i : Nat) (b : DB) : List (List DB) :=
  if i % 12 = 0 then (o ++ [noC]).set (i / 12) (((o ++ [noC]).getD (i / 12) noC).set (i % 12) b) else o.set (i / 12) ((o.getD (i / 12) noC).set (i % 12) b)
def pk (l : List DB) : List (List DB) := l.zipIdx.foldl (fun o x => stepPk o x.2 x.1) []
theorem pk_take (l : List DB) {p : Nat} (h : p < l.length) : pk (l.take (p + 1)) = stepPk (pk (l.take p)) p l[p] := by
  unfold pk
  rw [List.take_succ_eq_append_getElem h, List.zipIdx_append, List.foldl_append, List.length_take, Nat.min_eq_left (Nat.le_of_lt h)]
  simp
theorem pk_inv (l : List DB) : ∀ p, p ≤ l.length → (pk (l.take p)).length = (p + 11) / 12 ∧ ∀ c, c ∈ pk (l.take p) → c.length = 12
  | 0, _ => by simp [pk]
  | p + 1, h => by
    obtain ⟨h1, h2⟩ := pk_inv l p (by omega)
    rw [pk_take l h]
    generalize pk (l.take p) = o at *
    have key : ∀ (o : List (List DB)) (i j : Nat) (b : DB), (∀ c, c ∈ o → c.length = 12) → ∀ c, c ∈ o.set i ((o.getD i noC).set j b) → c.length = 12 := by
      intro o i j b ho c hc
      rcases List.mem_or_eq_of_mem_set hc with hc | rfl
      · exact ho c hc
      · rw [List.length_set]
        by_cases q : i < o.length
        · rw [getD_lt q]
          exact ho _ (List.getElem_mem q)
        · rw [List.getD_eq_getElem?_getD, List.getElem?_eq_none (by omega)]
          rfl
    unfold stepPk
    split
    · refine ⟨by rw [List.length_set, List.length_append, List.length_singleton]; omega, key _ _ _ _ fun c hc => ?_⟩
      rcases List.mem_append.1 hc with hc | hc
      · exact h2 c hc
      · obtain rfl := List.mem_singleton.1 hc
        rfl
    · exact ⟨by rw [List.length_set]; omega, key _ _ _ _ h2⟩
theorem pk_len (l : List DB) : (pk l).length = (l.length + 11) / 12 := by
  have := (pk_inv l l.length (Nat.le_refl _)).1
  rwa [List.take_length] at this
theorem pk_cr (l : List DB) : ∀ c, c ∈ pk l → c.length = 12 := by
  have := (pk_inv l l.length (Nat.le_refl _)).2
  rwa [List.take_length] at this
theorem tmod12 (p : Nat) : Int.tmod (p : Int) 12 = ((p % 12 : Nat) : Int) := by rw [Int.tmod_eq_emod_of_nonneg (by omega)]; rfl
theorem tdiv12 (p : Nat) : Int.tdiv (p : Int) 12 = ((p / 12 : Nat) : Int) := by rw [Int.tdiv_eq_ediv_of_nonneg (by omega)]; rfl
theorem s_packed : Fz15.S (cl PL pk) := Fz15.of_cl fun l h k => by
  have hl : l.length ≤ 1073741824 := h
  unfold Fz15.pf
  refine iter_list l (fun p (o : List (List DB)) => ((p : Int), o)) (fun _ _ => k (pk l)) (fun p o => o = pk (l.take p)) (c := []) rfl (big_lt (by omega)) rfl ?_ ?_
  · rintro p hp o rec rfl hrec
    have hr := pk_take l hp
    obtain ⟨b1, b2⟩ := pk_inv l p (by omega)
    generalize pk (l.take p) = o at *
    unfold Fz15.B1
    simp only [decT (show (p : Int) < (l.length : Int) by omega), inB_nat hp, cond_true, Int.toNat_natCast, getD_lt hp, w64n (show p < 9223372036854775807 by omega), tmod12, tdiv12, w64 (show -9223372036854775808 ≤ ((p / 12 : Nat) : Int) by omega) (show ((p / 12 : Nat) : Int) ≤ 9223372036854775807 by omega), beqF (show (12 : Int) ≠ 0 by omega), cond_false, inB_nat (show p % 12 < 12 by omega)]
    unfold stepPk at hr
    by_cases c : p % 12 = 0
    · rw [if_pos c] at hr
      rw [beqT (by omega), cond_true, okS (by rw [List.length_singleton]; omega), cond_true, inB_nat (by rw [List.length_append, List.length_singleton]; omega), cond_true]
      exact hrec _ hr.symm
    · rw [if_neg c] at hr
      rw [beqF (by omega), cond_false, inB_nat (by omega), cond_true]
      exact hrec _ hr.symm
  · rintro o rec rfl
    unfold Fz15.B1
    rw [List.take_length, decF (by simp only; omega), cond_false]
theorem s_l01Packed : Fz43.S (cl PL pk) := Fz43.of_cl fun l h k => by
  have hl : l.length ≤ 1073741824 := h
  unfold Fz43.pf
  refine iter_list l (fun p (o : List (List DB)) => ((p : Int), o)) (fun _ _ => k (pk l)) (fun p o => o = pk (l.take p)) (c := []) rfl (big_lt (by omega)) rfl ?_ ?_
  · rintro p hp o rec rfl hrec
    have hr := pk_take l hp
    obtain ⟨b1, b2⟩ := pk_inv l p (by omega)
    generalize pk (l.take p) = o at *
    unfold Fz43.B1
    simp only [decT (show (p : Int) < (l.length : Int) by omega), inB_nat hp, cond_true, Int.toNat_natCast, getD_lt hp, w64n (show p < 9223372036854775807 by omega), tmod12, beqF (show (12 : Int) ≠ 0 by omega), cond_false, inB_nat (show p % 12 < 12 by omega), List.length_append, List.length_singleton]
    unfold stepPk at hr
    by_cases c : p % 12 = 0
    · rw [if_pos c] at hr
      have e : IntKind.i64.wrap (((o.length + 1 : Nat) : Int) - 1) = ((p / 12 : Nat) : Int) := by rw [w64 (by omega) (by omega)]; omega
      rw [beqT (by omega), cond_true, okS (by omega), cond_true, e, inB_nat (by omega), cond_true]
      simp only [Int.toNat_natCast]
      exact hrec _ hr.symm
    · rw [if_neg c] at hr
      have e : IntKind.i64.wrap (((o.length : Nat) : Int) - 1) = ((p / 12 : Nat) : Int) := by rw [w64 (by omega) (by omega)]; omega
      rw [beqF (by omega), cond_false, e, inB_nat (by omega), cond_true]
      simp only [Int.toNat_natCast]
      exact hrec _ hr.symm
  · rintro o rec rfl
    unfold Fz43.B1
    rw [List.take_length, decF (by simp only; omega), cond_false]
theorem addRun_app (o o2 : List DS) (h : o2 ≠ []) (b : DB) : addRun (o ++ o2) b = o ++ addRun o2 b := by
  unfold addRun
  obtain ⟨q, x, rfl⟩ : ∃ q x, o2 = q ++ [x] := ⟨o2.dropLast, o2.getLast h, (List.dropLast_concat_getLast h).symm⟩
  rw [← List.append_assoc]
  simp only [List.getLast?_concat, List.dropLast_concat]
  split <;> simp
theorem addRun_ne (o : List DS) (b : DB) : addRun o b ≠ [] := by
  obtain ⟨q, n, h⟩ := addRun_last o b
  rw [h]
  simp
theorem fold_app (l : List DB) : ∀ (o o2 : List DS), o2 ≠ [] → l.foldl addRun (o ++ o2) = o ++ l.foldl addRun o2 := by
  induction l with
  | nil => intro o o2 _; rfl
  | cons b l ih =>
    intro o o2 h
    rw [List.foldl_cons, List.foldl_cons, addRun_app o o2 h b, ih o _ (addRun_ne _ _)]
/-- How many of a kind stand at the front. -/
def lead (b : DB) : List DB → Nat
  | [] => 0
  | x :: l => if x = b then lead b l + 1 else 0
theorem lead_le (b : DB) : ∀ l : List DB, lead b l ≤ l.length
  | [] => Nat.le_refl _
  | x :: l => by
    have := lead_le b l
    unfold lead
    split <;> simp only [List.length_cons] <;> omega
theorem lead_take (b : DB) : ∀ l : List DB, l.take (lead b l) = List.replicate (lead b l) b
  | [] => rfl
  | x :: l => by
    unfold lead
    split
    · rename_i h
      rw [List.take_succ_cons, lead_take b l, List.replicate_succ, h]
    · rfl
theorem fold_lead (b : DB) : ∀ (l : List DB) (n : Int), l.foldl addRun [(b, n)] = (b, n + lead b l) :: (l.drop (lead b l)).foldl addRun []
  | [], n => by simp [lead]
  | x :: l, n => by
    unfold lead
    rw [List.foldl_cons]
    by_cases c : x = b
    · rw [if_pos c]
      have : addRun [(b, n)] x = [(b, n + 1)] := by simp [addRun, c]
      rw [this, fold_lead b l (n + 1), List.drop_succ_cons]
      congr 2
      omega
    · rw [if_neg c]
      have : addRun [(b, n)] x = [(b, n)] ++ [(x, 1)] := by simp [addRun, Ne.symm c]
      rw [this, fold_app l [(b, n)] [(x, 1)] (by simp), List.drop_zero, List.foldl_cons]
      simp [addRun]
theorem runs_cons (b : DB) (l : List DB) : runs (b :: l) = (b, ((lead b l + 1 : Nat) : Int)) :: runs (l.drop (lead b l)) := by
  unfold runs
  rw [List.foldl_cons]
  have : addRun [] b = [(b, 1)] := rfl
  rw [this, fold_lead]
  congr 2
  omega
def pureOf (L : List DS) : List (List DB) := L.flatMap fun x => pk (List.replicate x.2.toNat x.1)
def pureStack (s : List (List DB)) : List (List DB) × Int :=
  if stackOk s = true then (if ((pureOf (runs (whole s))).length : Int) > 12 then ([], 3) else (pureOf (runs (whole s)), 0)) else ([], 1)
theorem pure_cr (L : List DS) : ∀ c, c ∈ pureOf L → c.length = 12 := by
  intro c hc
  obtain ⟨x, _, hx⟩ := List.mem_flatMap.1 hc
  exact pk_cr _ c hx
theorem pure_take (L : List DS) {p : Nat} (h : p < L.length) : pureOf (L.take (p + 1)) = pureOf (L.take p) ++ pk (List.replicate (L[p]).2.toNat (L[p]).1) := by
  unfold pureOf
  rw [List.take_succ_eq_append_getElem h, List.flatMap_append]
  simp
theorem pure_bd (L : List DS) (hL : ∀ x, x ∈ L → x.2 ≤ 144) : ∀ p, (pureOf (L.take p)).length ≤ 13 * p
  | 0 => by simp [pureOf]
  | p + 1 => by
    have h := pure_bd L hL p
    by_cases c : p < L.length
    · rw [pure_take L c, List.length_append, pk_len, List.length_replicate]
      have := hL _ (List.getElem_mem c)
      omega
    · rw [List.take_of_length_le (by omega)]
      rw [List.take_of_length_le (by omega)] at h
      omega
theorem same_loop {α : Type} (i : Nat) (L : List DS) (hi : i < L.length) (h0 : 0 ≤ (L[i]).2) (h1 : (L[i]).2 ≤ 144) (q1 q2 : List (List DB)) (K : Int × List DB → Option α) :
    ∀ (j m fuel : Nat), m + j = (L[i]).2.toNat → j < fuel → iter (Fz36.B2 (i : Int) q1 q2 L K) fuel ((m : Int), List.replicate m (L[i]).1) = K ((L[i]).2, List.replicate (L[i]).2.toNat (L[i]).1)
  | _, _, 0, _, hf => absurd hf (Nat.not_lt_zero _)
  | 0, m, f + 1, hm, _ => by
    show Fz36.B2 (i : Int) q1 q2 L K _ _ = _
    unfold Fz36.B2
    rw [inB_nat hi, cond_true]
    simp only [Int.toNat_natCast, getD_lt hi]
    rw [decF (by omega), cond_false]
    congr 2
    · omega
    · rw [show m = (L[i]).2.toNat by omega]
  | j + 1, m, f + 1, hm, hf => by
    show Fz36.B2 (i : Int) q1 q2 L K (iter (Fz36.B2 (i : Int) q1 q2 L K) f) _ = _
    have ih := same_loop i L hi h0 h1 q1 q2 K j (m + 1) f (by omega) (by omega)
    generalize iter (Fz36.B2 (i : Int) q1 q2 L K) f = rec at *
    unfold Fz36.B2
    rw [inB_nat hi, cond_true]
    simp only [Int.toNat_natCast, getD_lt hi, List.length_replicate, List.length_singleton]
    rw [decT (by omega)]
    simp only [cond_true, inB_nat hi]
    rw [okS (by omega), cond_true, w64n (by omega), ← List.replicate_succ']
    exact ih
theorem s_spec_PureStack : Fz36.S (cl wCs pureStack) := Fz36.of_cl s_l01Stack s_l01Whole s_l01Counts s_l01Packed fun s h k => by
  unfold Fz36.pf pureStack
  rw [cl_eq h, Option.bind_some]
  cases c : stackOk s with
  | false => rfl
  | true =>
    have hs : wS12 s := ⟨by unfold stackOk at c; simp only [Bool.and_eq_true, decide_eq_true_eq] at c; exact c.1, fun x hx => h.1.2 x hx⟩
    have hw := whole_len hs
    rw [if_pos rfl]
    simp only [Bool.not_true, cond_false]
    rw [cl_eq hs, Option.bind_some, cl_eq (show PL (whole s) by unfold PL; omega), Option.bind_some]
    generalize whole s = l at *
    obtain ⟨b1, b2⟩ := runs_bd l l.length (Nat.le_refl _)
    rw [List.take_length] at b1 b2
    generalize hL : runs l = L at *
    have hb2 : ∀ x, x ∈ L → x.2 ≤ 144 := fun x hx => by have := b2 x hx; omega
    refine iter_list L (fun p (o : List (List DB)) => ((p : Int), o)) (fun _ _ => k (if ((pureOf L).length : Int) > 12 then ([], 3) else (pureOf L, 0))) (fun p o => o = pureOf (L.take p)) (c := []) rfl (big_lt (by omega)) rfl ?_ ?_
    · rintro p hp o rec rfl hrec
      have hx := b2 _ (List.getElem_mem hp)
      have hb := pure_bd L hb2 p
      have hb1 := pure_bd L hb2 (p + 1)
      rw [pure_take L hp, List.length_append] at hb1
      unfold Fz36.B1
      simp only [decT (show (p : Int) < (L.length : Int) by omega), cond_true]
      have e0 : ((0 : Int), ([] : List DB)) = (((0 : Nat) : Int), List.replicate 0 (L[p]).1) := rfl
      rw [e0, same_loop p L hp hx.1 (hb2 _ (List.getElem_mem hp)) s (pureOf (L.take p)) _ (L[p]).2.toNat 0 BIG (by omega) (big_lt (by omega))]
      simp only
      rw [cl_eq (show PL (List.replicate (L[p]).2.toNat (L[p]).1) by unfold PL; rw [List.length_replicate]; omega), Option.bind_some, okS (by omega), cond_true, w64n (by omega)]
      exact hrec _ (pure_take L hp).symm
    · rintro o rec rfl
      unfold Fz36.B1
      rw [List.take_length, decF (by simp only; omega), cond_false]
      simp only
      by_cases q : (((pureOf L).length : Nat) : Int) > 12
      · rw [decT q, if_pos q]; rfl
      · rw [decF q, if_neg q]; rfl
/-- Where the window of what is left stands. -/
def LeftAt (l : List DB) (p : Nat) (w : Option (Nat × Nat)) : Prop := (w = none ∧ p = 0) ∨ w = some (p, l.length - p)
theorem at_len {l : List DB} {p : Nat} {w : Option (Nat × Nat)} (h : LeftAt l p w) : Win.len w l = l.length - p := by
  rcases h with ⟨rfl, rfl⟩ | rfl <;> rfl
theorem at_ix {l : List DB} {p : Nat} {w : Option (Nat × Nat)} (h : LeftAt l p w) (i : Nat) : Win.ix w i = p + i := by
  rcases h with ⟨rfl, rfl⟩ | rfl
  · exact (Nat.zero_add i).symm
  · rfl
theorem lead_loop {α : Type} (l : List DB) (hl : l.length ≤ 144) (p : Nat) (hp : p < l.length) (w : Option (Nat × Nat)) (hw : LeftAt l p w) (q1 q2 : List (List DB)) (K : Int → Option α) :
    ∀ (j i fuel : Nat), p + 1 + i + j = l.length → j < fuel → iter (Fz7.B2 w q1 q2 l K K) fuel ((i + 1 : Nat) : Int) = K (((i + 1 + lead l[p] (l.drop (p + 1 + i)) : Nat)) : Int)
  | _, _, 0, _, hf => absurd hf (Nat.not_lt_zero _)
  | 0, i, f + 1, hj, _ => by
    show Fz7.B2 w q1 q2 l K K _ _ = _
    unfold Fz7.B2
    rw [at_len hw, decF (by omega), cond_false, List.drop_of_length_le (by omega)]
    rfl
  | j + 1, i, f + 1, hj, hf => by
    show Fz7.B2 w q1 q2 l K K (iter (Fz7.B2 w q1 q2 l K K) f) _ = _
    have ih := lead_loop l hl p hp w hw q1 q2 K j (i + 1) f (by omega) (by omega)
    generalize iter (Fz7.B2 w q1 q2 l K K) f = rec at *
    have h1 : p + (i + 1) < l.length := by omega
    unfold Fz7.B2
    rw [at_len hw]
    simp only [decT (show ((i + 1 : Nat) : Int) < ((l.length - p : Nat) : Int) by omega), inB_nat (show i + 1 < l.length - p by omega), cond_true, Int.toNat_natCast, at_ix hw, Nat.add_zero, getD_lt h1, getD_lt hp, eqB, w64n (show i + 1 < 9223372036854775807 by omega)]
    rw [show inB (0 : Int) (l.length - p) = true from inB_nat (i := 0) (by omega), cond_true, drop_cons (show p + 1 + i < l.length by omega)]
    have e : l[p + 1 + i]'(by omega) = l[p + (i + 1)] := by congr 1; omega
    rw [lead, e]
    by_cases c : l[p + (i + 1)] = l[p]
    · rw [decT c, if_pos c, cond_true, ih]
      congr 2
      rw [show p + 1 + (i + 1) = p + 1 + i + 1 by omega]
      omega
    · rw [decF c, if_neg c, cond_false]
theorem pure_loop {α : Type} (l : List DB) (hl : l.length ≤ 144) (q : List (List DB)) (K : (Option (Nat × Nat)) × List (List DB) → Option α) (K' : List (List DB) → Option α) (hK : ∀ w o, K (w, o) = K' o) :
    ∀ (j p fuel : Nat) (w : Option (Nat × Nat)) (o : List (List DB)), p + j = l.length → j < fuel → LeftAt l p w → o.length ≤ 13 * p → iter (Fz7.B1 (cl PL pk) BIG q l K) fuel (w, o) = K' (o ++ pureOf (runs (l.drop p))) := by
  intro j
  induction j using Nat.strongRecOn with
  | _ j ih =>
    intro p fuel w o hj hf hw ho
    match fuel, hf with
    | f + 1, hf =>
      show Fz7.B1 (cl PL pk) BIG q l K (iter (Fz7.B1 (cl PL pk) BIG q l K) f) (w, o) = _
      by_cases c : p < l.length
      · have hd := drop_cons c
        have hlead := lead_le l[p] (l.drop (p + 1))
        rw [List.length_drop] at hlead
        have ih := fun w' o' => ih (j - (lead l[p] (l.drop (p + 1)) + 1)) (by omega) (p + (lead l[p] (l.drop (p + 1)) + 1)) f w' o' (by omega) (by omega)
        generalize iter (Fz7.B1 (cl PL pk) BIG q l K) f = rec at *
        unfold Fz7.B1
        rw [at_len hw, decT (by omega), cond_true]
        simp only
        have e1 : (1 : Int) = ((0 + 1 : Nat) : Int) := rfl
        rw [e1, lead_loop l hl p c w hw q o _ (l.length - p - 1) 0 BIG (by omega) (big_lt (by omega))]
        simp only [Nat.add_zero, Nat.zero_add, at_ix hw, Int.toNat_natCast, Int.sub_zero]
        have e2 : 1 + lead l[p] (l.drop (p + 1)) = lead l[p] (l.drop (p + 1)) + 1 := by omega
        rw [e2]
        have et : List.take (lead l[p] (l.drop (p + 1)) + 1) (List.drop p l) = List.replicate (lead l[p] (l.drop (p + 1)) + 1) l[p] := by
          rw [hd, List.take_succ_cons, lead_take, List.replicate_succ]
        have er : runs (l.drop p) = (l[p], ((lead l[p] (l.drop (p + 1)) + 1 : Nat) : Int)) :: runs (l.drop (p + (lead l[p] (l.drop (p + 1)) + 1))) := by
          conv => lhs; rw [hd]
          rw [runs_cons, List.drop_drop]
          congr 3
          omega
        rw [er, et]
        generalize hn : lead l[p] (l.drop (p + 1)) + 1 = n at *
        rw [inW_true (by omega) (by omega) (by omega), cond_true, cl_eq (show PL (List.replicate n l[p]) by unfold PL; rw [List.length_replicate]; omega), Option.bind_some]
        have hpk := pk_len (List.replicate n l[p])
        rw [List.length_replicate] at hpk
        rw [okS (by omega), cond_true, inW_true (by omega) (by omega) (by omega), cond_true]
        rw [ih _ _ (.inr (by congr 2; omega)) (by rw [List.length_append]; omega), List.append_assoc]
        rfl
      · unfold Fz7.B1
        rw [at_len hw, decF (by omega), cond_false, hK, List.drop_of_length_le (by omega)]
        simp [runs, pureOf]
theorem s_impl_PureStack : Fz7.S (cl wCs pureStack) := Fz7.of_cl s_ValidStack s_allOf s_packed fun s h k => by
  unfold Fz7.pf pureStack
  rw [cl_eq h, Option.bind_some]
  cases c : stackOk s with
  | false => rfl
  | true =>
    have hs : wS12 s := ⟨by unfold stackOk at c; simp only [Bool.and_eq_true, decide_eq_true_eq] at c; exact c.1, fun x hx => h.1.2 x hx⟩
    have hw := whole_len hs
    rw [if_pos rfl]
    simp only [Bool.not_true, cond_false]
    rw [cl_eq hs, Option.bind_some]
    generalize whole s = l at *
    rw [pure_loop l hw s _ (fun o => cond (decide (((o.length : Nat) : Int) > 12)) (k ([], 3)) (k (o, 0))) (fun _ _ => rfl) l.length 0 BIG none [] (by omega) (big_lt (by omega)) (.inl ⟨rfl, rfl⟩) (by simp)]
    simp only [List.nil_append, List.drop_zero]
    by_cases q : (((pureOf (runs l)).length : Nat) : Int) > 12
    · rw [decT q, if_pos q]; rfl
    · rw [decF q, if_neg q]; rfl
theorem s_markCrateS : Fz22.S (cl (fun x => x.1.length ≤ 1073741824) fun x => x.2) := Fz22.of_cl fun x h k => by
  unfold Fz22.pf
  refine iter_list x.1 (fun p (_ : Unit) => (p : Int)) (fun _ _ => k x.2) (fun _ _ => True) (c := ()) rfl (big_lt (by omega)) trivial ?_ ?_
  · rintro p hp _ rec _ hrec
    unfold Fz22.B1
    simp only [decT (show (p : Int) < (x.1.length : Int) by omega), cond_true, w64n (show p < 9223372036854775807 by omega)]
    exact hrec () trivial
  · rintro _ rec _
    unfold Fz22.B1
    rw [decF (by omega), cond_false]
theorem s_heldCrateS : Fz21.S (cl (fun x => x.1.length ≤ 1073741824) fun x => x.2) := Fz21.of_cl fun x h k => by
  unfold Fz21.pf
  refine iter_list x.1 (fun p (_ : Unit) => (p : Int)) (fun _ _ => k x.2) (fun _ _ => True) (c := ()) rfl (big_lt (by omega)) trivial ?_ ?_
  · rintro p hp _ rec _ hrec
    unfold Fz21.B1
    simp only [decT (show (p : Int) < (x.1.length : Int) by omega), cond_true, w64n (show p < 9223372036854775807 by omega)]
    exact hrec () trivial
  · rintro _ rec _
    unfold Fz21.B1
    rw [decF (by omega), cond_false]
theorem pure_out (s : List (List DB)) (h : s.length ≤ 1073741824) : CrS (pureStack s).1 := by
  unfold pureStack
  split
  · split
    · exact ⟨by simp, fun c hc => by cases hc⟩
    · rename_i q
      exact ⟨by simp only; omega, pure_cr _⟩
  · exact ⟨by simp, fun c hc => by cases hc⟩
theorem s_law_PureStack : laws_FnExactPureStack.S (cl gCs fun _ => true) := laws_FnExactPureStack.of_cl s_szCrateS s_toCrateS s_spec_PureStack s_impl_PureStack s_eqCrateS s_markCrateS s_heldCrateS fun s h k => by
  have hg : gCs s := h
  unfold laws_FnExactPureStack.pf
  rw [cl_eq (show PszC (s, 1048576) from ⟨hg.1, by simp, by simp⟩), Option.bind_some]
  by_cases c : vszC (s, 1048576) < 0
  · rw [decT c]; rfl
  · obtain ⟨hs, n0, n1⟩ := szC_ok c (by omega) (by omega)
    have cr : CrS s := ⟨by omega, fun c hc => (hg.2 c hc).1⟩
    have w : wCs s := ⟨cr, fun c hc => (hg.2 c hc).2⟩
    have ho := pure_out s cr.1
    rw [decF c, cond_false]
    have hm : ∀ (l : List (List DB)) (q : Int), l.length ≤ 1073741824 → cl (fun x : List (List DB) × Int => x.1.length ≤ 1073741824) (fun x => x.2) (l, q) = some q := fun l q hq => cl_eq (P := fun x : List (List DB) × Int => x.1.length ≤ 1073741824) (x := (l, q)) hq
    simp only [cl_eq cr, Option.bind_some, cl_eq w, cl_eq (show CrS2 ((pureStack s).1, (pureStack s).1) from ⟨ho, ho⟩), bneS, cond_false, cl_eq (show CrS2 (s, s) from ⟨cr, cr⟩), decide_true, Bool.not_true, hm _ _ cr.1, hm _ _ ho.1, decF (show ¬ ((1 : Int) < 0) by omega)]
end Go.Proofs.Ytjajlmaldeoobaa.G
