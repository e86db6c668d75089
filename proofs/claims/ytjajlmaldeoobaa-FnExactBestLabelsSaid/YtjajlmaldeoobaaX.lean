/- Plain proofs: what the functions answer, in plain lists and numbers. -/
import Derived.Test.YtjajlmaldeoobaaRd0
import Derived.Test.YtjajlmaldeoobaaRd1
import Derived.Test.YtjajlmaldeoobaaRd2
import Derived.Test.YtjajlmaldeoobaaRd3
import Derived.Test.YtjajlmaldeoobaaShelf
namespace Go.Proofs.Ytjajlmaldeoobaa.G
open Go
set_option linter.unusedVariables false
set_option linter.unusedSimpArgs false
set_option maxRecDepth 10000
abbrev DB := Int × Int
abbrev DS := DB × Int
theorem s_toBottle : Fz28.S (tot fun x => x) := Fz28.of_tot fun x k => rfl
theorem copied {β : Type} {l o : List β} {k : Nat} {d : β} (h : k < l.length) (ho : o.length = l.length) (hp : o.take k = l.take k) : (o.set k l[k]).take (k + 1) = l.take (k + 1) ∧ (o.set k l[k]).length = l.length := by
  refine ⟨?_, by simpa using ho⟩
  rw [List.take_succ_eq_append_getElem (by simpa [ho] using h), List.take_succ_eq_append_getElem h, List.take_set_of_le (Nat.le_refl k), hp]
  simp
theorem eqB (a b : DB) : eqV (.st (.pair (.int .u8) (.int .i16))) a b = decide (a = b) := by
  obtain ⟨a1, a2⟩ := a
  obtain ⟨b1, b2⟩ := b
  simp only [eqV]
  rw [Bool.eq_iff_iff]
  simp
theorem s_eqBottle : Fz20.S (tot fun x => decide (x.1 = x.2)) := Fz20.of_tot fun x k => by
  obtain ⟨⟨a1, a2⟩, b1, b2⟩ := x
  unfold Fz20.pf
  by_cases h1 : a1 = b1
  · by_cases h2 : a2 = b2
    · simp [h1, h2]
    · simp [h1, h2, bneT h2]
  · simp [h1, bneT h1]
theorem any_eq {β : Type} [DecidableEq β] : ∀ (a b : List β), a.length = b.length → (a.zip b).any (fun p => !decide (p.1 = p.2)) = !decide (a = b)
  | [], [], _ => by simp
  | [], _ :: _, h => by simp at h
  | _ :: _, [], h => by simp at h
  | x :: a, y :: b, h => by
    rw [List.zip_cons_cons, List.any_cons, any_eq a b (by simpa using h)]
    by_cases c : x = y <;> by_cases c2 : a = b <;> simp [c, c2]
theorem zip_at {β γ : Type} {a : List β} {b : List γ} {k : Nat} (h : k < (a.zip b).length) : (a.zip b)[k] = (a[k]'(by simp at h; omega), b[k]'(by simp at h; omega)) := by simp
theorem setD_same {β : Type} {l : List β} {k : Nat} {x d : β} (h : k < l.length) : (l.set k x).getD k d = x := by
  rw [List.getD_eq_getElem?_getD, List.getElem?_set_self h]; rfl
theorem take_set {β : Type} {l : List β} {k : Nat} {x : β} (h : k < l.length) : (l.set k x).take (k + 1) = l.take k ++ [x] := by
  rw [List.take_succ_eq_append_getElem (by simpa using h), List.take_set_of_le (Nat.le_refl k)]
  simp
def validB (b : DB) : Bool := decide (1 ≤ b.1) && decide (b.1 ≤ 20) && (decide (1900 ≤ b.2) && decide (b.2 ≤ 2099))
def wB (b : DB) : Prop := 0 ≤ b.1 ∧ b.1 ≤ 255 ∧ -32768 ≤ b.2 ∧ b.2 ≤ 32767
def wS (s : DS) : Prop := wB s.1 ∧ -32768 ≤ s.2 ∧ s.2 ≤ 32767
def wL (l : List DS) : Prop := PL l ∧ ∀ s, s ∈ l → wS s
def wR (r : List (List DS)) : Prop := Bd r ∧ ∀ l, l ∈ r → ∀ s, s ∈ l → wS s
theorem wR.at {r : List (List DS)} (h : wR r) {k : Nat} (hk : k < r.length) : wL r[k] := ⟨h.1.pl hk, h.2 _ (List.getElem_mem hk)⟩
theorem wL.at {l : List DS} (h : wL l) {k : Nat} (hk : k < l.length) : wS l[k] := h.2 _ (List.getElem_mem hk)
theorem s_l00In : Fz47.S (tot fun x => decide (x.2.1 ≤ x.1) && decide (x.1 ≤ x.2.2)) := Fz47.of_tot fun x k => by
  unfold Fz47.pf
  by_cases c : x.2.1 ≤ x.1
  · rw [decT (show x.1 ≥ x.2.1 from c)]; rfl
  · rw [decF (show ¬ x.1 ≥ x.2.1 from c)]; rfl
theorem s_within : Fz18.S (tot fun x => decide (x.2.1 ≤ x.1) && decide (x.1 ≤ x.2.2)) := Fz18.of_tot fun x k => by
  unfold Fz18.pf
  by_cases c : x.2.1 ≤ x.1
  · rw [decT c]; rfl
  · rw [decF c]; rfl
theorem s_l01Bottle : Fz49.S (cl wB validB) := Fz49.of_cl s_l00In fun x ⟨h1, h2, h3, h4⟩ k => by
  unfold Fz49.pf validB
  simp only [tot_eq, Option.bind_some, w64 (n := x.1) (by omega) (by omega), w64 (n := x.2) (by omega) (by omega)]
  cases decide (1 ≤ x.1) && decide (x.1 ≤ 20) <;> rfl
theorem s_ValidBottle : Fz9.S (cl wB validB) := Fz9.of_cl s_within fun x ⟨h1, h2, h3, h4⟩ k => by
  unfold Fz9.pf validB
  simp only [tot_eq, Option.bind_some, w64 (n := x.1) (by omega) (by omega), w64 (n := x.2) (by omega) (by omega)]
  cases decide (1 ≤ x.1) && decide (x.1 ≤ 20) <;> rfl
theorem any_not {β : Type} (l : List β) (p : β → Bool) : (l.any fun x => !p x) = !l.all p := by
  induction l with
  | nil => rfl
  | cons x l ih => rw [List.any_cons, List.all_cons, ih, Bool.not_and]
def indexI {β : Type} (p : β → Bool) (l : List β) : Int := match l.findIdx? p with
  | some i => i
  | none => -1
theorem firstOr_index {α β : Type} (p : β → Bool) (k : Int → Option α) : ∀ (l : List β) (j : Nat), firstOr p (fun i _ => k (i : Int)) (k (-1)) j l = k (match l.findIdx? p with | some i => ((j + i : Nat) : Int) | none => -1)
  | [], _ => rfl
  | x :: l, j => by
    rw [firstOr, List.findIdx?_cons]
    cases p x with
    | true => simp
    | false =>
      rw [cond_false, firstOr_index p k l]
      cases l.findIdx? p with
      | none => rfl
      | some i => simp [Nat.add_assoc, Nat.add_comm 1 i]
theorem indexI_nn {β : Type} (p : β → Bool) (l : List β) : decide (indexI p l ≥ 0) = l.any p := by
  unfold indexI
  cases h : l.findIdx? p with
  | none =>
    have := List.findIdx?_eq_none_iff.1 h
    simp only
    rw [decF (by omega)]
    symm
    rw [List.any_eq_false]
    intro x hx
    simpa using this x hx
  | some i =>
    simp only
    rw [decT (by omega)]
    symm
    obtain ⟨hi, hp, _⟩ := List.findIdx?_eq_some_iff_getElem.1 h
    exact List.any_eq_true.2 ⟨_, List.getElem_mem hi, hp⟩
theorem good_B {b : DB} (h : goodV (.st (.pair (.int .u8) (.int .i16))) b) : wB b := by
  obtain ⟨h1, h2⟩ := h
  simp only [goodV, Lit.wf, IntKind.min, IntKind.max, IntKind.bits, IntKind.signed] at h1 h2
  simp at h1 h2
  unfold wB
  omega
theorem bneS (a : Int) : (a != a) = false := by simp
theorem okS {n : Nat} (h : n ≤ 4294967296) : okL n = true := okL_true h
def Few (o : List (List DS)) : Prop := o.length ≤ 8 ∧ ∀ x, x ∈ o → x.length ≤ 6
theorem Few.at {o : List (List DS)} (h : Few o) {n : Nat} (hn : n < o.length) : o[n].length ≤ 6 := h.2 _ (List.getElem_mem hn)
theorem Few.set {o : List (List DS)} (h : Few o) {n : Nat} {x : List DS} (hx : x.length ≤ 6) : Few (o.set n x) := ⟨by rw [List.length_set]; exact h.1, fun y hy => by
  rcases List.mem_or_eq_of_mem_set hy with q | rfl
  · exact h.2 y q
  · exact hx⟩
def keptOf {β : Type} (d : β) (p : β → Bool) (l : List β) : Option (Nat × Nat) × List β :=
  if l.any p = true then (some (0, (l.filter fun x => !p x).length), (l.filter fun x => !p x) ++ List.replicate (l.length - (l.filter fun x => !p x).length) d) else (none, l)
theorem kept_cut {β : Type} (d : β) (p : β → Bool) (l : List β) : Win.cut (keptOf d p l).1 (keptOf d p l).2 = l.filter fun x => !p x := by
  unfold keptOf
  by_cases c : l.any p = true
  · rw [if_pos c]
    simp [Win.cut]
  · rw [if_neg c]
    symm
    show l.filter _ = l
    rw [List.filter_eq_self]
    intro x hx
    simp only [List.any_eq_true, not_exists, not_and, Bool.not_eq_true] at c
    simp [c x hx]
theorem s_eqBottleS : Fz21.S (cl PL1 fun x => decide (x.1 = x.2)) := Fz21.of_cl s_eqBottle fun x h k => by
  obtain ⟨a, b⟩ := x
  have h : a.length ≤ 1073741824 := h
  show Fz21.pf _ BIG a b k = k (decide (a = b))
  unfold Fz21.pf
  by_cases c : a.length = b.length
  · rw [show (((a.length : Nat) : Int) != ((b.length : Nat) : Int)) = false by simp [c], cond_false]
    have hz : (a.zip b).length = a.length := by simp [c]
    rw [iter_first (a.zip b) (fun i => (i : Int)) (fun p => !decide (p.1 = p.2)) (fun _ _ => k false) (k true) (x := 0) rfl (big_lt (by omega)) ?_ ?_, firstOr_const, any_eq a b c]
    · by_cases e : a = b <;> simp [e]
    · intro i hi rec
      have h1 : i < a.length := by omega
      have h2 : i < b.length := by omega
      unfold Fz21.B1
      rw [zip_at hi]
      simp only [decT (show (i : Int) < (a.length : Int) by omega), inB_nat h1, inB_nat h2, cond_true, Int.toNat_natCast, getD_lt h1, getD_lt h2, tot_eq, Option.bind_some, w64n (show i < 9223372036854775807 by omega)]
    · intro rec
      unfold Fz21.B1
      rw [decF (by omega)]
      rfl
  · rw [show (((a.length : Nat) : Int) != ((b.length : Nat) : Int)) = true by simpa using fun q => c (by omega), cond_true]
    rw [decF (fun e => c (by rw [e]))]
def markB : Int → List DB → Int × List DB
  | k, [] => (k, [])
  | k, _ :: l => ((markB (IntKind.i64.wrap (IntKind.i64.wrap (k + 1) + 1)) l).1, (IntKind.u8.wrap k, IntKind.i16.wrap (IntKind.i64.wrap (k + 1))) :: (markB (IntKind.i64.wrap (IntKind.i64.wrap (k + 1) + 1)) l).2)
theorem markB_fst : ∀ (l : List DB) (k : Int), 0 ≤ k → k + 2 * l.length ≤ 9223372036854775807 → (markB k l).1 = k + 2 * l.length
  | [], k, _, _ => by simp [markB]
  | x :: l, k, h0, h => by
    simp only [List.length_cons] at h ⊢
    unfold markB
    rw [w64 (n := k + 1) (by omega) (by omega), w64 (n := k + 1 + 1) (by omega) (by omega)]
    simp only
    rw [markB_fst l _ (by omega) (by omega)]
    omega
theorem s_markBottleS : Fz25.S (cl PL1 fun x => markB x.2 x.1) := Fz25.of_cl fun x h k => by
  obtain ⟨l, n⟩ := x
  have h : l.length ≤ 1073741824 := h
  show Fz25.pf BIG l n k = k (markB n l)
  unfold Fz25.pf
  refine (iter_list l (fun i (c : Int × List DB) => (c.1, (i : Int), c.2)) (fun r c => k ((markB c.1 r).1, c.2.take (l.length - r.length) ++ (markB c.1 r).2)) (fun i c => c.2.length = l.length) (c := (n, l)) rfl (big_lt (by omega)) rfl ?_ ?_).trans (by simp)
  · rintro i hi ⟨m, c⟩ rec h1 hrec
    simp only at h1
    have hc : i < c.length := by omega
    unfold Fz25.B1
    have e1 : l.length - (l.drop (i + 1)).length = i + 1 := by rw [List.length_drop]; omega
    have e2 : l.length - (l[i] :: l.drop (i + 1)).length = i := by rw [List.length_cons, List.length_drop]; omega
    simp only [decT (show (i : Int) < (c.length : Int) by omega), inB_nat hc, cond_true, Int.toNat_natCast, List.length_set, List.set_set, setD_same hc, w64n (show i < 9223372036854775807 by omega)]
    refine (hrec (IntKind.i64.wrap (IntKind.i64.wrap (m + 1) + 1), c.set i (IntKind.u8.wrap m, IntKind.i16.wrap (IntKind.i64.wrap (m + 1)))) (by simpa using h1)).trans ?_
    simp only [e1, e2, take_set hc, markB, List.append_assoc, List.cons_append, List.nil_append]
  · rintro ⟨m, c⟩ rec h1
    simp only at h1
    unfold Fz25.B1
    rw [decF (by simp only; omega)]
    simp only [cond_false, markB, List.length_nil, Nat.sub_zero, List.append_nil]
    rw [List.take_of_length_le (by omega)]
def wBs (l : List DB) : Prop := l.length ≤ 1073741824 ∧ ∀ b, b ∈ l → wB b
def AllIn (Q : DS → Prop) (o : List (List DS)) : Prop := ∀ l, l ∈ o → ∀ s, s ∈ l → Q s
theorem AllIn.set {Q : DS → Prop} {o : List (List DS)} (h : AllIn Q o) {n : Nat} {x : List DS} (hx : ∀ s, s ∈ x → Q s) : AllIn Q (o.set n x) := fun l hl s hs => by
  rcases List.mem_or_eq_of_mem_set hl with q | rfl
  · exact h l q s hs
  · exact hx s hs
theorem AllIn.at {Q : DS → Prop} {o : List (List DS)} (h : AllIn Q o) {n : Nat} (hn : n < o.length) : ∀ s, s ∈ o.getD n [] → Q s := fun s hs => by
  rw [getD_lt hn] at hs
  exact h _ (List.getElem_mem hn) s hs
def Cr (c : List DB) : Prop := c.length = 12
def CrS (s : List (List DB)) : Prop := s.length ≤ 1073741824 ∧ ∀ c, c ∈ s → c.length = 12
theorem CrS.at {s : List (List DB)} (h : CrS s) {i : Nat} (hi : i < s.length) : Cr s[i] := h.2 _ (List.getElem_mem hi)
theorem s_toCrate : Fz29.S (cl Cr fun c => c) := Fz29.of_cl s_toBottle fun l h k => by
  have h : l.length = 12 := h
  unfold Fz29.pf
  refine (iter_list (B := Fz29.B1 (tot fun x => x) l (List.replicate 12 (0, 0)) fun x1 => k x1.2) l (fun i (c : List DB) => ((i : Int), c)) (fun _ _ => k l) (fun i c => c.length = l.length ∧ c.take i = l.take i) (c := List.replicate 12 (0, 0)) (by simp) (big_lt (by omega)) (by simp [h]) ?_ ?_)
  · rintro i hi c rec ⟨h1, h2⟩ hrec
    unfold Fz29.B1
    simp only [decT (show (i : Int) < 12 by omega), inB_nat (show i < 12 by omega), cond_true, Int.toNat_natCast, getD_lt hi, tot_eq, Option.bind_some, w64n (show i < 9223372036854775807 by omega)]
    have := copied (d := ((0, 0) : DB)) hi h1 h2
    exact hrec _ ⟨this.2, this.1⟩
  · rintro c rec ⟨h1, h2⟩
    unfold Fz29.B1
    rw [decF (by simp only; omega)]
    rw [List.take_of_length_le (by omega), List.take_of_length_le (Nat.le_refl _)] at h2
    simp only [cond_false, h2]
theorem s_toCrateS : Fz30.S (cl CrS fun s => s) := Fz30.of_cl s_toCrate fun l h k => by
  have hl : l.length ≤ 1073741824 := h.1
  unfold Fz30.pf
  rw [inW_true (by omega) (by omega) (by unfold LIM; omega)]
  simp only [cond_true]
  refine (iter_list (B := Fz30.B1 (cl Cr fun c => c) l fun x1 => k x1.2) l (fun i (c : List (List DB)) => ((i : Int), c)) (fun _ _ => k l) (fun i c => c.length = l.length ∧ c.take i = l.take i) (c := List.replicate l.length (List.replicate 12 (0, 0))) (by simp) (big_lt (by omega)) (by simp) ?_ ?_)
  · rintro i hi c rec ⟨h1, h2⟩ hrec
    unfold Fz30.B1
    simp only [decT (show (i : Int) < (l.length : Int) by omega), inB_nat hi, inB_nat (h1 ▸ hi : i < c.length), cond_true, Int.toNat_natCast, getD_lt hi, cl_eq (h.at hi), Option.bind_some, w64n (show i < 9223372036854775807 by omega)]
    have := copied (d := (List.replicate 12 (0, 0) : List DB)) hi h1 h2
    exact hrec _ ⟨this.2, this.1⟩
  · rintro c rec ⟨h1, h2⟩
    unfold Fz30.B1
    rw [decF (by simp only; omega)]
    rw [List.take_of_length_le (by omega), List.take_of_length_le (Nat.le_refl _)] at h2
    simp only [cond_false, h2]
def PszC (x : List (List DB) × Int) : Prop := x.1.length ≤ maxLen ∧ 0 ≤ x.2 ∧ x.2 ≤ 1048576
def vszC (x : List (List DB) × Int) : Int := if x.2 < x.1.length then -1 else x.2 - x.1.length
theorem s_szCrateS : Fz27.S (cl PszC vszC) :=
  Fz27.of_cl fun x ⟨h1, h2, h3⟩ k => by
    unfold maxLen at h1
    unfold Fz27.pf vszC
    rw [w64 (by omega) (by omega)]
    by_cases c : x.2 < x.1.length
    · rw [decT (by omega), if_pos c]; rfl
    · rw [decF (by omega), if_neg c]; rfl
def Cr2 (x : List DB × List DB) : Prop := Cr x.1 ∧ Cr x.2
theorem s_eqCrate : Fz22.S (cl Cr2 fun x => decide (x.1 = x.2)) := Fz22.of_cl s_eqBottle fun x h k => by
  obtain ⟨a, b⟩ := x
  obtain ⟨ha, hb⟩ := h
  have ha : a.length = 12 := ha
  have hb : b.length = 12 := hb
  show Fz22.pf _ BIG a b k = k (decide (a = b))
  unfold Fz22.pf
  have hz : (a.zip b).length = 12 := by simp [ha, hb]
  rw [iter_first (a.zip b) (fun i => (i : Int)) (fun p => !decide (p.1 = p.2)) (fun _ _ => k false) (k true) (x := 0) rfl (big_lt (by omega)) ?_ ?_, firstOr_const, any_eq a b (by omega)]
  · by_cases e : a = b <;> simp [e]
  · intro i hi rec
    have h1 : i < a.length := by omega
    have h2 : i < b.length := by omega
    unfold Fz22.B1
    rw [zip_at hi]
    simp only [decT (show (i : Int) < 12 by omega), inB_nat (show i < 12 by omega), cond_true, Int.toNat_natCast, getD_lt h1, getD_lt h2, tot_eq, Option.bind_some, w64n (show i < 9223372036854775807 by omega)]
  · intro rec
    unfold Fz22.B1
    rw [hz, decF (by omega)]
    rfl
def CrS2 (x : List (List DB) × List (List DB)) : Prop := CrS x.1 ∧ CrS x.2
theorem s_eqCrateS : Fz23.S (cl CrS2 fun x => decide (x.1 = x.2)) := Fz23.of_cl s_eqCrate fun x h k => by
  obtain ⟨a, b⟩ := x
  obtain ⟨ha, hb⟩ := h
  simp only at ha hb
  have hl := ha.1
  show Fz23.pf _ BIG a b k = k (decide (a = b))
  unfold Fz23.pf
  by_cases c : a.length = b.length
  · rw [show (((a.length : Nat) : Int) != ((b.length : Nat) : Int)) = false by simp [c], cond_false]
    have hz : (a.zip b).length = a.length := by simp [c]
    rw [iter_first (a.zip b) (fun i => (i : Int)) (fun p => !decide (p.1 = p.2)) (fun _ _ => k false) (k true) (x := 0) rfl (big_lt (by omega)) ?_ ?_, firstOr_const, any_eq a b c]
    · by_cases e : a = b <;> simp [e]
    · intro i hi rec
      have h1 : i < a.length := by omega
      have h2 : i < b.length := by omega
      unfold Fz23.B1
      rw [zip_at hi]
      simp only [decT (show (i : Int) < (a.length : Int) by omega), inB_nat h1, inB_nat h2, cond_true, Int.toNat_natCast, getD_lt h1, getD_lt h2, cl_eq (show Cr2 (a[i], b[i]) from ⟨ha.at h1, hb.at h2⟩), Option.bind_some, w64n (show i < 9223372036854775807 by omega)]
    · intro rec
      unfold Fz23.B1
      rw [decF (by omega)]
      rfl
  · rw [show (((a.length : Nat) : Int) != ((b.length : Nat) : Int)) = true by simpa using fun q => c (by omega), cond_true]
    rw [decF (fun e => c (by rw [e]))]
theorem s_cloneB : Fz33.S (cl PL fun l => l) := Fz33.of_cl fun l h k => by
  have h : l.length ≤ 1073741824 := h
  unfold Fz33.pf
  simp only [List.nil_append, List.length_nil]
  rw [okS (by omega)]
  cases l with
  | nil => exact both_same _
  | cons x l => rfl

theorem s_l01Free : Fz51.S (tot fun b => decide (b = (0, 0))) := Fz51.of_tot fun b k => by
  unfold Fz51.pf
  rw [eqB]
def okB (b : DB) : Bool := decide (b = (0, 0)) || validB b
def crateOk (c : List DB) : Bool := c.all okB
def stackOk (s : List (List DB)) : Bool := decide (s.length ≤ 12) && s.all crateOk
def wC (c : List DB) : Prop := c.length = 12 ∧ ∀ b, b ∈ c → wB b
def wCs (s : List (List DB)) : Prop := CrS s ∧ ∀ c, c ∈ s → ∀ b, b ∈ c → wB b
theorem wCs.at {s : List (List DB)} (h : wCs s) {i : Nat} (hi : i < s.length) : wC s[i] := ⟨h.1.at hi, h.2 _ (List.getElem_mem hi)⟩
theorem s_l01Ok : Fz52.S (cl wC crateOk) := Fz52.of_cl s_l01Free s_l01Bottle fun c h k => by
  obtain ⟨hl, hw⟩ := h
  unfold Fz52.pf
  rw [iter_first c (fun i => (i : Int)) (fun b => !okB b) (fun _ _ => k false) (k true) (x := 0) rfl (big_lt (by omega)) ?_ ?_, firstOr_const, any_not]
  · unfold crateOk
    cases c.all okB <;> rfl
  · intro i hi rec
    unfold Fz52.B1
    simp only [decT (show (i : Int) < 12 by omega), inB_nat (show i < 12 by omega), cond_true, Int.toNat_natCast, getD_lt hi, tot_eq, cl_eq (hw _ (List.getElem_mem hi)), Option.bind_some, w64n (show i < 9223372036854775807 by omega), okB]
    cases decide (c[i] = (0, 0)) <;> cases validB c[i] <;> rfl
  · intro rec
    unfold Fz52.B1
    rw [decF (by omega)]
    rfl
theorem s_l01Stack : Fz54.S (cl wCs stackOk) := Fz54.of_cl s_l01Ok fun s h k => by
  have hl := h.1.1
  unfold Fz54.pf
  rw [iter_first s (fun i => (i : Int)) (fun c => !crateOk c) (fun _ _ => k false) (k (decide ((s.length : Int) ≤ 12))) (x := 0) rfl (big_lt (by omega)) ?_ ?_, firstOr_const, any_not]
  · unfold stackOk
    cases s.all crateOk with
    | false => simp
    | true =>
      rw [Bool.and_true]
      show k _ = k _
      congr 1
      exact decide_eq_decide.2 (by omega)
  · intro i hi rec
    unfold Fz54.B1
    simp only [decT (show (i : Int) < (s.length : Int) by omega), inB_nat hi, cond_true, Int.toNat_natCast, getD_lt hi, cl_eq (h.at hi), Option.bind_some, w64n (show i < 9223372036854775807 by omega)]
  · intro rec
    unfold Fz54.B1
    rw [decF (by omega)]
    rfl
def countI {β : Type} (p : β → Bool) : List β → Int
  | [] => 0
  | x :: l => cond (p x) 1 0 + countI p l
theorem countI_le {β : Type} (p : β → Bool) : ∀ (l : List β), 0 ≤ countI p l ∧ countI p l ≤ l.length
  | [] => ⟨by simp [countI], by simp [countI]⟩
  | x :: l => by
    have := countI_le p l
    unfold countI
    cases p x <;> simp <;> omega
theorem s_l03Stray : Fz56.S (cl (fun x => Cr x.1) fun x => countI (fun b => !decide (b = (0, 0)) && !decide (b = x.2)) x.1) := Fz56.of_cl s_l01Free fun x h k => by
  obtain ⟨c, b⟩ := x
  have hl : c.length = 12 := h
  show Fz56.pf _ BIG c b k = k (countI (fun x => !decide (x = (0, 0)) && !decide (x = b)) c)
  unfold Fz56.pf
  refine (iter_list c (fun p (n : Int) => (n, (p : Int))) (fun q n => k (n + countI (fun x => !decide (x = (0, 0)) && !decide (x = b)) q)) (fun p n => 0 ≤ n ∧ n ≤ p) (c := 0) rfl (big_lt (by omega)) ⟨by omega, by omega⟩ ?_ ?_).trans (by rw [Int.zero_add])
  · rintro p hp n rec ⟨h1, h2⟩ hrec
    unfold Fz56.B1
    simp only [decT (show (p : Int) < 12 by omega), inB_nat (show p < 12 by omega), cond_true, Int.toNat_natCast, getD_lt hp, tot_eq, Option.bind_some, eqB, w64n (show p < 9223372036854775807 by omega), w64 (show -9223372036854775808 ≤ n + 1 by omega) (by omega), countI]
    by_cases q1 : c[p] = (0, 0)
    · rw [decT q1]
      exact (hrec _ (by omega)).trans (by simp)
    · rw [decF q1]
      by_cases q2 : c[p] = b
      · rw [decT q2]
        exact (hrec _ (by omega)).trans (by simp)
      · rw [decF q2]
        exact (hrec _ (by omega)).trans (by simp [Int.add_assoc])
  · rintro n rec _
    unfold Fz56.B1
    rw [decF (by simp only; omega)]
    simp [countI]
theorem s_ValidCrate_1 : Fz11.S (cl wB fun s => !okB s) := Fz11.of_cl s_ValidBottle fun x h k => by
  unfold Fz11.pf okB
  rw [eqB]
  by_cases c : x = (0, 0)
  · rw [decT c]; rfl
  · rw [decF c, cl_eq h]; rfl
theorem s_index_vc : Fz41.S (cl wBs fun l => indexI (fun s => !okB s) l) := Fz41.of_cl s_ValidCrate_1 fun x h k => by
  have hl : x.length ≤ 1073741824 := h.1
  unfold Fz41.pf
  rw [iter_first x (fun i => (i : Int)) (fun s => !okB s) (fun i _ => k (i : Int)) (k (-1)) (x := 0) rfl (big_lt (by omega)) ?_ ?_, firstOr_index]
  · unfold indexI
    congr 1
    cases x.findIdx? (fun s => !okB s) <;> simp
  · intro i hi rec
    unfold Fz41.B1
    simp only [decT (show (i : Int) < (x.length : Int) by omega), inB_nat hi, cond_true, Int.toNat_natCast, getD_lt hi, cl_eq (h.2 _ (List.getElem_mem hi)), Option.bind_some, w64n (show i < 9223372036854775807 by omega)]
  · intro rec
    unfold Fz41.B1
    rw [decF (by omega)]
    rfl
theorem s_contains_vc : Fz35.S (cl wBs fun l => l.any (fun s => !okB s)) := Fz35.of_cl s_index_vc fun x h k => by
  unfold Fz35.pf
  rw [cl_eq h, Option.bind_some, indexI_nn]
theorem wC.bs {c : List DB} (h : wC c) : wBs c := ⟨by have := h.1; omega, h.2⟩
theorem s_ValidCrate : Fz10.S (cl wC crateOk) := Fz10.of_cl s_contains_vc fun x h k => by
  unfold Fz10.pf crateOk
  rw [cl_eq h.bs, Option.bind_some, any_not, Bool.not_not]
theorem s_ValidStack_1 : Fz13.S (cl wC fun c => !crateOk c) := Fz13.of_cl s_ValidCrate fun x h k => by
  unfold Fz13.pf
  rw [cl_eq h]; rfl
theorem s_index_vs : Fz42.S (cl wCs fun l => indexI (fun c => !crateOk c) l) := Fz42.of_cl s_ValidStack_1 fun x h k => by
  have hl : x.length ≤ 1073741824 := h.1.1
  unfold Fz42.pf
  rw [iter_first x (fun i => (i : Int)) (fun c => !crateOk c) (fun i _ => k (i : Int)) (k (-1)) (x := 0) rfl (big_lt (by omega)) ?_ ?_, firstOr_index]
  · unfold indexI
    congr 1
    cases x.findIdx? (fun c => !crateOk c) <;> simp
  · intro i hi rec
    unfold Fz42.B1
    simp only [decT (show (i : Int) < (x.length : Int) by omega), inB_nat hi, cond_true, Int.toNat_natCast, getD_lt hi, cl_eq (h.at hi), Option.bind_some, w64n (show i < 9223372036854775807 by omega)]
  · intro rec
    unfold Fz42.B1
    rw [decF (by omega)]
    rfl
theorem s_contains_vs : Fz36.S (cl wCs fun l => l.any (fun c => !crateOk c)) := Fz36.of_cl s_index_vs fun x h k => by
  unfold Fz36.pf
  rw [cl_eq h, Option.bind_some, indexI_nn]
theorem s_ValidStack : Fz12.S (cl wCs stackOk) := Fz12.of_cl s_contains_vs fun x h k => by
  unfold Fz12.pf stackOk
  by_cases c : x.length ≤ 12
  · rw [decT (show ((x.length : Int) ≤ 12) by omega), decT c, cond_true, cl_eq h, Option.bind_some, any_not, Bool.not_not, Bool.true_and]
  · rw [decF (show ¬ ((x.length : Int) ≤ 12) by omega), decF c]; rfl
theorem s_bottles_1 : Fz8.S (tot fun b => decide (b = (0, 0))) := Fz8.of_tot fun x k => by
  unfold Fz8.pf
  rw [eqB]
theorem s_index_cb : Fz40.S (cl PL fun l => indexI (fun b => decide (b = (0, 0))) l) := Fz40.of_cl s_bottles_1 fun x h k => by
  have hl : x.length ≤ 1073741824 := h
  unfold Fz40.pf
  rw [iter_first x (fun i => (i : Int)) (fun b => decide (b = (0, 0))) (fun i _ => k (i : Int)) (k (-1)) (x := 0) rfl (big_lt (by omega)) ?_ ?_, firstOr_index]
  · unfold indexI
    congr 1
    cases x.findIdx? (fun b => decide (b = (0, 0))) <;> simp
  · intro i hi rec
    unfold Fz40.B1
    simp only [decT (show (i : Int) < (x.length : Int) by omega), inB_nat hi, cond_true, Int.toNat_natCast, getD_lt hi, tot_eq, Option.bind_some, w64n (show i < 9223372036854775807 by omega)]
  · intro rec
    unfold Fz40.B1
    rw [decF (by omega)]
    rfl
theorem s_delete_cb : Fz38.S (cl PL fun l => keptOf (0, 0) (fun b => decide (b = (0, 0))) l) := Fz38.of_cl s_index_cb s_bottles_1 fun l h k => by
  have hl : l.length ≤ 1073741824 := h
  show Fz38.pf _ _ BIG l k = k (keptOf (0, 0) (fun b => decide (b = (0, 0))) l)
  unfold Fz38.pf
  rw [cl_eq h, Option.bind_some]
  generalize hp : (fun b : DB => decide (b = (0, 0))) = p
  unfold indexI keptOf
  cases hf : l.findIdx? p with
  | none =>
    have := List.findIdx?_eq_none_iff.1 hf
    rw [if_neg (by simpa using this)]
    rfl
  | some i =>
    obtain ⟨hi, hpi, hbef⟩ := List.findIdx?_eq_some_iff_getElem.1 hf
    rw [if_pos (List.any_eq_true.2 ⟨_, List.getElem_mem hi, hpi⟩)]
    simp only
    rw [beqF (by omega), cond_false, w64n (by omega)]
    have h0 : (l.take i).filter (fun x => !p x) = l.take i := by
      rw [List.filter_eq_self]
      intro x hx
      obtain ⟨j, hj, rfl⟩ := List.mem_iff_getElem.1 hx
      have hj' : j < i := by simp at hj; omega
      have := hbef j hj'
      simpa using this
    have h1 : (l.take (i + 1)).filter (fun x => !p x) = l.take i := by
      rw [List.take_succ_eq_append_getElem hi, List.filter_append, h0]
      simp [hpi]
    have := iter_fold (B := Fz38.B1 (tot p) fun (x1 : Int × Int × List DB) => cond (inW x1.1 (((List.length x1.2.2) : Nat) : Int) (List.length x1.2.2)) (cond (inW 0 x1.1 (List.length (overL x1.2.2 x1.1.toNat (List.replicate ((((List.length x1.2.2) : Nat) : Int) - x1.1).toNat (0, 0))))) (k ((some (0, (x1.1 - 0).toNat)), (overL x1.2.2 x1.1.toNat (List.replicate ((((List.length x1.2.2) : Nat) : Int) - x1.1).toNat (0, 0))))) none) none)
      l (fun j (c : List DB) => ((((l.take j).filter fun x => !p x).length : Int), (j : Int), c)) (fun _ _ => k (some (0, (l.filter fun x => !p x).length), (l.filter fun x => !p x) ++ List.replicate (l.length - (l.filter fun x => !p x).length) (0, 0))) (fun j c => c.length = l.length ∧ c.drop j = l.drop j ∧ c.take ((l.take j).filter fun x => !p x).length = (l.take j).filter fun x => !p x) ?_ ?_ (l.length - (i + 1)) (i + 1) l BIG (by omega) (big_lt (by omega)) ⟨rfl, rfl, by rw [h1]; simp⟩
    · rw [h1, List.length_take, Nat.min_eq_left (by omega)] at this
      exact this
    · rintro j hj c rec ⟨e1, e2, e3⟩ hrec
      have hjc : j < c.length := by omega
      have hcj : c[j] = l[j] := by
        have := congrArg (fun z => z[0]?) e2
        simpa [hjc, hj] using this
      have hm : ((l.take j).filter fun x => !p x).length ≤ j := by
        have := List.length_filter_le (fun x => !p x) (l.take j)
        rw [List.length_take] at this
        omega
      have ht : (l.take (j + 1)).filter (fun x => !p x) = (l.take j).filter (fun x => !p x) ++ if p l[j] = true then [] else [l[j]] := by
        rw [List.take_succ_eq_append_getElem hj, List.filter_append]
        cases hq : p l[j] <;> simp [hq]
      unfold Fz38.B1
      simp only [e1, decT (show (j : Int) < (l.length : Int) by omega), inB_nat hj, cond_true, Int.toNat_natCast, getD_lt hjc, hcj, tot_eq, Option.bind_some, w64n (show j < 9223372036854775807 by omega)]
      cases hq : p l[j] with
      | true =>
        rw [hq, if_pos rfl, List.append_nil] at ht
        have := hrec c ⟨e1, by
          have := congrArg (List.drop 1) e2
          simpa [List.drop_drop, Nat.add_comm] using this, by rw [ht]; exact e3⟩
        rw [ht] at this
        exact this
      | false =>
        rw [hq] at ht
        simp only [Bool.false_eq_true, if_false] at ht
        have hlen : ((l.take (j + 1)).filter fun x => !p x).length = ((l.take j).filter fun x => !p x).length + 1 := by rw [ht]; simp
        have hmc : ((l.take j).filter fun x => !p x).length < c.length := by omega
        have := hrec (c.set ((l.take j).filter fun x => !p x).length l[j]) ⟨by simpa using e1, by
          rw [List.drop_set_of_lt (by omega)]
          have := congrArg (List.drop 1) e2
          simpa [List.drop_drop, Nat.add_comm] using this, by
          rw [hlen, take_set hmc, e3, ht]⟩
        rw [hlen] at this
        simp only [Bool.not_false, cond_true, inB_nat (show ((l.take j).filter fun x => !p x).length < l.length by omega), w64n (show ((l.take j).filter fun x => !p x).length < 9223372036854775807 by omega)]
        exact this
    · rintro c rec ⟨e1, e2, e3⟩
      have eT : l.take l.length = l := List.take_of_length_le (Nat.le_refl _)
      rw [eT] at e3
      simp only [eT]
      have hm := List.length_filter_le (fun x => !p x) l
      unfold Fz38.B1
      rw [decF (by simp only; omega)]
      simp only [cond_false, e1]
      rw [inW_true (by omega) (by omega) (by omega), cond_true]
      have e4 : overL c (((l.filter fun x => !p x).length : Nat) : Int).toNat (List.replicate ((((l.length : Nat) : Int)) - (((l.filter fun x => !p x).length : Nat) : Int)).toNat (0, 0)) = (l.filter fun x => !p x) ++ List.replicate (l.length - (l.filter fun x => !p x).length) (0, 0) := by
        unfold overL
        rw [Int.toNat_natCast, e3, List.drop_eq_nil_of_le (by simp; omega), List.append_nil]
        congr 2
        omega
      rw [e4, inW_true (by omega) (by omega) (by simp; omega), cond_true]
      congr 3
theorem s_crateBottles : Fz7.S (cl Cr fun c => c.filter fun b => !decide (b = (0, 0))) := Fz7.of_cl s_cloneB s_delete_cb fun c h k => by
  have hl : c.length = 12 := h
  have hp : PL c := by unfold PL; omega
  unfold Fz7.pf
  rw [cl_eq hp, Option.bind_some, cl_eq hp, Option.bind_some, kept_cut]
theorem count2 {α : Type} (p0 p1 : Int) (c : List DB) (hc : c.length = 12) (s : List (List DB)) (b : DB) (n0 : Int) (h0 : 0 ≤ n0) (h1 : n0 ≤ 100000000000) (K : Int × Int → Option α) :
    iter (Fz16.B2 p0 p1 c s b K) BIG (n0, 0) = K (n0 + countI (fun x => decide (x = b)) c, 12) := by
  refine (iter_list c (fun p (n : Int) => (n, (p : Int))) (fun q n => K (n + countI (fun x => decide (x = b)) q, 12)) (fun p n => n0 ≤ n ∧ n ≤ n0 + p) (c := n0) rfl (big_lt (by omega)) ⟨by omega, by omega⟩ ?_ ?_)
  · rintro p hp n rec ⟨h1, h2⟩ hrec
    unfold Fz16.B2
    simp only [decT (show (p : Int) < 12 by omega), inB_nat (show p < 12 by omega), cond_true, Int.toNat_natCast, getD_lt hp, eqB, w64n (show p < 9223372036854775807 by omega), w64 (show -9223372036854775808 ≤ n + 1 by omega) (by omega), countI]
    by_cases q2 : c[p] = b
    · rw [decT q2]
      exact (hrec _ (by omega)).trans (by simp [Int.add_assoc])
    · rw [decF q2]
      exact (hrec _ (by omega)).trans (by simp)
  · rintro n rec _
    unfold Fz16.B2
    rw [decF (by simp only; omega)]
    simp [countI, hc]
def POne (x : List (List DB) × DB) : Prop := ∃ c, x.1 = [c] ∧ c.length = 12
theorem s_countOf : Fz16.S (cl POne fun x => countI (fun y => decide (y = x.2)) (x.1.getD 0 [])) := Fz16.of_cl fun x h k => by
  obtain ⟨s, b⟩ := x
  obtain ⟨c, e, hc⟩ := h
  have e : s = [c] := e
  subst e
  show Fz16.pf BIG [c] b k = k (countI (fun y => decide (y = b)) c)
  unfold Fz16.pf
  refine iter_list [c] (fun p (n : Int) => (n, (p : Int))) (fun q n => k (n + (q.map (countI (fun y => decide (y = b)))).sum)) (fun p n => 0 ≤ n ∧ n ≤ 100 * p) (c := 0) rfl (big_lt (by simp)) ⟨by omega, by omega⟩ ?_ ?_ |>.trans (by simp)
  · rintro p hp n rec ⟨h1, h2⟩ hrec
    have hp1 : p = 0 := by simp at hp; exact hp
    subst hp1
    have := countI_le (fun y => decide (y = b)) c
    unfold Fz16.B1
    simp only [List.length_cons, List.length_nil]
    rw [decT (by simp), cond_true, inB_true (by simp) (by simp), cond_true]
    simp only [Int.toNat_natCast, List.getD_cons_zero]
    rw [count2 _ _ c hc _ b n h1 (by omega)]
    exact (hrec (n + countI (fun y => decide (y = b)) c) (by omega)).trans (by simp)
  · rintro n rec _
    unfold Fz16.B1
    rw [decF (by simp)]
    simp
def gCs (s : List (List DB)) : Prop := s.length ≤ maxLen ∧ ∀ c, c ∈ s → wC c
theorem good_stack {e : TypeId} {s : List (List DB)} (h : goodV (.row e (.arr 12 (.st (.pair (.int .u8) (.int .i16))))) s) : gCs s := by
  obtain ⟨h1, h2⟩ := h
  refine ⟨h1, fun c hc => ?_⟩
  obtain ⟨i, hi, rfl⟩ := List.mem_iff_getElem.1 hc
  have := h2 i hi
  rw [getD_lt hi] at this
  obtain ⟨g1, g2⟩ := this
  refine ⟨g1, fun b hb => ?_⟩
  obtain ⟨j, hj, rfl⟩ := List.mem_iff_getElem.1 hb
  have hj12 : j < 12 := by rw [← g1]; exact hj
  have := g2 j (by first | exact hj12 | exact hj)
  rw [getD_lt hj] at this
  exact good_B this
theorem szC_ok {s : List (List DB)} {n : Int} (h : ¬ vszC (s, n) < 0) (h0 : 0 ≤ n) (h1 : n ≤ 1048576) : s.length ≤ 1048576 ∧ 0 ≤ vszC (s, n) ∧ vszC (s, n) ≤ 1048576 := by
  unfold vszC at h ⊢
  simp only at h ⊢
  by_cases c : n < s.length
  · rw [if_pos c] at h; omega
  · rw [if_neg c] at h ⊢; omega
def bLt (x y : DB) : Bool := decide (x.1 < y.1) || (decide (x.1 = y.1) && decide (x.2 < y.2))
def cmpB (x : DB × DB) : Int := if x.1.1 < x.2.1 then -1 else if x.1.1 > x.2.1 then 1 else if x.1.2 < x.2.2 then -1 else if x.1.2 > x.2.2 then 1 else 0
theorem cmpB_lt (x y : DB) : decide (cmpB (x, y) < 0) = bLt x y := by
  obtain ⟨x1, x2⟩ := x
  obtain ⟨y1, y2⟩ := y
  unfold cmpB bLt
  simp only
  by_cases h1 : x1 < y1
  · simp [h1]
  · by_cases h2 : x1 > y1
    · simp [h1, h2]; omega
    · have : x1 = y1 := by omega
      subst this
      by_cases h3 : x2 < y2
      · simp [h3]
      · by_cases h4 : x2 > y2
        · simp [h3, h4]
        · simp [h3, h4]
theorem s_spec_Compare : Fz46.S (tot cmpB) := Fz46.of_tot fun x k => by
  obtain ⟨⟨x1, x2⟩, y1, y2⟩ := x
  unfold Fz46.pf cmpB
  simp only
  by_cases h1 : x1 < y1
  · rw [decT h1, if_pos h1]; rfl
  · rw [decF h1, if_neg h1]
    by_cases h2 : x1 > y1
    · rw [decT h2, if_pos h2]; rfl
    · rw [decF h2, if_neg h2]
      by_cases h3 : x2 < y2
      · rw [decT h3, if_pos h3]; rfl
      · rw [decF h3, if_neg h3]
        by_cases h4 : x2 > y2
        · rw [decT h4, if_pos h4]; rfl
        · rw [decF h4, if_neg h4]; rfl
def cmpI (x : Int × Int) : Int := if x.1 < x.2 then -1 else if x.1 > x.2 then 1 else 0
def spotB (o : List DB) (x : DB) : Nat → Nat
  | 0 => 0
  | i + 1 => if bLt x (o.getD i (0, 0)) = true then spotB o x i else i + 1
def putB (o : List DB) (x : DB) : List DB := o.take (spotB o x o.length) ++ x :: o.drop (spotB o x o.length)
def sortB (l : List DB) : List DB := l.foldl putB []
theorem spotB_le (o : List DB) (x : DB) : ∀ i, spotB o x i ≤ i
  | 0 => Nat.le_refl 0
  | i + 1 => by
    have := spotB_le o x i
    unfold spotB
    split <;> omega
theorem putB_perm (o : List DB) (x : DB) : (putB o x).Perm (x :: o) := by
  unfold putB
  refine List.perm_middle.trans ?_
  rw [List.take_append_drop]
theorem sortB_perm (l : List DB) : (sortB l).Perm l := by
  have key : ∀ (l o : List DB), (l.foldl putB o).Perm (o ++ l) := by
    intro l
    induction l with
    | nil => intro o; simp
    | cons x l ih =>
      intro o
      rw [List.foldl_cons]
      refine (ih _).trans ?_
      refine ((putB_perm o x).append_right l).trans ?_
      exact List.perm_middle.symm
  have := key l []
  rwa [List.nil_append] at this
theorem sortB_len (l : List DB) : (sortB l).length = l.length := (sortB_perm l).length_eq
theorem sortB_take (l : List DB) {p : Nat} (h : p < l.length) : sortB (l.take (p + 1)) = putB (sortB (l.take p)) l[p] := by
  unfold sortB
  rw [List.take_succ_eq_append_getElem h, List.foldl_append]
  rfl
def amd {β : Type} (o : List β) (x : β) (j : Nat) (q : List β) : List β := o.take j ++ x :: (o.drop j ++ q)
theorem amd_len {β : Type} (o : List β) (x : β) (j : Nat) (q : List β) (h : j ≤ o.length) : (amd o x j q).length = o.length + 1 + q.length := by
  unfold amd
  simp
  omega
theorem amd_at {β : Type} (d : β) (o : List β) (x : β) (j : Nat) (q : List β) (h : j ≤ o.length) : (amd o x j q).getD j d = x := by
  unfold amd
  rw [List.getD_eq_getElem?_getD, List.getElem?_append_right (by simp; omega)]
  simp [Nat.min_eq_left h]
theorem amd_below {β : Type} (d : β) (o : List β) (x : β) (j : Nat) (q : List β) (h : j < o.length) : (amd o x (j + 1) q).getD j d = o[j] := by
  unfold amd
  rw [List.getD_eq_getElem?_getD, List.getElem?_append_left (by simp; omega), List.getElem?_take_of_lt (by omega), List.getElem?_eq_getElem h]
  rfl
theorem amd_swap {β : Type} (o : List β) (x : β) (j : Nat) (q : List β) (h : j < o.length) : ((amd o x (j + 1) q).set (j + 1) o[j]).set j x = amd o x j q := by
  unfold amd
  rw [List.set_append_right _ _ (by simp; omega)]
  have e : j + 1 - (o.take (j + 1)).length = 0 := by simp; omega
  rw [e, List.set_cons_zero, List.take_succ_eq_append_getElem h, List.append_assoc, List.set_append_right _ _ (by simp; omega)]
  have e2 : j - (o.take j).length = 0 := by simp; omega
  rw [e2]
  simp
  rw [drop_cons h, List.cons_append]
abbrev allB (c : List DB) : List DB := c.filter fun b => !decide (b = (0, 0))
theorem allB_len (c : List DB) : (allB c).length ≤ c.length := List.length_filter_le _ _
theorem s_l01All : Fz48.S (cl Cr allB) := Fz48.of_cl s_l01Free fun c h k => by
  have hl : c.length = 12 := h
  unfold Fz48.pf
  refine iter_list c (fun i (o : List DB) => ((i : Int), o)) (fun q o => k (o ++ allB q)) (fun i o => o.length ≤ i) (c := []) rfl (big_lt (by omega)) (Nat.le_refl 0) ?_ ?_
  · rintro i hi o rec ho hrec
    unfold Fz48.B1
    simp only [decT (show (i : Int) < 12 by omega), inB_nat (show i < 12 by omega), cond_true, Int.toNat_natCast, getD_lt hi, tot_eq, Option.bind_some, w64n (show i < 9223372036854775807 by omega), allB, List.filter_cons]
    by_cases q : c[i] = (0, 0)
    · rw [decT q]
      exact hrec _ (by omega)
    · rw [decF q, okS (by simp; omega)]
      simp only [Bool.not_false, cond_true, if_true]
      exact (hrec _ (by simp; omega)).trans (by simp [allB])
  · rintro o rec _
    unfold Fz48.B1
    rw [decF (by simp only; omega)]
    simp [allB]
theorem srtB2 {α : Type} (p1 : Int) (l0 : List DB) (o : List DB) (x : DB) (q : List DB) (ho : o.length ≤ 1073741824) (K : List DB → Option α) (K1 : Int × List DB → Option α) (K0 : Int × List DB → Int → Option α)
    (h1 : ∀ (j : Nat) (c : List DB), j < c.length → K1 ((j : Int), c) = K (c.set j x)) (h0 : ∀ (j : Nat) (c : List DB) r, j < c.length → K0 ((j : Int), c) r = K (c.set j x)) :
    iter (Fz53.B2 (tot cmpB) p1 l0 x K0 K1) BIG ((o.length : Int), amd o x o.length q) = K (amd o x (spotB o x o.length) q) := by
  have key : ∀ (j fuel : Nat) (c : List DB), j < fuel → j ≤ o.length → c.length = o.length + 1 + q.length → c.set j x = amd o x j q → iter (Fz53.B2 (tot cmpB) p1 l0 x K0 K1) fuel ((j : Int), c) = K (amd o x (spotB o x j) q) := by
    intro j
    induction j with
    | zero =>
      intro fuel c hf _ hc he
      match fuel, hf with
      | f + 1, _ =>
        show Fz53.B2 _ p1 l0 x K0 K1 _ (((0 : Nat) : Int), _) = _
        unfold Fz53.B2
        rw [decF (by simp)]
        simp only [cond_false]
        rw [h1 0 c (by omega), he]
        rfl
    | succ j ih =>
      intro fuel c hf hj hc he
      match fuel, hf with
      | f + 1, hf =>
        show Fz53.B2 _ p1 l0 x K0 K1 (iter (Fz53.B2 (tot cmpB) p1 l0 x K0 K1) f) (((j + 1 : Nat) : Int), c) = _
        generalize hR : iter (Fz53.B2 (tot cmpB) p1 l0 x K0 K1) f = R
        unfold Fz53.B2
        have e : IntKind.i64.wrap (((j + 1 : Nat) : Int) - 1) = (j : Int) := by rw [w64 (by omega) (by omega)]; omega
        have hjo : j < o.length := by omega
        have hjc : j < c.length := by omega
        have hcj : c.getD j (0, 0) = o[j] := by
          have := amd_below (0, 0) o x j q hjo
          rw [← he, List.getD_eq_getElem?_getD, List.getElem?_set_ne (by omega), ← List.getD_eq_getElem?_getD] at this
          exact this
        simp only [e, decT (show ((j + 1 : Nat) : Int) > 0 by omega), inB_nat hjc, inB_nat (show j + 1 < c.length by omega), Int.toNat_natCast, cond_true, hcj, tot_eq, Option.bind_some, cmpB_lt]
        unfold spotB
        rw [getD_lt hjo]
        cases hb : bLt x o[j] with
        | true =>
          rw [if_pos rfl, cond_true, ← hR]
          refine ih f _ (by omega) (by omega) (by simpa using hc) ?_
          rw [← amd_swap o x j q hjo, ← he, List.set_set]
        | false => rw [if_neg (by simp), cond_false, h0 (j + 1) c _ (by omega), he]
  refine key _ _ _ (big_lt (by omega)) (Nat.le_refl _) (amd_len o x _ q (Nat.le_refl _)) ?_
  have hl := amd_len o x o.length q (Nat.le_refl _)
  refine List.ext_getElem (by simp) fun i h1 h2 => ?_
  rw [List.getElem_set]
  split
  · rename_i e
    subst e
    have := amd_at (0, 0) o x o.length q (Nat.le_refl _)
    rw [getD_lt h2] at this
    exact this.symm
  · rfl
theorem s_l01Sorted : Fz53.S (cl PL sortB) := Fz53.of_cl s_spec_Compare fun l h k => by
  have hl : l.length ≤ 1073741824 := h
  unfold Fz53.pf
  simp only [List.nil_append, List.length_nil]
  rw [okS (by omega), cond_true]
  match hq : l with
  | [] =>
    refine iter_to (fun _ => (1, [])) 0 (by rfl) (big_lt (by omega)) (fun k hk => absurd hk (Nat.not_lt_zero _)) fun rec => ?_
    unfold Fz53.B1
    rfl
  | y :: l' =>
    rw [← hq] at hl ⊢
    have hpos : 1 ≤ l.length := by rw [hq]; simp
    have h1 : sortB (l.take 1) ++ l.drop 1 = l := by rw [hq]; rfl
    have := iter_fold (B := Fz53.B1 (tot cmpB) BIG l fun (x1 : Int × List DB) => k x1.2) l (fun p (c : List DB) => ((p : Int), c)) (fun _ _ => k (sortB l)) (fun p c => 1 ≤ p ∧ c = sortB (l.take p) ++ l.drop p) ?_ ?_ (l.length - 1) 1 l BIG (by omega) (big_lt (by omega)) ⟨by omega, h1.symm⟩
    · exact this
    · rintro p hp c rec ⟨hp1, rfl⟩ hrec
      unfold Fz53.B1
      have ho : (sortB (l.take p)).length = p := by rw [sortB_len, List.length_take]; omega
      have e0 : sortB (l.take p) ++ l.drop p = amd (sortB (l.take p)) l[p] p (l.drop (p + 1)) := by
        unfold amd
        have t1 : (sortB (l.take p)).take p = sortB (l.take p) := List.take_of_length_le (by omega)
        have t2 : (sortB (l.take p)).drop p = [] := List.drop_eq_nil_of_le (by omega)
        rw [t1, t2, List.nil_append, drop_cons hp]
      have hlen : (sortB (l.take p) ++ l.drop p).length = l.length := by rw [List.length_append, ho, List.length_drop]; omega
      simp only [hlen, decT (show (p : Int) < (l.length : Int) by omega), inB_nat (show p < l.length by omega), cond_true, Int.toNat_natCast]
      have hx : (sortB (l.take p) ++ l.drop p).getD p (0, 0) = l[p] := by
        rw [e0]
        exact amd_at _ _ _ _ _ (by omega)
      rw [hx, e0]
      have e1 := srtB2 (p : Int) l (sortB (l.take p)) l[p] (l.drop (p + 1)) (by omega) (fun c => rec (IntKind.i64.wrap ((p : Int) + 1), c))
        (fun (x2 : Int × List DB) => cond (inB x2.1 (List.length x2.2)) (rec (((IntKind.i64.wrap ((p : Int) + 1)), (List.set x2.2 x2.1.toNat l[p])))) none)
        (fun (x2 : Int × List DB) (_ : Int) => cond (inB x2.1 (List.length x2.2)) (rec (((IntKind.i64.wrap ((p : Int) + 1)), (List.set x2.2 x2.1.toNat l[p])))) none)
        (fun j c hj => by simp only [inB_nat hj, cond_true, Int.toNat_natCast]) (fun j c r hj => by simp only [inB_nat hj, cond_true, Int.toNat_natCast])
      rw [ho] at e1
      refine e1.trans ?_
      simp only [w64n (show p < 9223372036854775807 by omega)]
      refine hrec _ ⟨by omega, ?_⟩
      rw [sortB_take l hp]
      unfold amd putB
      rw [ho, List.append_assoc, List.cons_append]
    · rintro c rec ⟨_, rfl⟩
      unfold Fz53.B1
      have hlen : (sortB (l.take l.length) ++ l.drop l.length).length = l.length := by rw [List.take_length, List.drop_length, List.append_nil, sortB_len]
      rw [decF (by simp only [hlen]; omega)]
      simp

theorem bLt_iff (x y : DB) : bLt x y = true ↔ x.1 < y.1 ∨ (x.1 = y.1 ∧ x.2 < y.2) := by
  unfold bLt
  simp
def leB (x y : DB) : Prop := bLt y x = false
theorem leB_iff (x y : DB) : leB x y ↔ ¬ (y.1 < x.1 ∨ (y.1 = x.1 ∧ y.2 < x.2)) := by
  unfold leB
  rw [← bLt_iff]
  simp
theorem leB_trans {x y z : DB} (h1 : leB x y) (h2 : leB y z) : leB x z := by
  rw [leB_iff] at *
  omega
theorem leB_refl (x : DB) : leB x x := by
  rw [leB_iff]
  omega
theorem leB_anti {x y : DB} (h1 : leB x y) (h2 : leB y x) : x = y := by
  rw [leB_iff] at *
  refine Prod.ext ?_ ?_ <;> omega
theorem leB_of_lt {x y : DB} (h : bLt x y = true) : leB x y := by
  rw [leB_iff]
  rw [bLt_iff] at h
  omega
theorem spotB_spec (o : List DB) (x : DB) : ∀ j, j ≤ o.length → (∀ i, spotB o x j ≤ i → i < j → bLt x (o.getD i (0, 0)) = true) ∧ (∀ i, i + 1 = spotB o x j → bLt x (o.getD i (0, 0)) = false)
  | 0, _ => ⟨fun i _ h => absurd h (Nat.not_lt_zero i), fun i h => by simp [spotB] at h⟩
  | j + 1, h => by
    obtain ⟨h1, h2⟩ := spotB_spec o x j (by omega)
    unfold spotB
    split
    · rename_i c
      refine ⟨fun i hi hj => ?_, h2⟩
      rcases Nat.lt_or_ge i j with q | q
      · exact h1 i hi q
      · obtain rfl : i = j := by omega
        exact c
    · rename_i c
      refine ⟨fun i hi hj => by omega, fun i hi => ?_⟩
      obtain rfl : i = j := by omega
      simpa using c
def SortedB (l : List DB) : Prop := l.Pairwise leB
theorem SortedB.get {l : List DB} (h : SortedB l) {i j : Nat} (hij : i ≤ j) (hj : j < l.length) : leB (l.getD i (0, 0)) (l.getD j (0, 0)) := by
  rcases Nat.lt_or_eq_of_le hij with q | rfl
  · rw [getD_lt (by omega : i < l.length), getD_lt hj]
    exact List.pairwise_iff_getElem.1 h i j (by omega) hj q
  · exact leB_refl _
theorem putB_sorted {o : List DB} {x : DB} (h : SortedB o) : SortedB (putB o x) := by
  obtain ⟨h1, h2⟩ := spotB_spec o x o.length (Nat.le_refl _)
  have hk := spotB_le o x o.length
  unfold putB
  generalize spotB o x o.length = k at *
  have ht : ∀ a, a ∈ o.take k → leB a x := by
    intro a ha
    obtain ⟨i, hi, rfl⟩ := List.mem_iff_getElem.1 ha
    rw [List.length_take] at hi
    rw [List.getElem_take]
    have h3 := h2 (k - 1) (by omega)
    have h4 := h.get (i := i) (j := k - 1) (by omega) (by omega)
    rw [getD_lt (by omega : i < o.length)] at h4
    exact leB_trans h4 h3
  have hd : ∀ b, b ∈ o.drop k → leB x b := by
    intro b hb
    obtain ⟨i, hi, rfl⟩ := List.mem_iff_getElem.1 hb
    rw [List.length_drop] at hi
    rw [List.getElem_drop]
    have h3 := h1 (k + i) (by omega) (by omega)
    rw [getD_lt (by omega : k + i < o.length)] at h3
    exact leB_of_lt h3
  unfold SortedB at *
  rw [List.pairwise_append, List.pairwise_cons]
  rw [← List.take_append_drop k o, List.pairwise_append] at h
  refine ⟨h.1, ⟨hd, h.2.1⟩, fun a ha b hb => ?_⟩
  rcases List.mem_cons.1 hb with rfl | hb
  · exact ht a ha
  · exact h.2.2 a ha b hb
theorem sortB_sorted (l : List DB) : SortedB (sortB l) := by
  have key : ∀ (l o : List DB), SortedB o → SortedB (l.foldl putB o) := by
    intro l
    induction l with
    | nil => intro o h; exact h
    | cons x l ih => intro o h; exact ih _ (putB_sorted h)
  exact key l [] List.Pairwise.nil
def cmpGo {β : Type} [DecidableEq β] (p : β) : List β → List β
  | [] => []
  | x :: l => if x = p then cmpGo p l else x :: cmpGo x l
def compact {β : Type} [DecidableEq β] : List β → List β
  | [] => []
  | x :: l => x :: cmpGo x l
theorem cmpGo_len {β : Type} [DecidableEq β] : ∀ (l : List β) (p : β), (cmpGo p l).length ≤ l.length
  | [], p => Nat.le_refl 0
  | x :: l, p => by
    unfold cmpGo
    split
    · have := cmpGo_len l p; simp; omega
    · have := cmpGo_len l x; simp; omega
theorem compact_len {β : Type} [DecidableEq β] (l : List β) : (compact l).length ≤ l.length := by
  cases l with
  | nil => exact Nat.le_refl 0
  | cons x l => have := cmpGo_len l x; simp [compact]; omega
theorem cmpGo_snoc {β : Type} [DecidableEq β] (x d : β) : ∀ (l : List β) (p : β), cmpGo p (l ++ [x]) = cmpGo p l ++ if x = (p :: l).getLastD d then [] else [x]
  | [], p => by
    simp only [List.nil_append, cmpGo, List.getLastD_cons]
    rfl
  | y :: l, p => by
    rw [List.cons_append, cmpGo, cmpGo]
    have e : ∀ q, (q :: y :: l).getLastD d = (y :: l).getLastD d := fun q => rfl
    split
    · rename_i h
      subst h
      rw [cmpGo_snoc x d l y, e]
    · rw [cmpGo_snoc x d l y, e]
      rfl
theorem compact_succ {β : Type} [DecidableEq β] (d : β) {l : List β} {j : Nat} (h : j + 1 < l.length) : compact (l.take (j + 2)) = compact (l.take (j + 1)) ++ if l.getD (j + 1) d = l.getD j d then [] else [l.getD (j + 1) d] := by
  match l, h with
  | x :: l, h =>
    have hj : j < l.length := by simpa using h
    rw [List.take_succ_cons, List.take_succ_cons, compact, compact, List.take_succ_eq_append_getElem hj, cmpGo_snoc l[j] d]
    have e1 : (x :: l).getD (j + 1) d = l[j] := by rw [getD_lt h]; rfl
    have e2 : (x :: l.take j).getLastD d = (x :: l).getD j d := by
      rw [List.getLastD_eq_getLast?, List.getLast?_eq_getElem?, List.getD_eq_getElem?_getD]
      simp only [List.length_cons, List.length_take, Nat.min_eq_left (Nat.le_of_lt hj), Nat.add_sub_cancel]
      congr 1
      cases j with
      | zero => rfl
      | succ j => rw [List.getElem?_cons_succ, List.getElem?_cons_succ, List.getElem?_take_of_lt (by omega)]
    rw [e1, e2]
    rfl
theorem compact_one {β : Type} [DecidableEq β] {l : List β} (h : 0 < l.length) : compact (l.take 1) = l.take 1 := by
  match l, h with
  | x :: l, _ => rfl
def compV {β : Type} [DecidableEq β] (d : β) (l : List β) : Option (Nat × Nat) × List β :=
  if (compact l).length = l.length then (none, l) else (some (0, (compact l).length), compact l ++ List.replicate (l.length - (compact l).length) d)
theorem compact_same {β : Type} [DecidableEq β] (d : β) (l : List β) : ∀ j, j < l.length → (∀ i, i < j → l.getD (i + 1) d ≠ l.getD i d) → compact (l.take (j + 1)) = l.take (j + 1)
  | 0, h, _ => compact_one h
  | j + 1, h, hne => by
    rw [compact_succ d h, compact_same d l j (by omega) (fun i hi => hne i (by omega)), if_neg (hne j (by omega)), List.take_succ_eq_append_getElem h, getD_lt h]
theorem compV_cut {β : Type} [DecidableEq β] (d : β) (l : List β) : Win.cut (compV d l).1 (compV d l).2 = compact l := by
  unfold compV
  split
  · rename_i h
    show l = compact l
    have key : ∀ (l : List β) (p : β), (cmpGo p l).length = l.length → cmpGo p l = l := by
      intro l
      induction l with
      | nil => intro p _; rfl
      | cons x l ih =>
        intro p hp
        unfold cmpGo at hp ⊢
        split at hp
        · have := cmpGo_len l p
          simp at hp
          omega
        · rename_i hx
          rw [if_neg hx, ih x (by simpa using hp)]
    match l with
    | [] => rfl
    | x :: l => rw [compact, key l x (by simpa [compact] using h)]
  · show List.take _ (List.drop 0 _) = _
    rw [List.drop_zero, List.take_left']
    rfl
theorem notDT {p : Prop} [Decidable p] (h : p) : (!decide p) = false := by rw [decT h]; rfl
theorem notDF {p : Prop} [Decidable p] (h : ¬ p) : (!decide p) = true := by rw [decF h]; rfl
theorem s_compactB : Fz34.S (cl PL (compV ((0, 0) : DB))) := Fz34.of_cl fun l h k => by
  have hl : l.length ≤ 1073741824 := h
  unfold Fz34.pf
  by_cases c2 : (l.length : Int) < 2
  · rw [decT c2, cond_true]
    have e : compV ((0, 0) : DB) l = (none, l) := by
      unfold compV
      match l, c2 with
      | [], _ => rfl
      | [x], _ => rfl
      | x :: y :: l, c2 => simp at c2; omega
    rw [e]
  · rw [decF c2, cond_false]
    -- where two stand together first
    have key : ∀ (n j : Nat) (fuel : Nat), j + n = l.length → 1 ≤ j → n < fuel → (∀ i, i + 1 < j → l.getD (i + 1) ((0, 0) : DB) ≠ l.getD i ((0, 0) : DB)) →
        iter (Fz34.B1 BIG l (fun (x1 : Int) (x2 : (Int × Int × (List DB))) => k ((some (0, (x2.1 - (0 : Int)).toNat)), (overL x2.2.2 x2.1.toNat (List.replicate ((((List.length x2.2.2) : Nat) : Int) - x2.1).toNat ((0, 0) : DB))))) (fun (x1 : Int) => k ((none : Option (Nat × Nat)), l))) fuel (j : Int) = k (compV ((0, 0) : DB) l) := by
      intro n
      induction n with
      | zero =>
        intro j fuel hj h1 hf hne
        match fuel, hf with
        | f + 1, _ =>
          show Fz34.B1 _ _ _ _ _ _ = _
          unfold Fz34.B1
          rw [decF (by omega), cond_false]
          have e := compact_same ((0, 0) : DB) l (l.length - 1) (by omega) (fun i hi => hne i (by omega))
          rw [show l.length - 1 + 1 = l.length by omega, List.take_of_length_le (Nat.le_refl _)] at e
          unfold compV
          rw [e, if_pos rfl]
      | succ n ih =>
        intro j fuel hj h1 hf hne
        match fuel, hf with
        | f + 1, hf =>
          have hjl : j < l.length := by omega
          have ej : IntKind.i64.wrap ((j : Int) - 1) = ((j - 1 : Nat) : Int) := by rw [w64 (by omega) (by omega)]; omega
          show Fz34.B1 _ _ _ _ (iter _ f) _ = _
          generalize hR : iter (Fz34.B1 BIG l (fun (x1 : Int) (x2 : (Int × Int × (List DB))) => k ((some (0, (x2.1 - (0 : Int)).toNat)), (overL x2.2.2 x2.1.toNat (List.replicate ((((List.length x2.2.2) : Nat) : Int) - x2.1).toNat ((0, 0) : DB))))) (fun (x1 : Int) => k ((none : Option (Nat × Nat)), l))) f = R
          unfold Fz34.B1
          simp only [decT (show (j : Int) < (l.length : Int) by omega), inB_nat hjl, ej, inB_nat (show j - 1 < l.length by omega), cond_true, Int.toNat_natCast, eqB]
          by_cases c : l.getD j ((0, 0) : DB) = l.getD (j - 1) ((0, 0) : DB)
          · rw [decT c, cond_true, inW_true (by omega) (by omega) (by omega), cond_true]
            have etk : compact (l.take j) = l.take j := by
              have := compact_same ((0, 0) : DB) l (j - 1) (by omega) (fun i hi => hne i (by omega))
              rwa [show j - 1 + 1 = j by omega] at this
            have etk1 : compact (l.take (j + 1)) = l.take j := by
              have := compact_succ ((0, 0) : DB) (l := l) (j := j - 1) (by omega)
              rw [show j - 1 + 2 = j + 1 by omega, show j - 1 + 1 = j by omega, if_pos c, List.append_nil, etk] at this
              exact this
            have := iter_fold (B := Fz34.B2 j (((l.length : Int) - (j : Int)).toNat) (fun (x2 : (Int × Int × (List DB))) => cond (inW x2.1 (((List.length x2.2.2) : Nat) : Int) (List.length x2.2.2)) (cond (inW (0 : Int) x2.1 (List.length (overL x2.2.2 x2.1.toNat (List.replicate ((((List.length x2.2.2) : Nat) : Int) - x2.1).toNat ((0, 0) : DB))))) (k ((some (0, (x2.1 - (0 : Int)).toNat)), (overL x2.2.2 x2.1.toNat (List.replicate ((((List.length x2.2.2) : Nat) : Int) - x2.1).toNat ((0, 0) : DB))))) none) none))
              l (fun p (c : List DB) => (((compact (l.take p)).length : Int), ((p - j : Nat) : Int), c)) (fun _ _ => k (compV ((0, 0) : DB) l)) (fun p c => j + 1 ≤ p ∧ c.length = l.length ∧ c.drop (p - 1) = l.drop (p - 1) ∧ c.take (compact (l.take p)).length = compact (l.take p) ∧ (compact (l.take p)).length < p) ?_ ?_ (l.length - (j + 1)) (j + 1) l BIG (by omega) (big_lt (by omega)) ⟨Nat.le_refl _, rfl, rfl, ?_, ?_⟩
            · have el : (List.take j l).length = j := by rw [List.length_take]; omega
              simp only [etk1, el] at this
              rw [show ((j + 1 - j : Nat) : Int) = 1 by omega] at this
              exact this
            · rintro p hp c' rec ⟨hp1, e1, e2, e3, e4⟩ hrec
              have hpc : p < c'.length := by omega
              have g0 : c'.getD (p - 1) ((0, 0) : DB) = l.getD (p - 1) ((0, 0) : DB) := by
                have := congrArg (fun z => z.getD 0 ((0, 0) : DB)) e2
                simpa [List.getD_eq_getElem?_getD] using this
              have g1 : c'.getD p ((0, 0) : DB) = l.getD p ((0, 0) : DB) := by
                have := congrArg (fun z => z.getD 1 ((0, 0) : DB)) e2
                simpa [List.getD_eq_getElem?_getD, show p - 1 + 1 = p by omega] using this
              have es : compact (l.take (p + 1)) = compact (l.take p) ++ if l.getD p ((0, 0) : DB) = l.getD (p - 1) ((0, 0) : DB) then [] else [l.getD p ((0, 0) : DB)] := by
                have := compact_succ ((0, 0) : DB) (l := l) (j := p - 1) (by omega)
                rwa [show p - 1 + 2 = p + 1 by omega, show p - 1 + 1 = p by omega] at this
              unfold Fz34.B2
              have en : (((l.length : Int) - (j : Int)).toNat) = l.length - j := by omega
              have ep : IntKind.i64.wrap (((p - j : Nat) : Int) - 1) = ((p - 1 - j : Nat) : Int) := by rw [w64 (by omega) (by omega)]; omega
              simp only [en, ep, decT (show ((p - j : Nat) : Int) < ((l.length - j : Nat) : Int) by omega), inB_nat (show p - j < l.length - j by omega), inB_nat (show p - 1 - j < l.length - j by omega), cond_true, Int.toNat_natCast, show j + (p - j) = p by omega, show j + (p - 1 - j) = p - 1 by omega, g0, g1, eqB, w64n (show p - j < 9223372036854775807 by omega)]
              rw [show p - j + 1 = p + 1 - j by omega]
              by_cases cc : l.getD p ((0, 0) : DB) = l.getD (p - 1) ((0, 0) : DB)
              · rw [if_pos cc, List.append_nil] at es
                rw [notDT cc, cond_false]
                have := hrec c' ⟨by omega, e1, by
                  have := congrArg (List.drop 1) e2
                  rw [List.drop_drop, List.drop_drop] at this
                  rwa [show p - 1 + 1 = p + 1 - 1 by omega] at this, by rw [es]; exact e3, by rw [es]; omega⟩
                rw [es] at this
                exact this
              · rw [if_neg cc] at es
                have el : (compact (l.take (p + 1))).length = (compact (l.take p)).length + 1 := by rw [es]; simp
                have hm : (compact (l.take p)).length < c'.length := by omega
                rw [notDF cc, cond_true, inB_nat hm, cond_true, w64n (show (compact (l.take p)).length < 9223372036854775807 by omega)]
                have := hrec (c'.set (compact (l.take p)).length (l.getD p ((0, 0) : DB))) ⟨by omega, by simpa using e1, by
                  rw [List.drop_set_of_lt (by omega)]
                  have := congrArg (List.drop 1) e2
                  rw [List.drop_drop, List.drop_drop] at this
                  rwa [show p - 1 + 1 = p + 1 - 1 by omega] at this, by
                  rw [el, take_set hm, e3, es], by omega⟩
                rw [el] at this
                exact this
            · rintro c' rec ⟨hp1, e1, e2, e3, e4⟩
              have eT : l.take l.length = l := List.take_of_length_le (Nat.le_refl _)
              simp only [eT] at e3 e4 ⊢
              unfold Fz34.B2
              rw [decF (by simp only; omega)]
              simp only [cond_false, e1]
              rw [inW_true (by omega) (by omega) (by omega), cond_true]
              have e5 : overL c' (((compact l).length : Nat) : Int).toNat (List.replicate ((((l.length : Nat) : Int)) - (((compact l).length : Nat) : Int)).toNat ((0, 0) : DB)) = compact l ++ List.replicate (l.length - (compact l).length) ((0, 0) : DB) := by
                unfold overL
                rw [Int.toNat_natCast, e3, List.drop_eq_nil_of_le (by simp; omega), List.append_nil]
                congr 2
                omega
              rw [e5, inW_true (by omega) (by omega) (by simp; omega), cond_true]
              unfold compV
              rw [if_neg (by omega)]
              congr 3
            · rw [etk1, List.length_take, Nat.min_eq_left (by omega)]
            · rw [etk1, List.length_take]; omega
          · rw [decF c, cond_false, w64n (by omega), ← hR]
            exact ih (j + 1) f (by omega) (by omega) (by omega) (fun i hi => by
              rcases Nat.lt_or_ge (i + 1) j with q | q
              · exact hne i q
              · obtain rfl : i + 1 = j := by omega
                exact c)
    exact key (l.length - 1) 1 BIG (by omega) (by omega) (big_lt (by omega)) (fun i hi => by omega)
def addRun (o : List DS) (b : DB) : List DS := match o.getLast? with
  | some x => if x.1 = b then o.dropLast ++ [(b, x.2 + 1)] else o ++ [(b, 1)]
  | none => [(b, 1)]
def runs (l : List DB) : List DS := l.foldl addRun []
theorem runs_take (l : List DB) {p : Nat} (h : p < l.length) : runs (l.take (p + 1)) = addRun (runs (l.take p)) l[p] := by
  unfold runs
  rw [List.take_succ_eq_append_getElem h, List.foldl_append]
  rfl
theorem addRun_last (o : List DS) (b : DB) : ∃ q n, addRun o b = q ++ [(b, n)] := by
  unfold addRun
  split
  · split
    · exact ⟨_, _, rfl⟩
    · exact ⟨_, _, rfl⟩
  · exact ⟨[], 1, rfl⟩
theorem runs_last (l : List DB) {p : Nat} (h : p < l.length) : ∃ q n, runs (l.take (p + 1)) = q ++ [(l[p], n)] := by
  rw [runs_take l h]
  exact addRun_last _ _
theorem runs_bd (l : List DB) : ∀ p, p ≤ l.length → (runs (l.take p)).length ≤ p ∧ ∀ x, x ∈ runs (l.take p) → 0 ≤ x.2 ∧ x.2 ≤ p
  | 0, _ => by simp [runs]
  | p + 1, h => by
    obtain ⟨h1, h2⟩ := runs_bd l p (by omega)
    rw [runs_take l h]
    generalize runs (l.take p) = o at *
    unfold addRun
    split
    · rename_i y hy
      have hm : y ∈ o := List.mem_of_getLast? hy
      have hb := h2 y hm
      have ho : 0 < o.length := List.length_pos_of_mem hm
      split
      · refine ⟨by simp; omega, fun x hx => ?_⟩
        rcases List.mem_append.1 hx with hx | hx
        · have := h2 x ((List.dropLast_prefix _).subset hx); omega
        · obtain rfl := List.mem_singleton.1 hx
          simp only; omega
      · refine ⟨by simp; omega, fun x hx => ?_⟩
        rcases List.mem_append.1 hx with hx | hx
        · have := h2 x hx; omega
        · obtain rfl := List.mem_singleton.1 hx
          simp only; omega
    · refine ⟨by simp, fun x hx => ?_⟩
      obtain rfl := List.mem_singleton.1 hx
      simp only; omega
theorem snoc_set {β : Type} (q : List β) (x y : β) : (q ++ [x]).set q.length y = q ++ [y] := by
  rw [List.set_append_right _ _ (Nat.le_refl _), Nat.sub_self]
  rfl
theorem snoc_getD {β : Type} (q : List β) (x d : β) : (q ++ [x]).getD q.length d = x := by
  rw [List.getD_eq_getElem?_getD, List.getElem?_append_right (Nat.le_refl _), Nat.sub_self]
  rfl
theorem s_l01Counts : Fz50.S (cl PL runs) := Fz50.of_cl fun l h k => by
  have hl : l.length ≤ 1073741824 := h
  unfold Fz50.pf
  refine iter_list l (fun p (o : List DS) => ((p : Int), o)) (fun _ _ => k (runs l)) (fun p o => o = runs (l.take p)) (c := []) rfl (big_lt (by omega)) rfl ?_ ?_
  · rintro p hp o rec rfl hrec
    obtain ⟨b1, b2⟩ := runs_bd l p (by omega)
    have hr := runs_take l hp
    have hnew : ∀ o : List DS, o.length ≤ p → ((((o ++ [(l[p], (0 : Int))]).length : Nat) : Int) - 1 = (o.length : Int)) := fun o ho => by simp
    unfold Fz50.B1
    have app : ∀ o : List DS, o.length ≤ p → rec (((p + 1 : Nat) : Int), o ++ [(l[p], 1)]) = (cond (okL (List.length o + List.length [(l[p], (0 : Int))])) (cond (inB (IntKind.i64.wrap ((((List.length (o ++ [(l[p], (0 : Int))])) : Nat) : Int) - 1)) (List.length (o ++ [(l[p], (0 : Int))]))) (cond (inB (IntKind.i64.wrap ((((List.length (o ++ [(l[p], (0 : Int))])) : Nat) : Int) - 1)) (List.length (o ++ [(l[p], (0 : Int))]))) (rec (((p + 1 : Nat) : Int), (List.set (o ++ [(l[p], (0 : Int))]) (IntKind.i64.wrap ((((List.length (o ++ [(l[p], (0 : Int))])) : Nat) : Int) - 1)).toNat ((List.getD (o ++ [(l[p], (0 : Int))]) (IntKind.i64.wrap ((((List.length (o ++ [(l[p], (0 : Int))])) : Nat) : Int) - 1)).toNat ((0, 0), 0)).1, (IntKind.i64.wrap ((List.getD (o ++ [(l[p], (0 : Int))]) (IntKind.i64.wrap ((((List.length (o ++ [(l[p], (0 : Int))])) : Nat) : Int) - 1)).toNat ((0, 0), 0)).2 + 1)))))) none) none) none) := fun o ho => by
      rw [okS (by simp; omega), hnew o ho, w64 (by omega) (by omega), inB_nat (by simp)]
      simp only [cond_true, Int.toNat_natCast, snoc_getD, snoc_set]
      rw [w64 (by omega) (by omega)]
      rfl
    by_cases c : p = 0
    · subst c
      have e0 : runs (l.take 0) = [] := rfl
      simp only [decT (show ((0 : Nat) : Int) < (l.length : Int) by omega), inB_nat hp, cond_true, Int.toNat_natCast, getD_lt hp, e0, w64n (show 0 < 9223372036854775807 by omega), beqT (show ((0 : Nat) : Int) = 0 from rfl)]
      refine (app [] (Nat.le_refl _)).symm.trans ?_
      exact hrec _ (by rw [hr, e0]; rfl)
    · have ep : IntKind.i64.wrap ((p : Int) - 1) = ((p - 1 : Nat) : Int) := by rw [w64 (by omega) (by omega)]; omega
      have hp1 : p - 1 < l.length := by omega
      obtain ⟨q, n, hq⟩ := runs_last l hp1
      rw [show p - 1 + 1 = p by omega] at hq
      rw [beqF (by omega)]
      simp only [decT (show (p : Int) < (l.length : Int) by omega), inB_nat hp, ep, inB_nat hp1, cond_true, cond_false, Int.toNat_natCast, getD_lt hp, getD_lt hp1, eqB, w64n (show p < 9223372036854775807 by omega)]
      by_cases cc : l[p] = l[p - 1]
      · rw [notDT cc, cond_false]
        have hlen : (((runs (l.take p)).length : Nat) : Int) - 1 = (q.length : Int) := by rw [hq]; simp
        have hn := b2 (l[p - 1], n) (by rw [hq]; simp)
        simp only at hn
        rw [hlen, w64 (by omega) (by rw [hq] at b1; simp at b1; omega), inB_nat (by rw [hq]; simp)]
        simp only [cond_true, Int.toNat_natCast]
        rw [hq, snoc_getD, snoc_set]
        simp only
        rw [w64 (by omega) (by omega)]
        refine hrec _ ?_
        rw [hr, hq]
        unfold addRun
        simp [cc]
      · rw [notDF cc, cond_true]
        refine (app _ b1).symm.trans (hrec _ ?_)
        rw [hr, hq]
        unfold addRun
        simp
        exact fun e => absurd e.symm cc
  · rintro o rec rfl
    unfold Fz50.B1
    rw [decF (by simp), List.take_of_length_le (Nat.le_refl _)]
    rfl
theorem countI_append {β : Type} (p : β → Bool) : ∀ (a b : List β), countI p (a ++ b) = countI p a + countI p b
  | [], b => by simp [countI]
  | x :: a, b => by rw [List.cons_append, countI, countI, countI_append p a b, Int.add_assoc]
theorem countI_zero {β : Type} (p : β → Bool) : ∀ (l : List β), (∀ x, x ∈ l → p x = false) → countI p l = 0
  | [], _ => rfl
  | x :: l, h => by
    rw [countI, h x (List.mem_cons_self ..), countI_zero p l (fun y hy => h y (List.mem_cons_of_mem _ hy))]
    rfl
abbrev cntB (b : DB) (l : List DB) : Int := countI (fun y => decide (y = b)) l
def tally (l : List DB) : List DS := (compact l).map fun b => (b, cntB b l)
theorem sorted_last {l : List DB} (h : SortedB l) {p : Nat} (hp : p + 1 < l.length) (hm : l[p + 1] ∈ l.take (p + 1)) : l[p + 1] = l[p] := by
  obtain ⟨i, hi, e⟩ := List.mem_iff_getElem.1 hm
  rw [List.length_take] at hi
  rw [List.getElem_take] at e
  have h1 := h.get (i := i) (j := p) (by omega) (by omega)
  have h2 := h.get (i := p) (j := p + 1) (by omega) hp
  rw [getD_lt (by omega : i < l.length), getD_lt (by omega : p < l.length), e] at h1
  rw [getD_lt (by omega : p < l.length), getD_lt hp] at h2
  exact leB_anti h1 h2
theorem compact_sub {β : Type} [DecidableEq β] : ∀ (l : List β) (x : β), x ∈ compact l → x ∈ l := by
  have key : ∀ (l : List β) (p x : β), x ∈ cmpGo p l → x ∈ l := by
    intro l
    induction l with
    | nil => intro p x h; cases h
    | cons y l ih =>
      intro p x h
      unfold cmpGo at h
      split at h
      · exact List.mem_cons_of_mem _ (ih p x h)
      · rcases List.mem_cons.1 h with rfl | h
        · exact List.mem_cons_self ..
        · exact List.mem_cons_of_mem _ (ih y x h)
  intro l x h
  match l, h with
  | y :: l, h =>
    rcases List.mem_cons.1 h with rfl | h
    · exact List.mem_cons_self ..
    · exact List.mem_cons_of_mem _ (key l y x h)
theorem compact_last {β : Type} [DecidableEq β] (d : β) (l : List β) : ∀ p, p < l.length → ∃ q, compact (l.take (p + 1)) = q ++ [l.getD p d] ∧ compact (l.take p) = (if p = 0 then [] else compact (l.take p))
  | 0, h => ⟨[], by
      match l, h with
      | x :: l, _ => rfl, by simp [compact]⟩
  | p + 1, h => by
    obtain ⟨q, h1, _⟩ := compact_last d l p (by omega)
    rw [compact_succ d h]
    by_cases c : l.getD (p + 1) d = l.getD p d
    · rw [if_pos c, List.append_nil, h1, c]; exact ⟨q, rfl, by simp⟩
    · rw [if_neg c]; exact ⟨_, rfl, by simp⟩
theorem runs_tally (l : List DB) (h : SortedB l) : ∀ p, p ≤ l.length → runs (l.take p) = tally (l.take p)
  | 0, _ => rfl
  | 1, h1 => by
    match l, h1 with
    | x :: l, _ => simp [runs, tally, addRun, compact, cmpGo, countI]
  | p + 2, hp => by
    have ih := runs_tally l h (p + 1) (by omega)
    have hp1 : p + 1 < l.length := by omega
    have hp0 : p < l.length := by omega
    rw [runs_take l hp1, ih]
    have hc := compact_succ (0, 0) hp1
    obtain ⟨q, hq, _⟩ := compact_last (0, 0) l p hp0
    rw [getD_lt hp1, getD_lt hp0] at hc
    rw [getD_lt hp0] at hq
    have ht : l.take (p + 2) = l.take (p + 1) ++ [l[p + 1]] := List.take_succ_eq_append_getElem hp1
    have hcnt : ∀ b, cntB b (l.take (p + 2)) = cntB b (l.take (p + 1)) + cond (decide (l[p + 1] = b)) 1 0 := fun b => by
      rw [cntB, ht, countI_append]
      simp [countI]
    unfold tally
    rw [hc]
    by_cases c : l[p + 1] = l[p]
    · rw [if_pos c, List.append_nil, hq, List.map_append, List.map_append]
      have hnd : ∀ b, b ∈ q → l[p + 1] ≠ b := fun b hb e => by
        -- what is left is each but once
        have key : ∀ j, j ≤ l.length → (compact (l.take j)).Nodup := by
          intro j
          induction j with
          | zero => intro _; simp [compact]
          | succ j ihj =>
            intro hj
            match j, ihj, hj with
            | 0, _, hj =>
              match l, hj with
              | x :: l, _ => simp [compact, cmpGo]
            | j + 1, ihj, hj =>
              rw [compact_succ (0, 0) (by omega)]
              split
              · rw [List.append_nil]; exact ihj (by omega)
              · rename_i hne
                rw [List.nodup_append]
                refine ⟨ihj (by omega), by simp, fun a ha b hb => ?_⟩
                obtain rfl := List.mem_singleton.1 hb
                intro e
                have hm := compact_sub _ _ ha
                rw [e, getD_lt (by omega : j + 1 < l.length)] at hm
                have := sorted_last h (by omega) hm
                rw [getD_lt (by omega : j + 1 < l.length), getD_lt (by omega : j < l.length)] at hne
                exact hne this
        have := key (p + 1) (by omega)
        rw [hq, List.nodup_append] at this
        exact this.2.2 b hb l[p] (by simp) (by rw [← e, c])
      unfold addRun
      simp only [List.map_cons, List.map_nil, List.getLast?_concat, List.dropLast_concat]
      rw [if_pos c.symm, hcnt]
      have e1 : q.map (fun b => (b, cntB b (l.take (p + 1)))) = q.map (fun b => (b, cntB b (l.take (p + 2)))) := by
        refine List.map_congr_left fun b hb => ?_
        rw [hcnt, decF (hnd b hb)]
        simp
      rw [e1, decT c, c]
      rfl
    · rw [if_neg c, List.map_append]
      have hnm : l[p + 1] ∉ l.take (p + 1) := fun hm => c (sorted_last h hp1 hm)
      have e1 : (compact (l.take (p + 1))).map (fun b => (b, cntB b (l.take (p + 1)))) = (compact (l.take (p + 1))).map (fun b => (b, cntB b (l.take (p + 2)))) := by
        refine List.map_congr_left fun b hb => ?_
        rw [hcnt, decF (fun e => hnm (by rw [e]; exact compact_sub _ _ hb))]
        simp
      have e2 : cntB l[p + 1] (l.take (p + 2)) = 1 := by
        rw [hcnt, decT rfl]
        have : cntB l[p + 1] (l.take (p + 1)) = 0 := countI_zero _ _ fun x hx => decF (fun e => hnm (by rw [← e]; exact hx))
        rw [this]
        rfl
      unfold addRun
      rw [hq] at *
      simp only [List.map_append, List.map_cons, List.map_nil, List.getLast?_concat, if_neg (fun e => c (Eq.symm e)), e2]
      rw [← List.map_singleton (f := fun b => (b, cntB b (l.take (p + 1)))), ← List.map_append, e1, List.map_append]
      rfl
def pickS (x y : DS) : DS := if y.2 > x.2 then y else x
def most (l : List DS) : DS := l.foldl pickS ((0, 0), 0)

def iLt (x y : Int) : Bool := decide (x < y)
def leI (x y : Int) : Prop := iLt y x = false
theorem leI_iff (x y : Int) : leI x y ↔ x ≤ y := by
  unfold leI iLt
  rw [decide_eq_false_iff_not]
  omega
theorem leI_refl (x : Int) : leI x x := (leI_iff x x).2 (Int.le_refl x)
def SortedI (l : List Int) : Prop := l.Pairwise leI
theorem SortedI.get {l : List Int} (h : SortedI l) {i j : Nat} (hij : i ≤ j) (hj : j < l.length) : leI (l.getD i 0) (l.getD j 0) := by
  rcases Nat.lt_or_eq_of_le hij with q | rfl
  · rw [getD_lt (by omega : i < l.length), getD_lt hj]
    exact List.pairwise_iff_getElem.1 h i j (by omega) hj q
  · exact leI_refl _
def bitAt (n i : Nat) : Bool := decide (n / 2 ^ i % 2 = 1)
theorem bit_and {n i : Nat} (hn : n < 2 ^ 32) (hi : i < 32) : (IntKind.i64.wrap (((BitVec.ofInt IntKind.i64.bits (Int.fdiv (n : Int) (2 ^ (min ((IntKind.u64.wrap (i : Int))).toNat IntKind.i64.bits))) &&& BitVec.ofInt IntKind.i64.bits (1 : Int)).toNat : Nat) : Int) == (1 : Int)) = bitAt n i := by
  have e1 : IntKind.u64.wrap (i : Int) = (i : Int) := by rw [IntKind.wrap_u64]; omega
  have e2 : IntKind.i64.bits = 64 := rfl
  rw [e1, e2, Int.toNat_natCast, Nat.min_eq_left (by omega)]
  have e3 : Int.fdiv (n : Int) (2 ^ i) = ((n / 2 ^ i : Nat) : Int) := by
    rw [Int.fdiv_eq_ediv_of_nonneg _ (Int.le_of_lt (Int.pow_pos (by omega)))]
    rw [Int.natCast_ediv, Int.natCast_pow]
    rfl
  have hq : n / 2 ^ i ≤ n := Nat.div_le_self _ _
  have e4 : (BitVec.ofInt 64 ((n / 2 ^ i : Nat) : Int) &&& BitVec.ofInt 64 (1 : Int)).toNat = n / 2 ^ i % 2 := by
    rw [BitVec.toNat_and, BitVec.toNat_ofInt, BitVec.toNat_ofInt]
    have h1 : ((((n / 2 ^ i : Nat) : Int)) % ((2 ^ 64 : Nat) : Int)).toNat = n / 2 ^ i := by
      rw [← Int.natCast_emod, Int.toNat_natCast, Nat.mod_eq_of_lt (by omega)]
    have h2 : ((1 : Int) % ((2 ^ 64 : Nat) : Int)).toNat = 1 := rfl
    rw [h1, h2, Nat.and_one_is_mod]
  rw [e3, e4]
  have hm : n / 2 ^ i % 2 < 2 := Nat.mod_lt _ (by omega)
  rw [w64 (by omega) (by omega)]
  unfold bitAt
  by_cases c : n / 2 ^ i % 2 = 1
  · rw [c, decT rfl]; rfl
  · rw [decF c, beqF (by omega)]
theorem bitAt_eq (s : Nat) : bitAt s = s.testBit := by
  funext i
  unfold bitAt
  rw [Nat.testBit_eq_decide_div_mod_eq]
theorem shl_val {n : Nat} (h : n ≤ 8) : IntKind.i64.wrap (1 * 2 ^ (min ((IntKind.u64.wrap (n : Int))).toNat IntKind.i64.bits)) = ((2 ^ n : Nat) : Int) := by
  have e1 : IntKind.u64.wrap (n : Int) = (n : Int) := by rw [IntKind.wrap_u64]; omega
  have e2 : IntKind.i64.bits = 64 := rfl
  rw [e1, e2, Int.toNat_natCast, Nat.min_eq_left (by omega)]
  have h2 : 2 ^ n ≤ 2 ^ 8 := Nat.pow_le_pow_right (by omega) h
  have e3 : (1 : Int) * 2 ^ n = ((2 ^ n : Nat) : Int) := by rw [Int.one_mul, Int.natCast_pow]; rfl
  have h3 : 2 ^ n ≤ 256 := h2
  rw [e3]
  generalize 2 ^ n = m at h3
  rw [w64 (by omega) (by omega)]
theorem clr_val {s i : Nat} (hs : s < 256) (hi : i < 8) (hb : s.testBit i = true) : IntKind.i64.wrap (((BitVec.ofInt IntKind.i64.bits (s : Int) &&& ~~~ BitVec.ofInt IntKind.i64.bits (IntKind.i64.wrap (1 * 2 ^ (min ((IntKind.u64.wrap (i : Int))).toNat IntKind.i64.bits)))).toNat : Nat) : Int) = ((s ^^^ 2 ^ i : Nat) : Int) := by
  rw [shl_val (n := i) (by omega)]
  have e2 : IntKind.i64.bits = 64 := rfl
  have h2 : 2 ^ i ≤ 2 ^ 8 := Nat.pow_le_pow_right (by omega) (by omega)
  have hx : s ^^^ 2 ^ i < 2 ^ 8 := Rg.xor_two_lt hs hi
  have e4 : (BitVec.ofInt 64 (s : Int) &&& ~~~ BitVec.ofInt 64 ((2 ^ i : Nat) : Int)).toNat = s ^^^ 2 ^ i := by
    have t1 : (BitVec.ofInt 64 (s : Int)).toNat = s := by
      rw [BitVec.toNat_ofInt, ← Int.natCast_emod, Int.toNat_natCast, Nat.mod_eq_of_lt (by omega)]
    have t2 : (BitVec.ofInt 64 ((2 ^ i : Nat) : Int)).toNat = 2 ^ i := by
      rw [BitVec.toNat_ofInt, ← Int.natCast_emod, Int.toNat_natCast, Nat.mod_eq_of_lt (by omega)]
    refine Rg.bits_ext (n := 64) (by rw [BitVec.toNat_and]; exact Nat.lt_of_le_of_lt Nat.and_le_left (by rw [t1]; omega)) (by omega) (fun j hj => ?_)
    rw [BitVec.toNat_and, Nat.testBit_and, BitVec.toNat_not, t1, t2, Rg.xor_bit, show 2 ^ 64 - 1 - 2 ^ i = 2 ^ 64 - (2 ^ i + 1) by omega, Nat.testBit_two_pow_sub_succ (by omega), Nat.testBit_two_pow]
    by_cases e : i = j
    · subst e; simp [hb]
    · simp [e, hj]
  rw [e2, e4, w64 (by omega) (by omega)]
def InBd (m : Int) (t : List Int) : Prop := t.length = 256 ∧ ∀ q, 0 ≤ t.getD q 0 ∧ t.getD q 0 ≤ m
theorem InBd.set {m v : Int} {t : List Int} (h : InBd m t) {s : Nat} (hs : s < 256) {m' : Int} (hm : m ≤ m') (h0 : 0 ≤ v) (h1 : v ≤ m') : InBd m' (t.set s v) := by
  refine ⟨by rw [List.length_set]; exact h.1, fun q => ?_⟩
  rw [Rg.getD_setI t s q v (by rw [h.1]; exact hs)]
  have := h.2 q
  split
  · exact ⟨h0, h1⟩
  · exact ⟨this.1, by omega⟩
abbrev TyB : Ty := .st (.pair (.int .u8) (.int .i16))
def celB (x : DB) : List Value := [.int .u8 x.1, .int .i16 x.2]
def cfB (x y : DB) : Int := cmpB (x, y)
theorem ltB (x y : DB) : Go.Proofs.ltOf cfB x y = bLt x y := cmpB_lt x y
theorem swoB : Go.Sort.SWO (Go.Proofs.ltOf cfB) where
  irrefl x := by
    rw [ltB]
    exact leB_refl x
  trans x y z h1 h2 := by
    rw [ltB, bLt_iff] at *
    omega
  ntrans x y z h1 h2 := by
    rw [ltB] at *
    exact leB_trans (x := z) (y := y) (z := x) h2 h1
theorem sortB_merge (l : List DB) : (l.mergeSort fun x y => !(Go.Proofs.ltOf cfB) y x) = sortB l := by
  refine List.Perm.eq_of_pairwise (le := leB) (fun a b _ _ h1 h2 => leB_anti h1 h2) ?_ (sortB_sorted l) ((List.mergeSort_perm _ _).trans (sortB_perm l).symm)
  refine (List.pairwise_mergeSort (le := fun x y => !(Go.Proofs.ltOf cfB) y x) ?_ ?_ l).imp ?_
  · intro a b c h1 h2
    simp only [ltB, Bool.not_eq_true'] at *
    exact leB_trans (x := a) (y := b) (z := c) h1 h2
  · intro a b
    simp only [ltB, Bool.or_eq_true, Bool.not_eq_true']
    rcases Bool.eq_false_or_eq_true (bLt b a) with h | h
    · exact .inr (leB_of_lt h)
    · exact .inl h
  · intro a b h
    simp only [ltB, Bool.not_eq_true'] at h
    exact h
theorem cmpI_cfB (x y : DB) : (if Go.Proofs.cmpI x.1 y.1 = 0 then Go.Proofs.cmpI x.2 y.2 else Go.Proofs.cmpI x.1 y.1) = cfB x y := by
  unfold Go.Proofs.cmpI cfB cmpB
  simp only
  by_cases h1 : x.1 < y.1
  · simp [h1]
  · by_cases h2 : x.1 > y.1
    · simp [h1, h2, show y.1 < x.1 from h2]
    · by_cases h3 : x.2 < y.2
      · simp [h1, h2, show ¬ y.1 < x.1 from h2, h3]
      · by_cases h4 : x.2 > y.2
        · simp [h1, h2, show ¬ y.1 < x.1 from h2, h3, h4, show y.2 < x.2 from h4]
        · simp [h1, h2, show ¬ y.1 < x.1 from h2, h3, h4, show ¬ y.2 < x.2 from h4]
theorem calls_cmp (x y : DB) (W : World) : Calls Try.prog 113 #[.agg (celB x).toArray, .agg (celB y).toArray] W fun e w' => e = .returned (.int .i64 (cfB x y)) ∧ ∃ q os', w' = Go.Sort.grow (W.drewN q) os' := by
  have := Go.Proofs.Try.cmp113 x.1 x.2 y.1 y.2 W
  rw [cmpI_cfB] at this
  exact this
theorem cel_len (x : DB) : (celB x).length = 2 := rfl
theorem cel_at (l : List DB) : ∀ t, t < l.length * 2 → (l.flatMap celB)[t]? = (celB (l.getD (t / 2) (0, 0)))[t % 2]? := by
  induction l with
  | nil => intro t h; simp at h
  | cons x l ih =>
    intro t h
    rw [List.flatMap_cons]
    match t, h with
    | 0, _ => rfl
    | 1, _ => rfl
    | t + 2, h =>
      rw [List.getElem?_append_right (by rw [cel_len]; omega), cel_len, show t + 2 - 2 = t by omega, ih t (by simp only [List.length_cons] at h; omega), show (t + 2) / 2 = t / 2 + 1 by omega, show (t + 2) % 2 = t % 2 by omega]
      rfl
theorem cel_flat (l : List DB) : (l.flatMap celB).length = l.length * 2 := by
  induction l with
  | nil => rfl
  | cons x l ih => rw [List.flatMap_cons, List.length_append, ih, cel_len, List.length_cons]; omega
theorem flatK_at (l : List DB) (t : Nat) (h : t < l.length * 2) : (l.flatMap celB)[t]? = some (Go.Sort.flatK celB 2 l.toArray)[t]! := by
  rw [cel_at l t h, Go.Sort.get_flatK celB 2 l.toArray t (by simpa using h)]
  have h2 : t / 2 < l.length := by omega
  rw [getD_lt h2]
  have e : l.toArray[t / 2]! = l[t / 2] := by rw [getElem!_pos _ _ (by simpa using h2)]; simp
  rw [e]
  have h3 : t % 2 < (celB l[t / 2]).length := by rw [cel_len]; omega
  rw [List.getElem?_eq_getElem h3, getElem!_pos (celB l[t / 2]) (t % 2) h3]
theorem many_flat (l l2 : List DB) (h : l2.length = l.length) : Go.Sort.setMany (Go.Sort.flatK celB 2 l.toArray) 0 (l2.flatMap celB) = Go.Sort.flatK celB 2 l2.toArray := by
  refine Go.Sort.ext_get! (by simp [h]) fun t ht => ?_
  have ht : t < l.length * 2 := by simpa using ht
  rw [Go.Sort.get_setMany _ _ _ t (by simpa using ht), if_pos ⟨Nat.zero_le _, by rw [cel_flat, h]; omega⟩, Nat.sub_zero]
  have := flatK_at l2 t (by rw [h]; exact ht)
  rw [getElem!_pos _ t (by rw [cel_flat, h]; exact ht)]
  rw [List.getElem?_eq_getElem (by rw [cel_flat, h]; exact ht)] at this
  exact Option.some.inj this
theorem cells_row (l : List DB) (locs : Nat → TyB.loc) : rowCells TyB l locs = l.flatMap celB := by
  have e : ∀ i, cells TyB (List.getD l i (0, 0)) (locs i) = celB (List.getD l i (0, 0)) := fun i => rfl
  show ((List.range l.length).flatMap fun i => cells TyB (List.getD l i (0, 0)) (locs i)) = _
  rw [show (fun i => cells TyB (List.getD l i (0, 0)) (locs i)) = fun i => celB (List.getD l i (0, 0)) from funext e]
  clear e locs
  induction l with
  | nil => rfl
  | cons x l ih =>
    rw [List.length_cons, List.range_succ_eq_map, List.flatMap_cons, List.flatMap_cons, List.flatMap_map]
    exact congrArg (celB x ++ ·) ih
theorem s_SortFuncL : Fz44.S (cl PL sortB) where
  fn := ⟨Try.f112, by kernel_rfl, by decide, by decide⟩
  does := fun avs r hr vs w gh MBb hR => by
    obtain ⟨x, y, h1, h2, rfl⟩ := mkSig_run hr
    obtain ⟨e0, rfl⟩ := Fz44.dec_eq h1
    obtain ⟨hp, rfl⟩ := cl_some h2
    have hp : x.length ≤ 1073741824 := hp
    have hR : R 2 w ⟨MBb, _⟩ ⟨[.sl 0 [] none, .fn 113 []], [some (.dat ⟨e0, TyB, x, true, false, none⟩)]⟩ gh ⟨vs.toArray, []⟩ w := hR
    have hsz : vs.length = 2 := by simpa using hR.tm
    match vs, hsz with
    | [v0, v1], _ =>
      have a1 : SRel [some (.dat ⟨e0, TyB, x, true, false, none⟩)] gh (.fn 113 []) v1 := hR.slots 1 (by omega)
      obtain ⟨us, rfl, hus⟩ := a1
      obtain rfl : us = [] := List.eq_nil_of_length_eq_zero hus.1.symm
      obtain ⟨A, c, q1, q2, q3⟩ := sl_root hR (x := .tmp 0) (n := 0) (wn := none) rfl rfl
      have q1 : v0 = .slice A x.length c := q1
      subst q1
      rcases hR.dat 0 _ rfl with hm | ⟨hrow, _⟩
      · exact absurd hm Bool.false_ne_true
      · rcases Nat.eq_zero_or_pos x.length with h0 | h0
        · have hn : x = [] := List.eq_nil_of_length_eq_zero h0
          subst hn
          refine (Go.Proofs.AnyF.slices_SortFunc_none Try.sortB A c (.func (.func 113) #[] #[]) w).mono fun e w' ⟨he, hw⟩ => ?_
          subst he hw
          exact ⟨_, gh, [], [], hR.ret (Go.RowKit.Below.refl _ _) (fun _ => Nat.le_refl _) [] [] (All2.nil _), rfl, rfl, rfl⟩
        · obtain ⟨b, o, eA, eA2⟩ := q3 h0
          obtain ⟨b', o', eA', hb, hr⟩ := hrow.at_ h0
          have eA' : (gh.G 0 TyB).1.A = some ⟨b', o', none⟩ := eA'
          rw [eA] at eA'
          simp only [Option.some.injEq, Addr.mk.injEq, and_true] at eA'
          obtain ⟨rfl, rfl⟩ := eA'
          have eA2 : A = some ⟨b, o, none⟩ := by rw [eA2]; simp [Win.off]
          subst eA2
          obtain ⟨b2, o2, arr, e2, f1, f2, _⟩ := hrow.own rfl (Nat.lt_of_lt_of_le h0 hrow.le)
          have f1 : (gh.G 0 TyB).1.A = some ⟨b2, o2, none⟩ := f1
          rw [eA] at f1
          simp only [Option.some.injEq, Addr.mk.injEq, and_true] at f1
          obtain ⟨rfl, rfl⟩ := f1
          rw [cells_row] at hr
          have hH : Go.Sort.HoldsK celB 2 w b o x.toArray := fun j hj => by
            have hj : j < x.length * 2 := by simpa using hj
            refine ⟨hr j _ (flatK_at x j hj), ?_⟩
            unfold World.frozen?
            rw [f2]
            simp
          have C := Go.Proofs.AnyQ.slices_SortFunc_total Try.sortB 2 Try.isAgg41 Try.sizeOf41 celB cel_len (fun x v hv => by simp [celB] at hv; rcases hv with rfl | rfl <;> rfl) cfB swoB 113 #[] b o c x.toArray w (enters_of Try.func113 (by kernel_rfl) rfl) (fun m os dk hdk x y => calls_cmp x y _) hH hb (by simp; omega) (fun x y h1 h2 => by rw [ltB] at h1 h2; exact leB_anti h2 h1)
          rw [show x.toArray.size = x.length by simp, show x.toArray.toList = x by simp, sortB_merge] at C
          refine C.mono fun e w' ⟨he, n, os, hw⟩ => ?_
          subst he
          have R1 := hR.drawn (w.drawn + n) (Nat.le_add_right _ _)
          obtain ⟨g', R2⟩ := R.over (t := TyB) rfl (x := .tmp 0) (A := some ⟨b, o, none⟩) (len := x.length) (c := c) rfl (sortB x) 0 _ _ _ x R1 (wn := none) rfl rfl (fun y _ => ⟨trivial, trivial⟩) (by rw [sortB_len]; omega) b o (fun _ => rfl)
          have eo : overL x (Win.off none + 0) (sortB x) = sortB x := by
            unfold overL
            rw [show Win.off none + 0 = 0 from rfl, sortB_len, Nat.zero_add, List.drop_length]
            simp
          have ew : ({ w with drawn := w.drawn + n } : World).setCells b (o + 0 * TyB.size) ((sortB x).flatMap fun y => cells TyB y TyB.dloc) = Go.Sort.putRowK celB 2 (Go.Sort.ahead w n) b o (sortB x).toArray := by
            have h1 : Go.Sort.putRow id (Go.Sort.ahead w n) b o (Go.Sort.flatK celB 2 x.toArray) = Go.Sort.ahead w n := Go.Sort.putRow_self id _ _ _ _ (Go.Sort.holdsK_ahead celB 2 w n b o _ hH)
            have h2 := Go.Sort.setCells_putRow (Go.Sort.ahead w n) b o ((sortB x).flatMap celB) 0 (Go.Sort.flatK celB 2 x.toArray) (by rw [cel_flat, sortB_len]; simp)
            rw [h1, many_flat _ _ (sortB_len x)] at h2
            rw [Nat.zero_mul]
            exact h2
          rw [eo, ew] at R2
          subst hw
          refine ⟨_, g', [], [], R2.ret (w' := Go.Proofs.sortWorldK celB 2 w b o n (sortB x).toArray os) ⟨rfl, rfl, rfl, ?_, fun k hk => ?_⟩ (fun _ => Nat.le_refl _) [] [] (All2.nil _), rfl, rfl, rfl⟩
          · unfold Go.Proofs.sortWorldK Go.Sort.grow
            simp
          · unfold Go.Proofs.sortWorldK Go.Sort.grow
            simp only
            rw [Array.getElem?_append_left hk]
def flatB (s : List (List DB)) : List DB := s.flatMap allB
def whole (s : List (List DB)) : List DB := sortB (flatB s)
def wS12 (s : List (List DB)) : Prop := s.length ≤ 12 ∧ ∀ c, c ∈ s → c.length = 12
theorem flatB_len : ∀ (s : List (List DB)), (∀ c, c ∈ s → c.length = 12) → (flatB s).length ≤ 12 * s.length
  | [], _ => by simp [flatB]
  | c :: s, h => by
    have h1 := flatB_len s fun x hx => h x (List.mem_cons_of_mem _ hx)
    have h2 := allB_len c
    rw [h c (List.mem_cons_self ..)] at h2
    unfold flatB at *
    rw [List.flatMap_cons, List.length_append, List.length_cons]
    omega
theorem flatB_take (s : List (List DB)) {p : Nat} (h : p < s.length) : flatB (s.take (p + 1)) = flatB (s.take p) ++ allB s[p] := by
  unfold flatB
  rw [List.take_succ_eq_append_getElem h, List.flatMap_append]
  simp
theorem wS12.tk {s : List (List DB)} (h : wS12 s) (p : Nat) : (flatB (s.take p)).length ≤ 144 := by
  have := flatB_len (s.take p) fun c hc => h.2 c (List.take_subset p s hc)
  have h1 := h.1
  rw [List.length_take] at this
  omega
theorem whole_len {s : List (List DB)} (h : wS12 s) : (whole s).length ≤ 144 := by
  have := h.tk s.length
  rw [List.take_length] at this
  unfold whole
  rw [sortB_len]
  exact this
theorem s_l01Whole : Fz55.S (cl wS12 whole) := Fz55.of_cl s_l01All s_l01Sorted fun s h k => by
  obtain ⟨h1, h2⟩ := h
  unfold Fz55.pf
  refine iter_list s (fun p (o : List DB) => ((p : Int), o)) (fun _ _ => k (whole s)) (fun p o => o = flatB (s.take p)) (c := []) rfl (big_lt (by omega)) rfl ?_ ?_
  · rintro p hp o rec rfl hrec
    have hb1 := wS12.tk ⟨h1, h2⟩ (p + 1)
    rw [flatB_take s hp, List.length_append] at hb1
    unfold Fz55.B1
    simp only [decT (show (p : Int) < (s.length : Int) by omega), inB_nat hp, cond_true, Int.toNat_natCast, getD_lt hp, cl_eq (show Cr s[p] from h2 _ (List.getElem_mem hp)), Option.bind_some, w64n (show p < 9223372036854775807 by omega)]
    rw [okS (by omega), cond_true]
    exact hrec _ (flatB_take s hp).symm
  · rintro o rec rfl
    unfold Fz55.B1
    have hb := wS12.tk ⟨h1, h2⟩ s.length
    rw [List.take_length] at hb ⊢
    rw [decF (by simp only; omega), cond_false]
    show (cl PL sortB (flatB s)).bind _ = _
    rw [cl_eq (show PL (flatB s) by unfold PL; omega), Option.bind_some]
    rfl
def wSM (s : List (List DB)) : Prop := s.length ≤ 1048576 ∧ ∀ c, c ∈ s → c.length = 12
theorem wSM.tk {s : List (List DB)} (h : wSM s) (p : Nat) : (flatB (s.take p)).length ≤ 12582912 := by
  have := flatB_len (s.take p) fun c hc => h.2 c (List.take_subset p s hc)
  have h1 := h.1
  rw [List.length_take] at this
  omega
theorem s_allOfM : Fz14.S (cl wSM whole) := Fz14.of_cl s_crateBottles s_SortFuncL fun s h k => by
  obtain ⟨h1, h2⟩ := h
  unfold Fz14.pf
  refine iter_list s (fun p (o : List DB) => ((p : Int), o)) (fun _ _ => k (whole s)) (fun p o => o = flatB (s.take p)) (c := []) rfl (big_lt (by omega)) rfl ?_ ?_
  · rintro p hp o rec rfl hrec
    have hb := wSM.tk ⟨h1, h2⟩ p
    have hb1 := wSM.tk ⟨h1, h2⟩ (p + 1)
    rw [flatB_take s hp, List.length_append] at hb1
    unfold Fz14.B1
    simp only [decT (show (p : Int) < (s.length : Int) by omega), inB_nat hp, cond_true, Int.toNat_natCast, getD_lt hp, cl_eq (show Cr s[p] from h2 _ (List.getElem_mem hp)), Option.bind_some, w64n (show p < 9223372036854775807 by omega)]
    rw [okS (show (flatB (s.take p)).length + (allB s[p]).length ≤ 4294967296 by omega), cond_true]
    exact hrec _ (flatB_take s hp).symm
  · rintro o rec rfl
    unfold Fz14.B1
    have hb := wSM.tk ⟨h1, h2⟩ s.length
    rw [List.take_length] at hb ⊢
    rw [decF (by simp only; omega), cond_false]
    show (cl PL sortB (flatB s)).bind _ = _
    rw [cl_eq (show PL (flatB s) by unfold PL; omega), Option.bind_some]
    rfl
def cI (s : List (List DB)) (i : Nat) (b : DB) : Int := cntB b (s.getD i [])
def kindsB (s : List (List DB)) : List DB := compact (whole s)
def bestLabels (s : List (List DB)) : List DB × Int × Int :=
  if stackOk s = true then (if s.length > 6 then ([], 0, 3) else if (kindsB s).length < s.length then ([], 0, 6) else (Lb.G (cI s) s.length 0 (kindsB s), ((whole s).length : Int) - Lb.V (cI s) s.length 0 (kindsB s), 0)) else ([], 0, 1)
def Cr12 (s : List (List DB)) : Prop := ∀ c, c ∈ s → c.length = 12
theorem cI_bd {s : List (List DB)} (h : Cr12 s) (i : Nat) (b : DB) : 0 ≤ cI s i b ∧ cI s i b ≤ 12 := by
  unfold cI
  have := countI_le (fun y => decide (y = b)) (s.getD i [])
  by_cases c : i < s.length
  · rw [getD_lt c] at this ⊢
    rw [h _ (List.getElem_mem c)] at this
    exact this
  · have e : s.getD i [] = [] := by rw [List.getD_eq_getElem?_getD, List.getElem?_eq_none (by omega)]; rfl
    rw [e]
    show (0 : Int) ≤ 0 ∧ (0 : Int) ≤ 12
    omega
theorem V_le {s : List (List DB)} (h : Cr12 s) (d i : Nat) (l : List DB) : Lb.V (cI s) d i l ≤ 12 * d := by
  rcases (Lb.V_max (fun i b => (cI_bd h i b).1) d i l).2 with e | ⟨bs, hl, _, _, e⟩
  · omega
  · rw [← e, ← hl]
    have key : ∀ (bs : List DB) (i : Nat), Lb.sumC (cI s) i bs ≤ 12 * bs.length := fun bs => by
      induction bs with
      | nil => intro i; simp [Lb.sumC]
      | cons b bs ih => intro i; have := ih (i + 1); have := (cI_bd h i b).2; unfold Lb.sumC; simp only [List.length_cons]; omega
    exact key bs i
theorem compactB_nodup {l : List DB} (h : SortedB l) : (compact l).Nodup := by
  have key : ∀ j, j ≤ l.length → (compact (l.take j)).Nodup := by
    intro j
    induction j with
    | zero => intro _; simp [compact]
    | succ j ihj =>
      intro hj
      match j, ihj, hj with
      | 0, _, hj =>
        match l, hj with
        | x :: l, _ => simp [compact, cmpGo]
      | j + 1, ihj, hj =>
        rw [compact_succ (0, 0) (by omega)]
        split
        · rw [List.append_nil]; exact ihj (by omega)
        · rename_i hne
          rw [List.nodup_append]
          refine ⟨ihj (by omega), by simp, fun a ha b hb => ?_⟩
          obtain rfl := List.mem_singleton.1 hb
          intro e
          have hm := compact_sub _ _ ha
          rw [e, getD_lt (by omega : j + 1 < l.length)] at hm
          have := sorted_last h (by omega) hm
          rw [getD_lt (by omega : j + 1 < l.length), getD_lt (by omega : j < l.length)] at hne
          exact hne this
  have := key l.length (Nat.le_refl _)
  rwa [List.take_length] at this
theorem kinds_nodup (s : List (List DB)) : (kindsB s).Nodup := compactB_nodup (sortB_sorted _)
def PMul (x : Int × Int) : Prop := x.1 = 1 ∧ ∃ n : Nat, n ≤ 6 ∧ x.2 = 2 ^ n
theorem six_cases {n : Nat} (h : n ≤ 6) : n = 0 ∨ n = 1 ∨ n = 2 ∨ n = 3 ∨ n = 4 ∨ n = 5 ∨ n = 6 := by omega
theorem s_Mul64 : Fz32.S (cl PMul fun x => (0, x.2)) := Fz32.of_cl fun x h k => by
  obtain ⟨a, b⟩ := x
  obtain ⟨e, n, hn, e2⟩ := h
  have e : a = 1 := e
  have e2 : b = 2 ^ n := e2
  subst e e2
  show Fz32.pf BIG 1 (2 ^ n) k = k (0, 2 ^ n)
  unfold Fz32.pf
  simp only [decF (show ¬ ((32 : Int) < 0) by omega), cond_false]
  refine congrArg k ?_
  rcases six_cases hn with rfl | rfl | rfl | rfl | rfl | rfl | rfl <;> decide
theorem s_Mul : Fz31.S (cl PMul fun x => (0, x.2)) := Fz31.of_cl s_Mul64 fun x h k => by
  unfold Fz31.pf
  rw [cl_eq h, Option.bind_some]
def PRep (x : List Int × Int) : Prop := x.1 = [-1] ∧ ∃ n : Nat, n ≤ 6 ∧ x.2 = 2 ^ n
theorem rep_round {α : Type} {a b : Nat} (h : 0 < a) (hab : a ≤ b) (hb : b ≤ 64) (p : List Int) (K : Int × List Int → Option α) (rec : Int × List Int → Option α) :
    Fz43.B1 p K rec ((a : Int), List.replicate a (-1) ++ List.replicate (b - a) 0) = if a < b then rec (((a + min (b - a) a : Nat) : Int), List.replicate (a + min (b - a) a) (-1) ++ List.replicate (b - (a + min (b - a) a)) 0) else K ((a : Int), List.replicate a (-1) ++ List.replicate (b - a) 0) := by
  have el : (List.replicate a (-1 : Int) ++ List.replicate (b - a) 0).length = b := by simp; omega
  unfold Fz43.B1
  simp only [el]
  by_cases c : a < b
  · rw [decT (by omega), if_pos c, cond_true, inW_true (by omega) (by omega) (by omega), cond_true, inW_true (by omega) (by omega) (by omega), cond_true]
    have e1 : (List.take ((a : Int) - 0).toNat (List.drop 0 (List.replicate a (-1 : Int) ++ List.replicate (b - a) 0))) = List.replicate a (-1) := by
      rw [List.drop_zero, show ((a : Int) - 0).toNat = a by omega, List.take_left' (by simp)]
    have e2 : ((b : Int) - (a : Int)).toNat = b - a := by omega
    rw [e1, e2, List.length_replicate, w64 (by omega) (by omega), List.take_replicate, Int.toNat_natCast]
    have e3 : overL (List.replicate a (-1 : Int) ++ List.replicate (b - a) 0) a (List.replicate (min (b - a) a) (-1)) = List.replicate (a + min (b - a) a) (-1) ++ List.replicate (b - (a + min (b - a) a)) 0 := by
      unfold overL
      rw [List.take_left' (by simp), List.length_replicate, ← List.drop_drop, List.drop_left' (by simp), List.drop_replicate, ← List.append_assoc, List.replicate_append_replicate]
      congr 2
      omega
    rw [e3]
    rfl
  · rw [decF (by omega), if_neg c, cond_false]
theorem rep_all {α : Type} {b : Nat} (hb : b ≤ 64) (p : List Int) (K : Int × List Int → Option α) : ∀ (j a fuel : Nat), a + j = b → 0 < a → j < fuel →
    iter (Fz43.B1 p K) fuel ((a : Int), List.replicate a (-1) ++ List.replicate (b - a) 0) = K ((b : Int), List.replicate b (-1)) := fun j => by
  induction j using Nat.strongRecOn with
  | _ j ih =>
    intro a fuel h1 h2 h3
    match fuel, h3 with
    | f + 1, h3 =>
      show Fz43.B1 p K (iter _ f) _ = _
      rw [rep_round h2 (by omega) hb]
      by_cases c : a < b
      · rw [if_pos c]
        exact ih (b - (a + min (b - a) a)) (by omega) (a + min (b - a) a) f (by omega) (by omega) (by omega)
      · rw [if_neg c]
        obtain rfl : a = b := by omega
        simp
theorem two_six {n : Nat} (h : n ≤ 6) : 2 ^ n ≤ 64 := Nat.pow_le_pow_right (show 0 < 2 by omega) h
theorem two_cast (n : Nat) : (2 : Int) ^ n = ((2 ^ n : Nat) : Int) := by rw [Int.natCast_pow]; rfl
theorem s_Repeat : Fz43.S (cl PRep fun x => List.replicate x.2.toNat (-1)) := Fz43.of_cl s_Mul fun x h k => by
  obtain ⟨a, b⟩ := x
  obtain ⟨e, n, hn, e2⟩ := h
  have e : a = [-1] := e
  have e2 : b = 2 ^ n := e2
  have h6 := two_six hn
  have hp := Nat.two_pow_pos n
  subst e e2
  show Fz43.pf _ BIG [-1] (2 ^ n) k = k (List.replicate ((2 : Int) ^ n).toNat (-1))
  unfold Fz43.pf
  have ew : IntKind.u64.wrap ((2 : Int) ^ n) = 2 ^ n := by rw [two_cast, IntKind.wrap_u64]; omega
  have hm : PMul (IntKind.u64.wrap ((([(-1 : Int)].length : Nat)) : Int), IntKind.u64.wrap ((2 : Int) ^ n)) := ⟨(show IntKind.u64.wrap 1 = 1 from by decide), n, hn, ew⟩
  rw [decF (show ¬ ((2 : Int) ^ n < 0) by rw [two_cast]; omega), cond_false, cl_eq hm, Option.bind_some]
  simp only [ew]
  rw [two_cast]
  generalize 2 ^ n = m at h6 hp
  rw [decF (show ¬ ((0 : Int) > 0) by omega), cond_false, decF (by omega), cond_false, w64 (by omega) (by omega), inW_true (by omega) (by omega) (by unfold LIM; omega), cond_true]
  have e1 : overL (List.replicate ((m : Int)).toNat (0 : Int)) 0 (List.take (List.replicate ((m : Int)).toNat (0 : Int)).length [-1]) = List.replicate 1 (-1) ++ List.replicate (m - 1) 0 := by
    rw [Int.toNat_natCast, List.length_replicate, List.take_of_length_le (by simp; omega)]
    unfold overL
    simp
  have e3 : (((min (List.replicate ((m : Int)).toNat (0 : Int)).length [(-1 : Int)].length : Nat)) : Int) = ((1 : Nat) : Int) := by
    rw [Int.toNat_natCast, List.length_replicate]
    simp only [List.length_singleton]
    omega
  rw [e1, e3, rep_all h6 _ _ (m - 1) 1 BIG (by omega) (by omega) (big_lt (by omega)), Int.toNat_natCast]
theorem shl_v {n : Nat} (h : n ≤ 8) : IntKind.i64.wrap (1 * 2 ^ (min ((n : Int)).toNat IntKind.i64.bits)) = ((2 ^ n : Nat) : Int) := by
  have e1 : IntKind.u64.wrap (n : Int) = (n : Int) := by rw [IntKind.wrap_u64]; omega
  have := shl_val h
  rwa [e1] at this
theorem clr_v {s i : Nat} (hs : s < 256) (hi : i < 8) (hb : s.testBit i = true) : IntKind.i64.wrap (((BitVec.ofInt IntKind.i64.bits (s : Int) &&& ~~~ BitVec.ofInt IntKind.i64.bits (IntKind.i64.wrap (1 * 2 ^ (min ((i : Int)).toNat IntKind.i64.bits)))).toNat : Nat) : Int) = ((s ^^^ 2 ^ i : Nat) : Int) := by
  have e1 : IntKind.u64.wrap (i : Int) = (i : Int) := by rw [IntKind.wrap_u64]; omega
  have := clr_val hs hi hb
  rwa [e1] at this
theorem bit_v {n i : Nat} (hn : n < 2 ^ 32) (hi : i < 32) : (IntKind.i64.wrap (((BitVec.ofInt IntKind.i64.bits (Int.fdiv (n : Int) (2 ^ (min ((i : Int)).toNat IntKind.i64.bits))) &&& BitVec.ofInt IntKind.i64.bits (1 : Int)).toNat : Nat) : Int) == (1 : Int)) = n.testBit i := by
  have e1 : IntKind.u64.wrap (i : Int) = (i : Int) := by rw [IntKind.wrap_u64]; omega
  have := bit_and hn hi
  rw [e1, bitAt_eq] at this
  exact this
def TBd (n : Nat) (M : Int) (t : List Int) : Prop := t.length = 2 ^ n ∧ ∀ q, t.getD q 0 ≤ M
theorem dpI_bd {n : Nat} {M : Int} {t : List Int} (h : TBd n M t) (hM : 0 ≤ M) {c : Nat → Int} (hc : ∀ i, 0 ≤ c i ∧ c i ≤ 12) {s : Nat} (hs : s < 2 ^ n) (i : Nat) : TBd n (M + 12) (Lb.dpI c s t i) := by
  have up : TBd n (M + 12) t := ⟨h.1, fun q => by have := h.2 q; omega⟩
  unfold Lb.dpI
  split
  · split
    · refine ⟨by rw [List.length_set]; exact h.1, fun q => ?_⟩
      rw [Lb.getD_set t s q _ (by rw [h.1]; exact hs)]
      split
      · have := h.2 s
        have := h.2 (s ^^^ 2 ^ i)
        have := (hc i).2
        omega
      · exact up.2 q
    · exact up
  · exact up
theorem dpS_bd {n : Nat} {c : Nat → Int} (hc : ∀ i, 0 ≤ c i ∧ c i ≤ 12) {s : Nat} (hs : s < 2 ^ n) : ∀ (q : List Nat) {M : Int} {t : List Int}, TBd n M t → 0 ≤ M → TBd n (M + 12 * q.length) (q.foldl (Lb.dpI c s) t)
  | [], M, t, h, _ => by simpa using h
  | i :: q, M, t, h, hM => by
    have := dpS_bd hc hs q (dpI_bd h hM hc hs i) (by omega)
    rw [List.foldl_cons, List.length_cons]
    rwa [show M + 12 * ((q.length + 1 : Nat) : Int) = M + 12 + 12 * (q.length : Int) by push_cast; omega]
theorem kept_in {α : Type} {s : List (List DB)} (h12 : Cr12 s) (fr n : Nat) (hn : fr + n = s.length) (h6 : s.length ≤ 6) (b : DB) (st : Nat) (hs : st < 2 ^ n) (p3 p4 : Int) (l : List DB) {M : Int} (hM : 0 ≤ M) (hM2 : M ≤ 1000000) (t : List Int) (h : TBd n M t) (K : Int × List Int → Option α) :
    iter (Fz17.B3 (cl POne fun x => countI (fun y => decide (y = x.2)) (x.1.getD 0 [])) (fr : Int) (n : Int) (st : Int) p3 p4 (n : Int) s l b K) BIG (0, t) = K ((n : Int), Lb.dpS (fun i => cI s (fr + i) b) n t st) := by
  have h256 := two_six (show n ≤ 6 by omega)
  have hc : ∀ i, 0 ≤ cI s (fr + i) b ∧ cI s (fr + i) b ≤ 12 := fun i => cI_bd h12 _ b
  refine (iter_list (List.range n) (fun i (c : List Int) => ((i : Int), c)) (fun q c => K ((n : Int), q.foldl (Lb.dpI (fun i => cI s (fr + i) b) st) c)) (fun i c => TBd n (M + 12 * i) c) (c := t) rfl (big_lt (by simp; omega)) (by simpa using h) ?_ ?_)
  · rintro i hi c rec hcI hrec
    have hi : i < n := by simpa using hi
    have hup := dpI_bd hcI (by omega) hc hs i
    have hup : TBd n (M + 12 * ((i + 1 : Nat) : Int)) (Lb.dpI (fun i => cI s (fr + i) b) st c i) := by
      rwa [show M + 12 * ((i + 1 : Nat) : Int) = M + 12 * (i : Int) + 12 by push_cast; omega]
    unfold Fz17.B3
    simp only [List.getElem_range]
    rw [decT (show (i : Int) < (n : Int) by omega), cond_true, decF (show ¬ (i : Int) < 0 by omega), cond_false, cond_false, bit_v (by omega) (by omega), List.foldl_cons, w64n (show i < 9223372036854775807 by omega)]
    by_cases q : st.testBit i = true
    · have hx := Rg.xor_two_lt hs hi
      have ec := clr_v (s := st) (i := i) (by omega) (by omega) q
      have hv := hcI.2 (st ^^^ 2 ^ i)
      have hcl := hcI.1
      rw [q, cond_true, ec, inB_nat (show st ^^^ 2 ^ i < c.length by omega), cond_true]
      simp only [Int.toNat_natCast]
      by_cases z : 0 ≤ c.getD (st ^^^ 2 ^ i) 0
      · have hfi : fr + i < s.length := by omega
        have ew : IntKind.i64.wrap ((fr : Int) + (i : Int)) = ((fr + i : Nat) : Int) := by rw [w64 (by omega) (by omega)]; push_cast; rfl
        have eone : List.take (((fr + i + 1 : Nat) : Int) - ((fr + i : Nat) : Int)).toNat (List.drop (fr + i) s) = [s[fr + i]] := by
          rw [show (((fr + i + 1 : Nat) : Int) - ((fr + i : Nat) : Int)).toNat = 1 by omega, drop_cons hfi]
          rfl
        have hcn : countI (fun y => decide (y = b)) s[fr + i] = cI s (fr + i) b := by unfold cI; rw [getD_lt hfi]
        have hcc := hc i
        rw [decT (show c.getD (st ^^^ 2 ^ i) 0 ≥ 0 from z), cond_true, inB_nat (show st < c.length by omega), cond_true, cond_true, ew, w64n (show fr + i < 9223372036854775807 by omega), inW_true (by omega) (by omega) (by omega), cond_true]
        simp only [Int.toNat_natCast]
        rw [eone, cl_eq (show POne ([s[fr + i]], b) from ⟨_, rfl, h12 _ (List.getElem_mem hfi)⟩), Option.bind_some]
        simp only [List.getD_cons_zero, cond_true]
        rw [hcn, w64 (n := c.getD (st ^^^ 2 ^ i) 0 + cI s (fr + i) b) (by omega) (by omega)]
        have es : Lb.dpI (fun i => cI s (fr + i) b) st c i = c.set st (if c.getD st 0 < c.getD (st ^^^ 2 ^ i) 0 + cI s (fr + i) b then c.getD (st ^^^ 2 ^ i) 0 + cI s (fr + i) b else c.getD st 0) := by
          unfold Lb.dpI
          rw [if_pos q, if_pos z]
          congr 1
          show max (c.getD st 0) (c.getD (st ^^^ 2 ^ i) 0 + cI s (fr + i) b) = _
          rw [Int.max_def]
          split <;> split <;> omega
        rw [← es]
        exact hrec _ hup
      · rw [decF (show ¬ c.getD (st ^^^ 2 ^ i) 0 ≥ 0 from z), cond_false]
        have es : Lb.dpI (fun i => cI s (fr + i) b) st c i = c := by unfold Lb.dpI; rw [if_pos q, if_neg z]
        rw [es] at hup ⊢
        exact hrec _ hup
    · rw [Bool.eq_false_iff.2 q, cond_false]
      have es : Lb.dpI (fun i => cI s (fr + i) b) st c i = c := by unfold Lb.dpI; rw [if_neg q]
      rw [es] at hup ⊢
      exact hrec _ hup
  · rintro c rec _
    unfold Fz17.B3
    rw [decF (by simp)]
    simp
theorem kept_down {α : Type} {s : List (List DB)} (h12 : Cr12 s) (fr n : Nat) (hn : fr + n = s.length) (h6 : s.length ≤ 6) (b : DB) (p2 p3 : Int) (l : List DB) (K : Int × List Int → Option α) :
    ∀ (m fuel : Nat) (M : Int) (t : List Int), m < 2 ^ n → m < fuel → 0 ≤ M → M + 72 * m ≤ 1000000 → TBd n M t →
    iter (Fz17.B2 (cl POne fun x => countI (fun y => decide (y = x.2)) (x.1.getD 0 [])) BIG (fr : Int) (n : Int) p2 p3 s l b K) fuel ((m : Int), t) = K (0, Lb.dpD (fun i => cI s (fr + i) b) n m t) ∧ TBd n (M + 72 * m) (Lb.dpD (fun i => cI s (fr + i) b) n m t)
  | m, 0, M, t, _, hf, _, _, _ => absurd hf (Nat.not_lt_zero _)
  | 0, f + 1, M, t, hm, hf, h0, h1, h => by
    refine ⟨?_, by rw [show M + 72 * ((0 : Nat) : Int) = M by omega]; exact h⟩
    show Fz17.B2 _ BIG (fr : Int) (n : Int) p2 p3 s l b K (iter _ f) _ = _
    unfold Fz17.B2
    rw [decF (by simp), cond_false]
    rfl
  | m + 1, f + 1, M, t, hm, hf, h0, h1, h => by
    have h64 := two_six (show n ≤ 6 by omega)
    have hS := dpS_bd (c := fun i => cI s (fr + i) b) (fun i => cI_bd h12 _ b) hm (List.range n) h h0
    rw [List.length_range] at hS
    have hS2 : TBd n (M + 72) (Lb.dpS (fun i => cI s (fr + i) b) n t (m + 1)) := ⟨hS.1, fun q => by have := hS.2 q; have : Lb.dpS (fun i => cI s (fr + i) b) n t (m + 1) = (List.range n).foldl (Lb.dpI (fun i => cI s (fr + i) b) (m + 1)) t := rfl; rw [this]; omega⟩
    obtain ⟨g1, g2⟩ := kept_down h12 fr n hn h6 b p2 p3 l K m f (M + 72) _ (by omega) (by omega) (by omega) (by push_cast at h1; omega) hS2
    refine ⟨?_, ?_⟩
    · show Fz17.B2 _ BIG (fr : Int) (n : Int) p2 p3 s l b K (iter _ f) _ = _
      unfold Fz17.B2
      simp only
      rw [decT (by omega), cond_true, kept_in h12 fr n hn h6 b (m + 1) hm _ _ l h0 (by push_cast at h1; omega) t h]
      simp only
      rw [show IntKind.i64.wrap (((m + 1 : Nat) : Int) - 1) = (m : Int) by rw [w64 (by omega) (by omega)]; omega]
      exact g1
    · show TBd n _ (Lb.dpD _ n m (Lb.dpS _ n t (m + 1)))
      rwa [show M + 72 * ((m + 1 : Nat) : Int) = M + 72 + 72 * (m : Int) by push_cast; omega]
def PMk (x : List (List DB) × Int × List DB) : Prop := x.1.length ≤ 6 ∧ Cr12 x.1 ∧ (∃ i : Nat, x.2.1 = (i : Int) ∧ i ≤ x.1.length) ∧ x.2.2.length ≤ 144 ∧ x.2.2.Nodup
def vMk (x : List (List DB) × Int × List DB) : Int := Lb.V (cI x.1) (x.1.length - x.2.1.toNat) x.2.1.toNat x.2.2
theorem t0_bd (n : Nat) : TBd n 0 (Lb.t0 n) := by
  have hp := Nat.two_pow_pos n
  unfold Lb.t0
  refine ⟨by simp, fun q => ?_⟩
  rw [Lb.getD_set _ _ _ _ (by simpa using hp)]
  split
  · omega
  · rw [List.getD_eq_getElem?_getD, List.getElem?_replicate]
    split <;> simp
theorem s_mostKept : Fz17.S (cl PMk vMk) := Fz17.of_cl s_Repeat s_countOf fun x h k => by
  obtain ⟨s, f, l⟩ := x
  obtain ⟨h6, h12, ⟨fr, e, hfr⟩, hl, hnd⟩ := h
  replace e : f = (fr : Int) := e
  replace h6 : s.length ≤ 6 := h6
  replace hfr : fr ≤ s.length := hfr
  replace hl : l.length ≤ 144 := hl
  replace hnd : l.Nodup := hnd
  replace h12 : Cr12 s := h12
  subst e
  show Fz17.pf _ _ BIG s (fr : Int) l k = k (vMk (s, (fr : Int), l))
  unfold Fz17.pf vMk
  simp only [Int.toNat_natCast]
  have en : IntKind.i64.wrap (((s.length : Nat) : Int) - (fr : Int)) = ((s.length - fr : Nat) : Int) := by rw [w64 (by omega) (by omega)]; omega
  simp only [en]
  generalize hn : s.length - fr = n
  have h64 := two_six (show n ≤ 6 by omega)
  have hp := Nat.two_pow_pos n
  rw [decF (show ¬ ((n : Int) < 0) by omega), cond_false, shl_v (by omega), cl_eq (show PRep ([-1], ((2 ^ n : Nat) : Int)) from ⟨rfl, n, by omega, (two_cast n).symm⟩), Option.bind_some]
  simp only [Int.toNat_natCast, List.length_replicate]
  rw [inB_true (by omega) (by omega), cond_true]
  have et0 : List.set (List.replicate (2 ^ n) (-1 : Int)) 0 0 = Lb.t0 n := rfl
  rw [et0]
  have hV := Lb.table_V (c := cI s) (fun i b => (cI_bd h12 i b).1) n fr l hnd
  unfold Lb.dpT at hV
  rw [← hV]
  refine (iter_list l (fun p (c : List Int) => ((p : Int), c)) (fun q c => k ((q.foldl (fun t b => Lb.dpD (fun i => cI s (fr + i) b) n (2 ^ n - 1) t) c).getD (2 ^ n - 1) 0)) (fun p c => TBd n (4536 * p) c) (c := Lb.t0 n) rfl (big_lt (by omega)) (by rw [show (4536 : Int) * ((0 : Nat) : Int) = 0 by omega]; exact t0_bd n) ?_ ?_)
  · rintro p hp2 c rec hcI hrec
    obtain ⟨g1, g2⟩ := kept_down h12 fr n (by omega) h6 l[p] (l.length : Int) (p : Int) l (fun x2 : Int × List Int => rec (IntKind.i64.wrap ((p : Int) + 1), x2.2)) (2 ^ n - 1) BIG (4536 * p) c (by omega) (big_lt (by omega)) (by omega) (by omega) hcI
    unfold Fz17.B1
    simp only [decT (show (p : Int) < (l.length : Int) by omega), inB_nat hp2, cond_true, Int.toNat_natCast, getD_lt hp2, decF (show ¬ ((n : Int) < 0) by omega), cond_false]
    have es := shl_v (n := n) (by omega)
    rw [Int.toNat_natCast] at es
    rw [es, show IntKind.i64.wrap (((2 ^ n : Nat) : Int) - 1) = ((2 ^ n - 1 : Nat) : Int) by rw [w64 (by omega) (by omega)]; omega]
    refine g1.trans ?_
    simp only [List.foldl_cons]
    rw [w64n (show p < 9223372036854775807 by omega)]
    exact hrec _ ⟨g2.1, fun q => by have := g2.2 q; push_cast; omega⟩
  · rintro c rec hcI
    unfold Fz17.B1
    have hcl := hcI.1
    rw [decF (by simp only; omega), cond_false]
    simp only [decF (show ¬ ((n : Int) < 0) by omega), cond_false]
    rw [show IntKind.i64.wrap (((2 ^ n : Nat) : Int) - 1) = ((2 ^ n - 1 : Nat) : Int) by rw [w64 (by omega) (by omega)]; omega, inB_nat (by omega), cond_true, Int.toNat_natCast]
    rfl
theorem s_BL_1 : Fz6.S (tot fun x => decide (x.1 = x.2)) := Fz6.of_tot fun x k => by
  unfold Fz6.pf
  rw [eqB]
def PLb (x : List DB × DB) : Prop := x.1.length ≤ 1073741824
theorem s_index_bl : Fz39.S (cl PLb fun x => indexI (fun y => decide (y = x.2)) x.1) := Fz39.of_cl s_BL_1 fun x h k => by
  obtain ⟨x, b⟩ := x
  have hl : x.length ≤ 1073741824 := h
  show Fz39.pf _ BIG x b k = k (indexI (fun y => decide (y = b)) x)
  unfold Fz39.pf
  rw [iter_first x (fun i => (i : Int)) (fun y => decide (y = b)) (fun i _ => k (i : Int)) (k (-1)) (x := 0) rfl (big_lt (by omega)) ?_ ?_, firstOr_index]
  · unfold indexI
    congr 1
    cases x.findIdx? (fun y => decide (y = b)) <;> simp
  · intro i hi rec
    unfold Fz39.B1
    simp only [decT (show (i : Int) < (x.length : Int) by omega), inB_nat hi, cond_true, Int.toNat_natCast, getD_lt hi, tot_eq, Option.bind_some, w64n (show i < 9223372036854775807 by omega)]
  · intro rec
    unfold Fz39.B1
    rw [decF (by omega)]
    rfl
theorem s_delete_bl : Fz37.S (cl PLb fun x => keptOf (0, 0) (fun y => decide (y = x.2)) x.1) := Fz37.of_cl s_index_bl s_BL_1 fun x h k => by
  obtain ⟨l, b⟩ := x
  have hl : l.length ≤ 1073741824 := h
  show Fz37.pf _ _ BIG l b k = k (keptOf (0, 0) (fun y => decide (y = b)) l)
  unfold Fz37.pf
  rw [cl_eq h, Option.bind_some]
  simp only
  generalize hp : (fun y : DB => decide (y = b)) = p
  unfold indexI keptOf
  cases hf : l.findIdx? p with
  | none =>
    have := List.findIdx?_eq_none_iff.1 hf
    rw [if_neg (by simpa using this)]
    rfl
  | some i =>
    obtain ⟨hi, hpi, hbef⟩ := List.findIdx?_eq_some_iff_getElem.1 hf
    rw [if_pos (List.any_eq_true.2 ⟨_, List.getElem_mem hi, hpi⟩)]
    simp only
    rw [beqF (by omega), cond_false, w64n (by omega)]
    have h0 : (l.take i).filter (fun x => !p x) = l.take i := by
      rw [List.filter_eq_self]
      intro x hx
      obtain ⟨j, hj, rfl⟩ := List.mem_iff_getElem.1 hx
      have hj' : j < i := by simp at hj; omega
      have := hbef j hj'
      simpa using this
    have h1 : (l.take (i + 1)).filter (fun x => !p x) = l.take i := by
      rw [List.take_succ_eq_append_getElem hi, List.filter_append, h0]
      simp [hpi]
    have := iter_fold (B := Fz37.B1 (tot fun x : DB × DB => decide (x.1 = x.2)) b fun (x1 : Int × Int × List DB) => cond (inW x1.1 (((List.length x1.2.2) : Nat) : Int) (List.length x1.2.2)) (cond (inW 0 x1.1 (List.length (overL x1.2.2 x1.1.toNat (List.replicate ((((List.length x1.2.2) : Nat) : Int) - x1.1).toNat (0, 0))))) (k ((some (0, (x1.1 - 0).toNat)), (overL x1.2.2 x1.1.toNat (List.replicate ((((List.length x1.2.2) : Nat) : Int) - x1.1).toNat (0, 0))))) none) none)
      l (fun j (c : List DB) => ((((l.take j).filter fun x => !p x).length : Int), (j : Int), c)) (fun _ _ => k (some (0, (l.filter fun x => !p x).length), (l.filter fun x => !p x) ++ List.replicate (l.length - (l.filter fun x => !p x).length) (0, 0))) (fun j c => c.length = l.length ∧ c.drop j = l.drop j ∧ c.take ((l.take j).filter fun x => !p x).length = (l.take j).filter fun x => !p x) ?_ ?_ (l.length - (i + 1)) (i + 1) l BIG (by omega) (big_lt (by omega)) ⟨rfl, rfl, by rw [h1]; simp⟩
    · rw [h1, List.length_take, Nat.min_eq_left (by omega)] at this
      exact this
    · rintro j hj c rec ⟨e1, e2, e3⟩ hrec
      have hjc : j < c.length := by omega
      have hcj : c[j] = l[j] := by
        have := congrArg (fun z => z[0]?) e2
        simpa [hjc, hj] using this
      have hpj : decide (l[j] = b) = p l[j] := congrFun hp l[j]
      have hm : ((l.take j).filter fun x => !p x).length ≤ j := by
        have := List.length_filter_le (fun x => !p x) (l.take j)
        rw [List.length_take] at this
        omega
      have ht : (l.take (j + 1)).filter (fun x => !p x) = (l.take j).filter (fun x => !p x) ++ if p l[j] = true then [] else [l[j]] := by
        rw [List.take_succ_eq_append_getElem hj, List.filter_append]
        cases hq : p l[j] <;> simp [hq]
      unfold Fz37.B1
      simp only [e1, decT (show (j : Int) < (l.length : Int) by omega), inB_nat hj, cond_true, Int.toNat_natCast, getD_lt hjc, hcj, tot_eq, Option.bind_some, hpj, w64n (show j < 9223372036854775807 by omega)]
      cases hq : p l[j] with
      | true =>
        rw [hq, if_pos rfl, List.append_nil] at ht
        have := hrec c ⟨e1, by
          have := congrArg (List.drop 1) e2
          simpa [List.drop_drop, Nat.add_comm] using this, by rw [ht]; exact e3⟩
        rw [ht] at this
        exact this
      | false =>
        rw [hq] at ht
        simp only [Bool.false_eq_true, if_false] at ht
        have hlen : ((l.take (j + 1)).filter fun x => !p x).length = ((l.take j).filter fun x => !p x).length + 1 := by rw [ht]; simp
        have hmc : ((l.take j).filter fun x => !p x).length < c.length := by omega
        have := hrec (c.set ((l.take j).filter fun x => !p x).length l[j]) ⟨by simpa using e1, by
          rw [List.drop_set_of_lt (by omega)]
          have := congrArg (List.drop 1) e2
          simpa [List.drop_drop, Nat.add_comm] using this, by
          rw [hlen, take_set hmc, e3, ht]⟩
        rw [hlen] at this
        simp only [Bool.not_false, cond_true, inB_nat (show ((l.take j).filter fun x => !p x).length < l.length by omega), w64n (show ((l.take j).filter fun x => !p x).length < 9223372036854775807 by omega)]
        exact this
    · rintro c rec ⟨e1, e2, e3⟩
      have eT : l.take l.length = l := List.take_of_length_le (Nat.le_refl _)
      rw [eT] at e3
      simp only [eT]
      have hm := List.length_filter_le (fun x => !p x) l
      unfold Fz37.B1
      rw [decF (by simp only; omega)]
      simp only [cond_false, e1]
      rw [inW_true (by omega) (by omega) (by omega), cond_true]
      have e4 : overL c (((l.filter fun x => !p x).length : Nat) : Int).toNat (List.replicate ((((l.length : Nat) : Int)) - (((l.filter fun x => !p x).length : Nat) : Int)).toNat (0, 0)) = (l.filter fun x => !p x) ++ List.replicate (l.length - (l.filter fun x => !p x).length) (0, 0) := by
        unfold overL
        rw [Int.toNat_natCast, e3, List.drop_eq_nil_of_le (by simp; omega), List.append_nil]
        congr 2
        omega
      rw [e4, inW_true (by omega) (by omega) (by simp; omega), cond_true]
      congr 3
def FrontW (w : Option (Nat × Nat)) (l a : List DB) : Prop := Win.cut w l = a ∧ Win.len w l = a.length ∧ ∀ i, i < a.length → l.getD (Win.ix w i) (0, 0) = a.getD i (0, 0)
theorem front_of {w : Option (Nat × Nat)} {l : List DB} (h : Win.off w + Win.lenN w l.length ≤ l.length) : FrontW w l (Win.cut w l) :=
  ⟨rfl, by rw [Win.len_eq, cut_length h], fun i hi => by rw [cut_getD hi, Win.ix_eq]⟩
theorem front_comp (l : List DB) : FrontW (compV ((0, 0) : DB) l).1 (compV ((0, 0) : DB) l).2 (compact l) := by
  have := front_of (w := (compV ((0, 0) : DB) l).1) (l := (compV ((0, 0) : DB) l).2) (by
    unfold compV
    split
    · show 0 + l.length ≤ l.length; omega
    · show 0 + (compact l).length ≤ _; rw [List.length_append]; omega)
  rwa [compV_cut] at this
theorem front_kept (p : DB → Bool) (l : List DB) : FrontW (keptOf ((0, 0) : DB) p l).1 (keptOf ((0, 0) : DB) p l).2 (l.filter fun x => !p x) := by
  have := front_of (w := (keptOf ((0, 0) : DB) p l).1) (l := (keptOf ((0, 0) : DB) p l).2) (by
    unfold keptOf
    split
    · show 0 + (l.filter fun x => !p x).length ≤ _; rw [Nat.zero_add, List.length_append]; exact Nat.le_add_right _ _
    · show 0 + l.length ≤ l.length; omega)
  rwa [kept_cut] at this
def okLab (c : Nat → DB → Int) (d i : Nat) (a : List DB) (b : DB) : Bool := decide (0 ≤ Lb.V c d (i + 1) (a.filter (· ≠ b))) && decide (c i b + Lb.V c d (i + 1) (a.filter (· ≠ b)) = Lb.V c (d + 1) i a)
theorem okLab_some {c : Nat → DB → Int} {d i : Nat} {a : List DB} (h : 0 ≤ Lb.V c (d + 1) i a) : ∃ b, a.find? (okLab c d i a) = some b ∧ b ∈ a ∧ 0 ≤ Lb.V c d (i + 1) (a.filter (· ≠ b)) := by
  have hm := (Lb.max_le (f := fun b => if 0 ≤ Lb.V c d (i + 1) (a.filter (· ≠ b)) then c i b + Lb.V c d (i + 1) (a.filter (· ≠ b)) else -1) a (-1)).2.2
  have hv : Lb.V c (d + 1) i a = (a.map fun b => if 0 ≤ Lb.V c d (i + 1) (a.filter (· ≠ b)) then c i b + Lb.V c d (i + 1) (a.filter (· ≠ b)) else -1).foldl max (-1) := rfl
  rw [← hv] at hm
  have hs : (a.find? (okLab c d i a)).isSome = true := by
    rcases hm with e | ⟨b, hb, e⟩
    · omega
    · rw [List.find?_isSome]
      refine ⟨b, hb, ?_⟩
      unfold okLab
      by_cases q : 0 ≤ Lb.V c d (i + 1) (a.filter (· ≠ b))
      · rw [if_pos q] at e
        rw [decT q, decT e]
        rfl
      · rw [if_neg q] at e
        omega
  obtain ⟨b, hb⟩ := Option.isSome_iff_exists.1 hs
  refine ⟨b, hb, List.mem_of_find?_eq_some hb, ?_⟩
  have := List.find?_some hb
  unfold okLab at this
  rw [Bool.and_eq_true] at this
  exact of_decide_eq_true this.1
theorem G_some {c : Nat → DB → Int} {d i : Nat} {a : List DB} {b : DB} (h : a.find? (okLab c d i a) = some b) : Lb.G c (d + 1) i a = b :: Lb.G c d (i + 1) (a.filter (· ≠ b)) := by
  rw [Lb.G]
  unfold okLab at h
  rw [h]
theorem filt_ne (a : List DB) (b : DB) : (a.filter fun x => !decide (x = b)) = a.filter (· ≠ b) := by
  congr 1
  funext x
  simp
abbrev vCount (x : List (List DB) × DB) : Int := countI (fun y => decide (y = x.2)) (x.1.getD 0 [])
abbrev vDel (x : List DB × DB) : Option (Nat × Nat) × List DB := keptOf (0, 0) (fun y => decide (y = x.2)) x.1
theorem lab_search {α : Type} {s : List (List DB)} (h12 : Cr12 s) (h6 : s.length ≤ 6) {i d : Nat} (hid : i + d + 1 = s.length) {w : Option (Nat × Nat)} {l a : List DB} (F : FrontW w l a) (ha : a.length ≤ 144) (hnd : a.Nodup) (p2 p3 p4 : Int) (labs : List DB) (hlab : labs.length ≤ 6)
    (K0 : Int → Option (Nat × Nat) × List DB → Int → Int → Option α) (K1 : Int → Option α) (Y : DB → Option α) (hY : ∀ (p : Nat) (hp : p < a.length), K0 (p : Int) (vDel (a, a[p])) (cI s i a[p]) (Lb.V (cI s) d (i + 1) (a.filter (· ≠ a[p]))) = Y a[p]) :
    iter (Fz5.B2 (cl PMk vMk) (cl PL fun l => l) (cl PLb vDel) (cl POne vCount) w (Lb.V (cI s) (d + 1) i a) p2 (i : Int) p3 p4 w (((Win.len w l : Nat)) : Int) s l labs (s.getD i []) K0 K1) BIG 0 =
      match a.find? (okLab (cI s) d i a) with | some b => Y b | none => K1 (a.length : Int) := by
  have hi : i < s.length := by omega
  refine (iter_list a (fun p (_ : Unit) => (p : Int)) (fun q _ => match q.find? (okLab (cI s) d i a) with | some b => Y b | none => K1 (a.length : Int)) (fun _ _ => True) (c := ()) rfl (big_lt (by omega)) trivial ?_ ?_)
  · rintro p hp _ rec _ hrec
    have hx := F.2.2 p hp
    rw [getD_lt hp] at hx
    have hlf := List.length_filter_le (fun x => decide (x ≠ a[p])) a
    have hpm : PMk (s, ((i + 1 : Nat) : Int), a.filter (· ≠ a[p])) := ⟨h6, h12, ⟨i + 1, rfl, by show i + 1 ≤ s.length; omega⟩, (by show (a.filter (· ≠ a[p])).length ≤ 144; omega), hnd.sublist List.filter_sublist⟩
    have hvm : vMk (s, ((i + 1 : Nat) : Int), a.filter (· ≠ a[p])) = Lb.V (cI s) d (i + 1) (a.filter (· ≠ a[p])) := by
      show Lb.V (cI s) (s.length - ((i + 1 : Nat) : Int).toNat) (((i + 1 : Nat) : Int)).toNat _ = _
      rw [Int.toNat_natCast, show s.length - (i + 1) = d by omega]
    have hcut : Win.cut (vDel (a, a[p])).1 (vDel (a, a[p])).2 = a.filter (· ≠ a[p]) := by
      show Win.cut (keptOf (0, 0) (fun y => decide (y = a[p])) a).1 (keptOf (0, 0) (fun y => decide (y = a[p])) a).2 = _
      rw [kept_cut, filt_ne]
    have hcn : vCount ([s.getD i []], a[p]) = cI s i a[p] := rfl
    have hone : POne ([s.getD i []], a[p]) := ⟨_, rfl, by rw [getD_lt hi]; exact h12 _ (List.getElem_mem hi)⟩
    have hV1 := V_le h12 d (i + 1) (a.filter (· ≠ a[p]))
    have hV0 := Lb.V_nn (fun i b => (cI_bd h12 i b).1) d (i + 1) (a.filter (· ≠ a[p]))
    have hc := cI_bd h12 i a[p]
    unfold Fz5.B2
    rw [F.2.1, decT (show (p : Int) < (a.length : Int) by omega), cond_true, inB_nat hp, cond_true, F.1, Int.toNat_natCast, hx, cl_eq (show PL a by unfold PL; omega), Option.bind_some, cl_eq (show PLb (a, a[p]) by unfold PLb; simp only; omega), Option.bind_some, cl_eq hone, Option.bind_some, hcn, hcut, w64n (show i < 9223372036854775807 by omega), cl_eq hpm, Option.bind_some, hvm, List.find?_cons]
    have hY := hY p hp
    unfold okLab
    generalize Lb.V (cI s) d (i + 1) (a.filter (· ≠ a[p])) = r at *
    by_cases q1 : 0 ≤ r
    · rw [decT (show r ≥ 0 from q1), cond_true, Bool.true_and, w64 (n := cI s i a[p] + r) (by omega) (by omega)]
      by_cases q2 : cI s i a[p] + r = Lb.V (cI s) (d + 1) i a
      · rw [decT q2, beqT q2, cond_true, okS (by simp only [List.length_singleton]; omega), cond_true]
        exact hY
      · rw [decF q2, beqF q2, cond_false, w64n (show p < 9223372036854775807 by omega)]
        exact hrec () trivial
    · rw [decF (show ¬ r ≥ 0 from q1), cond_false, Bool.false_and, w64n (show p < 9223372036854775807 by omega)]
      exact hrec () trivial
  · rintro _ rec _
    unfold Fz5.B2
    rw [F.2.1, decF (by omega), cond_false]
    rfl
def wLb (s : List (List DB)) : Prop := wCs s ∧ s.length ≤ 1048576
theorem s_impl_BestLabels : Fz5.S (cl wLb bestLabels) := Fz5.of_cl s_allOfM s_compactB s_ValidStack s_mostKept s_cloneB s_delete_bl s_countOf fun s h k => by
  obtain ⟨hw, hlen⟩ := h
  have h12 : Cr12 s := fun c hc => hw.1.2 c hc
  have hM : wSM s := ⟨hlen, h12⟩
  have hwl : (whole s).length ≤ 12582912 := by
    have := hM.tk s.length
    rw [List.take_length] at this
    unfold whole
    rw [sortB_len]
    exact this
  have hF := front_comp (whole s)
  have hcl := compact_len (whole s)
  unfold Fz5.pf bestLabels
  rw [cl_eq hM, Option.bind_some, cl_eq (show PL (whole s) by unfold PL; omega), Option.bind_some, cl_eq hw, Option.bind_some]
  cases c : stackOk s with
  | false => rfl
  | true =>
    rw [if_pos rfl]
    simp only [Bool.not_true, cond_false]
    by_cases c6 : s.length > 6
    · rw [decT (show ((s.length : Nat) : Int) > 6 by omega), if_pos c6]; rfl
    · rw [decF (show ¬ ((s.length : Nat) : Int) > 6 by omega), if_neg c6, cond_false, hF.2.1]
      have hk : compact (whole s) = kindsB s := rfl
      rw [hk] at hF hcl ⊢
      have hnd := kinds_nodup s
      have hw12 := whole_len (show wS12 s from ⟨by omega, h12⟩)
      by_cases cm : (kindsB s).length < s.length
      · rw [decT (show (((kindsB s).length : Nat) : Int) < ((s.length : Nat) : Int) by omega), if_pos cm]; rfl
      · rw [decF (show ¬ (((kindsB s).length : Nat) : Int) < ((s.length : Nat) : Int) by omega), if_neg cm, cond_false, hF.1, cl_eq (show PMk (s, (0 : Int), kindsB s) from ⟨(by show s.length ≤ 6; omega), h12, ⟨0, rfl, Nat.zero_le _⟩, (by show (kindsB s).length ≤ 144; omega), hnd⟩), Option.bind_some]
        have hv : vMk (s, (0 : Int), kindsB s) = Lb.V (cI s) s.length 0 (kindsB s) := rfl
        have hV0 := Lb.V_pos (c := cI s) (fun i b => (cI_bd h12 i b).1) s.length 0 (kindsB s) hnd (by omega)
        have hV1 := V_le h12 s.length 0 (kindsB s)
        rw [hv, Option.bind_some, w64 (n := ((whole s).length : Int) - Lb.V (cI s) s.length 0 (kindsB s)) (by omega) (by omega)]
        refine (iter_list s (fun i (st : Option (Nat × Nat) × Int × List DB × List DB) => (st.1, st.2.1, (i : Int), st.2.2.1, st.2.2.2)) (fun _ _ => k (Lb.G (cI s) s.length 0 (kindsB s), ((whole s).length : Int) - Lb.V (cI s) s.length 0 (kindsB s), 0))
          (fun i st => ∃ a, FrontW st.1 st.2.2.1 a ∧ a.Nodup ∧ a.length ≤ 144 ∧ st.2.1 = Lb.V (cI s) (s.length - i) i a ∧ 0 ≤ st.2.1 ∧ st.2.2.2 ++ Lb.G (cI s) (s.length - i) i a = Lb.G (cI s) s.length 0 (kindsB s) ∧ st.2.2.2.length ≤ i) (c := ((compV ((0, 0) : DB) (whole s)).1, Lb.V (cI s) s.length 0 (kindsB s), (compV ((0, 0) : DB) (whole s)).2, [])) rfl (big_lt (by omega)) ⟨kindsB s, hF, hnd, by omega, rfl, hV0, rfl, Nat.le_refl _⟩ ?_ ?_)
        · rintro i hi ⟨w, most, l, labs⟩ rec ⟨a, F, and_, ha, e1, e2, e3, e4⟩ hrec
          obtain ⟨d, hd⟩ : ∃ d, s.length - i = d + 1 := ⟨s.length - i - 1, by omega⟩
          simp only at F e1 e2 e3 e4
          rw [hd] at e1 e3
          subst e1
          obtain ⟨b, hb, hba, hb0⟩ := okLab_some e2
          unfold Fz5.B1
          simp only
          rw [decT (show (i : Int) < ((s.length : Nat) : Int) by omega), cond_true, inB_nat hi, cond_true, Int.toNat_natCast]
          have eg : s.getD i (List.replicate 12 ((0, 0) : DB)) = s.getD i [] := by rw [getD_lt hi, getD_lt hi]
          rw [eg]
          refine (lab_search h12 (by omega) (show i + d + 1 = s.length by omega) F ha and_ _ _ _ labs (by omega) _ _ (fun b => rec ((vDel (a, b)).1, Lb.V (cI s) d (i + 1) (a.filter (· ≠ b)), ((i + 1 : Nat) : Int), (vDel (a, b)).2, labs ++ [b])) (fun p hp => ?_)).trans ?_
          · have hx := F.2.2 p hp
            rw [getD_lt hp] at hx
            rw [Int.toNat_natCast, hx, w64n (show i < 9223372036854775807 by omega)]
          · rw [hb]
            have hl := List.length_filter_le (fun x => decide (x ≠ b)) a
            refine hrec ((vDel (a, b)).1, Lb.V (cI s) d (i + 1) (a.filter (· ≠ b)), (vDel (a, b)).2, labs ++ [b]) ⟨a.filter (· ≠ b), ?_, and_.sublist List.filter_sublist, (by omega), ?_, hb0, ?_, ?_⟩
            · rw [← filt_ne]
              exact front_kept (fun y => decide (y = b)) a
            · simp only
              rw [show s.length - (i + 1) = d by omega]
            · simp only
              rw [show s.length - (i + 1) = d by omega, ← e3, G_some hb, List.append_assoc]
              rfl
            · simp only [List.length_append, List.length_singleton]; omega
        · rintro ⟨w, most, l, labs⟩ rec ⟨a, F, and_, ha, e1, e2, e3, e4⟩
          rw [Nat.sub_self] at e3
          simp only [Lb.G, List.append_nil] at e3
          unfold Fz5.B1
          simp only
          rw [decF (by omega), cond_false, e3]

abbrev TyB2 : Ty := .st (.pair (.int .u8) (.int .i16))
theorem Sound.post {P : Program} {W : World} {f : FuncId} {A B : Type} {dec : List AV → Option A} {fn : A → Option B} {enc : List AV → B → Res} (S : Sound P f (mkSig [] dec fn enc)) {avs : List AV} {vs : List Value} (h : All2 (EntryOk W) avs vs) {x : A} (hd : dec avs = some x) {b : B} (hx : fn x = some b) (hgo : GO W []) :
    Calls P f vs.toArray W fun e W' => ∃ gh v, e = .returned v ∧ Post (mkSig [] dec fn enc) avs W gh [] (enc avs b) v W' := by
  obtain ⟨gh, hR⟩ := entry_R h hgo
  have := S.does avs (enc avs b) (by simp only [mkSig, hd, hx]; rfl) vs W gh [] hR
  refine this.mono (fun e w' he => ?_)
  cases e with
  | returned v => exact ⟨gh, v, rfl, he⟩
  | panicked _ => exact he.elim
  | outgrown => exact he.elim
theorem slots_all2 {w0 w' : World} {MB : Out} {xs : List SV} {objs : List (Option Ob)} {g : Gh} {vs : List Value} (Rc : R xs.length w0 MB ⟨xs, objs⟩ g ⟨vs.toArray, []⟩ w') : All2 (SRel objs g) xs vs := by
  have t1 := Rc.tm
  simp only [List.size_toArray] at t1
  refine ⟨t1.symm, fun i x y hx hy => ?_⟩
  have hi := (List.getElem?_eq_some_iff.1 hx).1
  have := Rc.slots i hi
  rw [List.getD_eq_getElem?_getD, hx] at this
  rw [show vs.toArray.getD i undef = y by
    have hi2 := (List.getElem?_eq_some_iff.1 hy).1
    have e := (List.getElem?_eq_some_iff.1 hy).2
    simp [hi2, e]] at this
  exact this
theorem below_of {w0 w' : World} (fr : Fr [] w0 w') : Go.RowKit.Below w0.heap.size w0 w' := ⟨fr.os, fr.tape.1, fr.output, fr.size, fun k hk => fr.block k hk List.not_mem_nil⟩
theorem outs_cons {base : Nat} {objs : List (Option Ob)} {names : List (Option Nat)} {xs : List SV} {ks : List Nat} {v : RV} {l : List RV} (h : outsOf base objs names xs ks = some (v :: l)) :
    ∃ x r k, xs = x :: r ∧ outOf base objs names x = some (v, k) ∧ outsOf base objs names r (k ++ ks) = some l := by
  cases xs with
  | nil => simp [outsOf] at h
  | cons x r =>
    unfold outsOf at h
    split at h
    · rename_i v' k hv
      split at h
      · split at h
        · rename_i l' hl
          simp only [Option.some.injEq, List.cons.injEq] at h
          obtain ⟨rfl, rfl⟩ := h
          exact ⟨x, r, k, rfl, hv, hl⟩
        · cases h
      · cases h
    · cases h
theorem outs_nil {base : Nat} {objs : List (Option Ob)} {names : List (Option Nat)} {xs : List SV} {ks : List Nat} (h : outsOf base objs names xs ks = some []) : xs = [] := by
  cases xs with
  | nil => rfl
  | cons x r =>
    unfold outsOf at h
    split at h
    · split at h
      · split at h <;> simp at h
      · cases h
    · cases h
theorem out_val {base : Nat} {objs : List (Option Ob)} {names : List (Option Nat)} {x : SV} {t : Ty} {y : t.den} {k : List Nat} (h : outOf base objs names x = some (.val t y, k)) : x = .val t y := by
  unfold outOf at h
  split at h
  · rename_i t' y'
    split at h
    · simp only [Option.some.injEq, Prod.mk.injEq, RV.val.injEq] at h
      obtain ⟨⟨rfl, h2⟩, _⟩ := h
      rw [eq_of_heq h2]
    · cases h
  · simp at h
  · split at h
    · split at h
      · split at h
        · simp only [] at h
          split at h <;> simp at h
        · split at h <;> simp at h
      · cases h
    · cases h
  · cases h
def OwnV (w : World) (B : Nat) (e : TypeId) (t : Ty) (l : List t.den) (v : Value) : Prop :=
  ∃ (L : Hdr × (Nat → t.loc)) (A : Option Addr) (c : Nat), v = .slice A l.length c ∧ memH w true (.row e t) none l L ∧ (∀ b, b ∈ blks true (.row e t) none l L → B ≤ b) ∧ l.length ≤ c ∧ c ≤ L.1.cap ∧ (0 < c → A = L.1.A)
theorem Sound.own1 {P : Program} {W : World} {f : FuncId} {A B : Type} {dec : List AV → Option A} {fn : A → Option B} {enc : List AV → B → Res} (S : Sound P f (mkSig [] dec fn enc)) {e1 : TypeId} {t : Ty} {l : B → List t.den}
    (henc : ∀ avs r, enc avs r = ⟨[.own ⟨e1, t, l r⟩], []⟩) {avs : List AV} {vs : List Value} (h : All2 (EntryOk W) avs vs) {x : A} (hd : dec avs = some x) {b : B} (hx : fn x = some b) (hgo : GO W []) :
    Calls P f vs.toArray W fun e W' => ∃ v, e = .returned v ∧ OwnV W' W.heap.size e1 t (l b) v ∧ Go.RowKit.Below W.heap.size W W' := by
  refine (Sound.post S h hd hx hgo).mono fun e W' ⟨gh, v, he, objs', g', xs', vs', Rc, hou, _, hv⟩ => ?_
  rw [henc] at hou
  have hall := slots_all2 Rc
  obtain ⟨OW, q1, q2, q3, q4, q5⟩ := rets_ok (muts := []) (xsC := []) (sobjs := []) Rc xs' vs' [] [0] [.own ⟨e1, t, l b⟩] [.sl 0 [] none] [(0, some (.dat ⟨e1, t, l b, true, true, none⟩))] hall hou rfl (by simp)
  match OW, q1 with
  | [⟨nm, ⟨e', t', l'⟩, L⟩], q1 =>
    simp only [ownUpd, OwnR.d, List.map_cons, List.map_nil, List.cons.injEq, Prod.mk.injEq, Option.some.injEq, Ob.dat.injEq, Dat.mk.injEq, and_true, true_and] at q1
    obtain ⟨rfl, rfl, rfl, q1⟩ := q1
    have q1 := eq_of_heq q1
    subst q1
    obtain ⟨kk, dk, _, _, j3, j4, j5, j6, j7, j8⟩ := q3 _ (List.mem_singleton.2 rfl)
    have q6 := q5 [some (.dat ⟨e1, t, l b, true, true, none⟩)] (g'.put 0 t L) (fun o ho => by
      obtain rfl := List.mem_singleton.1 ho
      exact ⟨rfl, Gh.put_same _ _ _ _⟩) (fun i nm wv v' h1 _ n p d h2 => by simp at h2)
    match vs', q6 with
    | [v0], q6 =>
      have hsl : SlRel [some (.dat ⟨e1, t, l b, true, true, none⟩)] (g'.put 0 t L) 0 [] none v0 := q6.2 0 _ _ rfl rfl
      obtain ⟨d, Q, sz, hdr, tot, g1, g2, g3, g4, Aa, c, e1', e2', e3', e4', e5'⟩ := hsl
      obtain rfl : _ = d := Option.some.inj g1
      unfold rootPL at g3
      rw [getPL_nil] at g3
      obtain rfl := Option.some.inj g3
      simp only [hdrP, Option.some.injEq, Prod.mk.injEq] at g4
      obtain ⟨rfl, rfl, rfl⟩ := g4
      rw [Gh.put_same] at e4' e5'
      obtain ⟨e6, e7⟩ := e5' rfl
      simp only [Win.off, Nat.zero_add] at e6 e7
      refine ⟨v0, by rw [he, hv]; rfl, ⟨L, Aa, c, e1', j6, fun bb hb => (Rc.fresh kk dk j3 j4 bb (j8 bb hb)).1 j5, e3', e6, fun hc => ?_⟩, below_of Rc.frame⟩
      obtain ⟨bb, o, a1, a2⟩ := e7 hc
      rw [a1, a2]
      simp
    | [], q6 => have := q6.1; simp at this
    | _ :: _ :: _, q6 => have := q6.1; simp at this
  | [], q1 => simp [ownUpd] at q1
  | _ :: _ :: _, q1 => simp [ownUpd] at q1
theorem obAt_pad (objs : List (Option Ob)) (n : Nat) : obAt (objs ++ [none]) n = obAt objs n := by
  unfold obAt
  rw [List.getD_eq_getElem?_getD, List.getD_eq_getElem?_getD]
  rcases Nat.lt_or_ge n objs.length with h | h
  · rw [List.getElem?_append_left h]
  · rw [List.getElem?_append_right h, List.getElem?_eq_none h]
    rcases Nat.eq_zero_or_pos (n - objs.length) with q | q
    · rw [q]; rfl
    · rw [List.getElem?_eq_none (by simp; omega)]
theorem datAt_pad (objs : List (Option Ob)) (n : Nat) : datAt (objs ++ [none]) n = datAt objs n := by
  unfold datAt
  rw [obAt_pad]
theorem R.pad {m : Nat} {w0 w : World} {MB : Out} {slots : List SV} {objs : List (Option Ob)} {g : Gh} {a : Act} (h : R m w0 MB ⟨slots, objs⟩ g a w) : R m w0 MB ⟨slots, objs ++ [none]⟩ g a w where
  defers := h.defers
  sl := h.sl
  tm := h.tm
  slots := fun t ht => SRel.keep (k := []) (l := []) (fun n x hx _ _ => ⟨by rw [obAt_pad]; exact hx, rfl, rfl⟩) (fun n d _ _ hl => by cases hl) (fun _ _ _ _ _ hl => by cases hl) (h.slots t ht) (hits_nil _)
  dat := fun n d hd => h.dat n d (by rw [← datAt_pad]; exact hd)
  bx := fun n e k wn hx => by
    obtain ⟨d, v, q1, q2, q3, q4⟩ := h.bx n e k wn (by rw [← obAt_pad]; exact hx)
    exact ⟨d, v, by rw [datAt_pad]; exact q1, q2, q3, q4.keep (fun d hd => ⟨by rw [datAt_pad]; exact hd, rfl⟩)⟩
  sep := fun n d hd hw => by
    obtain ⟨q1, q2⟩ := h.sep n d (by rw [← datAt_pad]; exact hd) hw
    exact ⟨q1, fun n' ob hne hob => q2 n' ob hne (by rw [← obAt_pad]; exact hob)⟩
  fresh := fun n d hd => h.fresh n d (by rw [← datAt_pad]; exact hd)
  frame := h.frame
  pins := fun q hq => (h.pins q hq).keep (fun n d hd hf => ⟨d, by rw [datAt_pad]; exact hd, rfl, rfl, rfl, hf, rfl, rfl⟩)
  go := h.go
abbrev TyCn : Ty := .st (.pair (.st (.pair (.int .u8) (.int .i16))) (.int .i64))
theorem Sound.intB {P : Program} {W : World} {f : FuncId} {A : Type} {dec : List AV → Option A} {fn : A → Option Int} {enc : List AV → Int → Res} (S : Sound P f (mkSig [] dec fn enc)) (henc : ∀ avs r, enc avs r = ⟨[.val (.int .i64) r], []⟩) {avs : List AV} {vs : List Value} (h : All2 (EntryOk W) avs vs) {x : A} (hd : dec avs = some x) {b : Int} (hx : fn x = some b) (hgo : GO W []) :
    Calls P f vs.toArray W fun e W' => e = .returned (.int .i64 b) ∧ Go.RowKit.Below W.heap.size W W' := by
  refine (Sound.post S h hd hx hgo).mono fun e W' ⟨gh, v, he, objs', g', xs', vs', Rc, hou, _, hv⟩ => ?_
  rw [henc] at hou
  obtain ⟨x0, r0, k0, rfl, o2, hou⟩ := outs_cons hou
  obtain rfl := outs_nil hou
  obtain rfl := out_val o2
  have hall := slots_all2 Rc
  match vs', hall with
  | [v0], hall =>
    have e2 := (hall.2 0 _ _ rfl rfl).2.2
    refine ⟨?_, below_of Rc.frame⟩
    rw [he, hv, e2]
    rfl
  | [], hall => have := hall.1; simp at this
  | _ :: _ :: _, hall => have := hall.1; simp at this
theorem entry_below {w w' : World} (hb : Go.RowKit.Below w.heap.size w w') : ∀ {av : AV} {v : Value}, EntryOk w av v → EntryOk w' av v
  | .val t x, v, h => h
  | .obj false c, v, ⟨A, cap, locs, e, hm⟩ => ⟨A, cap, locs, e, memH_frame hb.size _ _ _ _ hm (fun k hk => hb.block k (blks_lt _ _ _ _ hm k hk))⟩
  | .obj true c, v, ⟨b, o, cap, locs, e, hn, hm⟩ => ⟨b, o, cap, locs, e, hn, memH_frame hb.size _ _ _ _ hm (fun k hk => hb.block k (blks_lt _ _ _ _ hm k hk))⟩
  | .nil, v, h => h.elim
  | .bx _ _, v, h => h.elim
  | .fn _ _, v, h => h.elim
theorem entry_elems {w : World} {u : Ty} {l : List u.den} {locs : Nat → u.loc} {A : Option Addr} {c : Nat} {e : TypeId} (hc : l.length ≤ c) (h : Elems w false u l locs A) : EntryOk w (.obj false ⟨e, u, l⟩) (.slice A l.length c) :=
  ⟨A, c, locs, rfl, .inr ⟨⟨hc, fun h0 => h.at_ h0, fun q => by cases q⟩, fun i hi => h.mem i hi⟩⟩
theorem entry_ownB {w : World} {B : Nat} {e e' : TypeId} {l : List DB} {v : Value} (h : OwnV w B e TyB2 l v) : EntryOk w (.obj false ⟨e', TyB2, l⟩) v := by
  obtain ⟨L, A, c, rfl, hm, hb, h1, h2, h3⟩ := h
  have hm := hm.resolve_left (by simp [lent])
  refine ⟨A, c, fun _ => ((), ()), rfl, .inr ⟨⟨h1, fun h0 => ?_, fun q => by cases q⟩, fun i hi => ⟨trivial, trivial⟩⟩⟩
  obtain ⟨b, o, e1, e2, e3⟩ := hm.1.at_ h0
  have h0 : 0 < l.length := h0
  exact ⟨b, o, (h3 (by omega)).trans e1, e2, e3⟩
theorem counts_ownV {w : World} {B : Nat} {e : TypeId} {l : List DS} {v : Value} (h : OwnV w B e TyCn l v) : ∃ Ac cb co cc, v = .slice Ac l.length cc ∧ l.length ≤ cc ∧
    (0 < l.length → Ac = some ⟨cb, co, none⟩ ∧ B ≤ cb ∧ cb < w.heap.size ∧ ∀ k, (hk : k < l.length) → w.cell? ⟨cb, co + k * 3, none⟩ = some (.int .u8 l[k].1.1) ∧ w.cell? ⟨cb, co + k * 3 + 1, none⟩ = some (.int .i16 l[k].1.2)) := by
  obtain ⟨L, A, c, rfl, hm, hb, h1, h2, h3⟩ := h
  have hm := hm.resolve_left (by simp [lent])
  by_cases h0 : 0 < l.length
  · obtain ⟨b, o, e1, e2, e3⟩ := hm.1.at_ h0
    refine ⟨A, b, o, c, rfl, h1, fun _ => ⟨(h3 (by omega)).trans e1, hb b ?_, e2, fun k hk => ?_⟩⟩
    · simp only [blks, lent, Bool.false_eq_true, if_false]
      refine List.mem_append_left _ ?_
      unfold hdrBlk
      rw [e1]
      simp only
      rw [if_pos (.inr h0)]
      exact List.mem_singleton.2 rfl
    · have hc := (rangeAt_flatMap _ _ (fun i => cells_length TyCn _ _) _).1 e3 k hk
      have e4 : ∀ (j : Nat) (v : Value), (cells TyCn (List.getD l k TyCn.dflt) (L.2 k))[j]? = some v → w.cell? ⟨b, o + k * 3 + j, none⟩ = some v := fun j v hv => hc j v hv
      have e5 : List.getD l k TyCn.dflt = l[k] := getD_lt hk
      rw [e5] at e4
      exact ⟨e4 0 _ rfl, e4 1 _ rfl⟩
  · exact ⟨A, 0, 0, c, rfl, h1, fun q => absurd q h0⟩
theorem entry_at {w w' : World} {s : List (List DB)} {locs : Nat → (Ty.arr 12 TyB2).loc} {lb lo i : Nat} {e : TypeId} (hr : w.rangeAt lb lo (rowCells (.arr 12 TyB2) s locs)) (hlt : lb < w.heap.size) (hs : w.heap.size ≤ w'.heap.size) (hb : ∀ k, k < w.heap.size → w'.heap[k]? = w.heap[k]?) (hi : i < s.length) (hc : (s.getD i []).length = 12) :
    EntryOk w' (.obj true ⟨e, .arr 12 TyB2, [s.getD i []]⟩) (.pointer (some ⟨lb, lo + i * 24, none⟩)) := by
  have h1 := (rangeAt_flatMap _ _ (fun i => cells_length (.arr 12 TyB2) _ _) _).1 hr i hi
  have h2 : w.rangeAt lb (lo + i * 24) (cells (.arr 12 TyB2) (List.getD s i (Ty.arr 12 TyB2).dflt) (locs i)) := h1
  have e5 : List.getD s i (Ty.arr 12 TyB2).dflt = s.getD i [] := by
    have e6 : List.getD s i (Ty.arr 12 TyB2).dflt = s[i] := getD_lt hi
    rw [e6, getD_lt hi]
  rw [e5] at h2
  refine ⟨lb, lo + i * 24, 1, fun _ => locs i, rfl, by simp, .inr ⟨⟨by simp, fun _ => ⟨lb, lo + i * 24, rfl, Nat.lt_of_lt_of_le hlt hs, ?_⟩, fun q => by cases q⟩, fun j hj => ?_⟩⟩
  · have e1 : rowCells (.arr 12 TyB2) [s.getD i []] (fun _ => locs i) = cells (.arr 12 TyB2) (s.getD i []) (locs i) := by
      unfold rowCells
      simp only [List.length_singleton, List.range_one, List.flatMap_cons, List.flatMap_nil, List.append_nil, List.getD_cons_zero]
    rw [e1]
    exact rangeAt_block h2 (hb lb hlt)
  · have hj : j = 0 := by simpa using hj
    subst hj
    exact ⟨hc, fun j hj => ⟨trivial, trivial⟩⟩
theorem cellsB_rows (l : List DB) : rowCells TyB2 l (fun _ => ((), ())) = Lb.cellsB l := by
  have e : ∀ i, cells TyB2 (List.getD l i (0, 0)) ((), ()) = [.int .u8 (List.getD l i (0, 0)).1, .int .i16 (List.getD l i (0, 0)).2] := fun i => rfl
  show ((List.range l.length).flatMap fun i => cells TyB2 (List.getD l i (0, 0)) ((), ())) = _
  rw [show (fun i => cells TyB2 (List.getD l i (0, 0)) ((), ())) = fun i => [.int .u8 (List.getD l i (0, 0)).1, .int .i16 (List.getD l i (0, 0)).2] from funext e]
  clear e
  unfold Lb.cellsB
  induction l with
  | nil => rfl
  | cons x l ih =>
    rw [List.length_cons, List.range_succ_eq_map, List.flatMap_cons, List.flatMap_cons, List.flatMap_map]
    exact congrArg ([Value.int .u8 x.1, Value.int .i16 x.2] ++ ·) ih
theorem ownsB_mem {w : World} {B : Nat} {v : Value} {l : List DB} (h : w.ownsRow B 41 2 v l.length (Lb.cellsB l)) : ∃ A cap, v = .slice A l.length cap ∧ memH w true (.row 41 TyB2) none l ((⟨A, cap⟩, fun _ => ((), ())) : (Ty.row 41 TyB2).loc) ∧
    (blks true (.row 41 TyB2) none l ((⟨A, cap⟩, fun _ => ((), ())) : (Ty.row 41 TyB2).loc)).Nodup ∧ ∀ b, b ∈ blks true (.row 41 TyB2) none l ((⟨A, cap⟩, fun _ => ((), ())) : (Ty.row 41 TyB2).loc) → B ≤ b := by
  have eb : ∀ (A : Option Addr) (cap : Nat), blks true (.row 41 TyB2) none l ((⟨A, cap⟩, fun _ => ((), ())) : (Ty.row 41 TyB2).loc) = hdrBlk true ⟨A, cap⟩ l.length := fun A cap => by
    simp only [blks, lent, Bool.false_eq_true, if_false]
    rw [show ((List.range l.length).flatMap fun _ => ([] : List Nat) ++ []) = [] from by simp, List.append_nil]
  rcases h.2 with ⟨rfl, q⟩ | ⟨g, cap, cur, rfl, q2, q3, q4, q5, q6, q7⟩
  · refine ⟨none, 0, by rw [q], .inr ⟨⟨by show l.length ≤ 0; omega, fun h0 => absurd (show 0 < l.length from h0) (by omega), fun _ hc => absurd hc (Nat.lt_irrefl 0)⟩, fun i hi => ⟨trivial, trivial⟩⟩, ?_, ?_⟩
    · rw [eb]; exact List.nodup_nil
    · intro b hb; rw [eb] at hb; cases hb
  · refine ⟨some ⟨g, 0, none⟩, cap, rfl, .inr ⟨⟨q4, fun h0 => ⟨g, 0, rfl, (Array.getElem?_eq_some_iff.1 q3).1, ?_⟩, fun _ hc => ⟨g, 0, cur, 41, rfl, q3, ?_⟩⟩, fun i hi => ⟨trivial, trivial⟩⟩, ?_, ?_⟩
    · rw [cellsB_rows]
      intro j u hu
      have := h.cells (g := g) rfl j u hu
      rw [show (⟨g, 0 + j, none⟩ : Addr) = (⟨g, 0, none⟩ : Addr).add j from by unfold Addr.add; simp]
      exact this
    · show 0 + cap * 2 ≤ cur.size
      omega
    · rw [eb]
      unfold hdrBlk
      simp only
      split <;> simp
    · intro b hb
      rw [eb] at hb
      unfold hdrBlk at hb
      simp only at hb
      split at hb
      · obtain rfl := List.mem_singleton.1 hb
        exact q2
      · cases hb
theorem R.retOwnB {m : Nat} {w w' : World} {MB : Out} {slots : List SV} {D0 : Dat} {g : Gh} {a : Act} (h : R m w MB ⟨slots, [some (.dat D0)]⟩ g a w) (hb : Go.RowKit.Below w.heap.size w w') {bv : Value} {l : List DB} (ho : w'.ownsRow w.heap.size 41 2 bv l.length (Lb.cellsB l)) (x y : Int) :
    ∃ g', R 3 w MB ⟨[.sl 1 [] none, .val (.int .i64) x, .val (.int .i64) y], [some (.dat D0), some (.dat ⟨41, TyB2, l, true, true, none⟩)]⟩ g' ⟨[bv, .int .i64 x, .int .i64 y].toArray, []⟩ w' := by
  obtain ⟨A, cap, rfl, h1, h2, h3⟩ := ownsB_mem ho
  have r1 := (R.pad h).ret (Go.RowKit.Below.refl _ w) (fun _ => Nat.le_refl _) [.dead, .val (.int .i64) x, .val (.int .i64) y] [undef, .int .i64 x, .int .i64 y] (All2.cons_iff.2 ⟨trivial, All2.cons_iff.2 ⟨⟨rfl, trivial, rfl⟩, All2.cons_iff.2 ⟨⟨rfl, trivial, rfl⟩, All2.nil _⟩⟩⟩)
  have r2 := r1.renew [] 1 ⟨41, TyB2, l, true, true, none⟩ (⟨A, cap⟩, fun _ => ((), ())) w' (.sl 1 [] none) (some 0) (.slice A l.length cap) (fun k hk => by cases hk) (by show 1 < 2; omega) (.inl rfl) ⟨rfl, rfl, rfl⟩
    (.inl ⟨hb.os, ⟨hb.tape, fun h => h.elim⟩, hb.output, hb.size, fun k hk _ => hb.block k hk⟩) (fun b hb1 _ => hb.block b hb1) h1 h2 (fun b hb => .inl (h3 b hb))
    (own_sl (o := ⟨1, ⟨41, TyB2, l⟩, (⟨A, cap⟩, fun _ => ((), ()))⟩) (by rfl) (Gh.put_same _ _ _ _) rfl h1)
  exact ⟨_, r2⟩
def kindAt (s : List (List DB)) (k : Nat) : DB := (kindsB s).getD k (-1, 0)
def strayI (s : List (List DB)) (i k : Nat) : Int := countI (fun b => !decide (b = (0, 0)) && !decide (b = kindAt s k)) (s.getD i [])
def fullI (s : List (List DB)) (i : Nat) : Int := countI (fun b => !decide (b = (0, 0))) (s.getD i [])
theorem flat_ne {s : List (List DB)} {b : DB} (h : b ∈ flatB s) : b ≠ (0, 0) := by
  obtain ⟨c, _, hb⟩ := List.mem_flatMap.1 h
  have := (List.mem_filter.1 hb).2
  simpa using this
theorem kindAt_ne (s : List (List DB)) (k : Nat) : kindAt s k ≠ (0, 0) := by
  unfold kindAt
  by_cases c : k < (kindsB s).length
  · rw [getD_lt c]
    have := compact_sub _ _ (List.getElem_mem c)
    exact flat_ne ((sortB_perm (flatB s)).mem_iff.1 this)
  · rw [List.getD_eq_getElem?_getD, List.getElem?_eq_none (by omega)]
    simp
theorem stray_eq {x : DB} (hx : x ≠ (0, 0)) : ∀ c : List DB, countI (fun b => !decide (b = (0, 0)) && !decide (b = x)) c = countI (fun b => !decide (b = (0, 0))) c - countI (fun b => decide (b = x)) c
  | [] => rfl
  | b :: c => by
    have ih := stray_eq hx c
    unfold countI
    rw [ih]
    by_cases h1 : b = (0, 0)
    · rw [decT h1, decF (fun e : b = x => hx (e.symm.trans h1))]
      simp
    · by_cases h2 : b = x
      · rw [decF h1, decT h2]; simp; omega
      · rw [decF h1, decF h2]; simp; omega
theorem full_len : ∀ c : List DB, countI (fun b => !decide (b = (0, 0))) c = ((allB c).length : Int)
  | [] => rfl
  | b :: c => by
    have ih := full_len c
    rw [countI, ih]
    unfold allB
    rw [List.filter_cons]
    by_cases h1 : b = (0, 0)
    · rw [decT h1]; simp
    · rw [decF h1]; simp; omega
theorem tot_len (s : List (List DB)) : ∀ (d i : Nat), i + d = s.length → Lb.tot (fullI s) d i = ((flatB (s.drop i)).length : Int)
  | 0, i, h => by
    rw [List.drop_of_length_le (by omega)]
    rfl
  | d + 1, i, h => by
    have ih := tot_len s d (i + 1) (by omega)
    have hi : i < s.length := by omega
    unfold Lb.tot
    rw [ih, drop_cons hi]
    unfold flatB fullI
    rw [List.flatMap_cons, List.length_append, getD_lt hi, full_len]
    push_cast
    rfl
theorem kinds_map (s : List (List DB)) : (List.range (kindsB s).length).map (kindAt s) = kindsB s := by
  refine List.ext_getElem (by simp) fun k h1 h2 => ?_
  rw [List.getElem_map, List.getElem_range]
  exact getD_lt h2
theorem kindAt_inj {s : List (List DB)} {x y : Nat} (hx : x ∈ List.range (kindsB s).length) (hy : y ∈ List.range (kindsB s).length) (e : kindAt s x = kindAt s y) : x = y := by
  have hx := List.mem_range.1 hx
  have hy := List.mem_range.1 hy
  unfold kindAt at e
  rw [getD_lt hx, getD_lt hy] at e
  exact (List.getElem_inj (kinds_nodup s)).1 e
theorem res_best {s : List (List DB)} (h12 : Cr12 s) : Lb.res (stackOk s) s.length (kindsB s).length (fun k => (kindAt s k).1) (fun k => (kindAt s k).2) (strayI s) = bestLabels s := by
  unfold Lb.res bestLabels
  cases c : stackOk s with
  | false => rfl
  | true =>
    rw [if_neg (by simp), if_pos rfl]
    by_cases c6 : s.length > 6
    · rw [if_pos c6, if_pos c6]
    · rw [if_neg c6, if_neg c6]
      by_cases cm : (kindsB s).length < s.length
      · rw [if_pos cm, if_pos cm]
      · rw [if_neg cm, if_neg cm]
        have hc : ∀ i k, 0 ≤ (fun i k => cI s i (kindAt s k)) i k := fun i k => (cI_bd h12 i _).1
        have hV := Lb.V_map (cI s) (kindAt s) s.length 0 (List.range (kindsB s).length) (fun x y hx hy e => kindAt_inj hx hy e)
        have hG := Lb.G_map (cI s) (kindAt s) s.length 0 (List.range (kindsB s).length) (fun x y hx hy e => kindAt_inj hx hy e)
        rw [kinds_map] at hV hG
        have hpos := Lb.V_pos (c := cI s) (fun i b => (cI_bd h12 i b).1) s.length 0 (kindsB s) (kinds_nodup s) (by omega)
        have hb := Lb.from_best (stray := strayI s) (c := fun i k => cI s i (kindAt s k)) (t := fullI s) (kindsB s).length s.length hc (fun i k => (countI_le _ _).1) (fun i k => stray_eq (kindAt_ne s k) _) (by rw [← hV]; exact hpos)
        rw [hb, ← hV]
        have ht := tot_len s s.length 0 (by omega)
        rw [List.drop_zero] at ht
        have hw : (whole s).length = (flatB s).length := sortB_len _
        rw [ht, ← hw]
        unfold Lb.out
        simp only
        rw [hG, List.map_map]
        rfl
theorem s_spec_BestLabels : Fz45.S (cl wLb bestLabels) where
  fn := ⟨Try.f43, by kernel_rfl, by decide, by decide⟩
  does := fun avs rr hr vs w gh MBb hR => by
    obtain ⟨x, y, h1, h2, rfl⟩ := mkSig_run hr
    obtain ⟨e0, rfl⟩ := Fz45.dec_eq h1
    obtain ⟨hp, rfl⟩ := cl_some h2
    have hw : wCs x := hp.1
    have h12 : Cr12 x := fun c hc => hw.1.2 c hc
    have hxl : x.length ≤ 1048576 := hp.2
    have hR : R 1 w ⟨MBb, _⟩ ⟨[.sl 0 [] none], [some (.dat ⟨e0, .arr 12 TyB2, x, false, false, none⟩)]⟩ gh ⟨vs.toArray, []⟩ w := hR
    have hsz : vs.length = 1 := by simpa using hR.tm
    match vs, hsz with
    | [v0], _ =>
      have a0 : SlRel [some (.dat ⟨e0, .arr 12 TyB2, x, false, false, none⟩)] gh 0 [] none v0 := hR.slots 0 (by omega)
      obtain ⟨d1, A1, c1, loc1, q1, rfl, u1, E1⟩ := sl_elems hR a0 (u := .arr 12 TyB2) (l := x) rfl
      obtain rfl : _ = d1 := Option.some.inj q1
      have n1 := entry_elems (e := e0) u1 E1
      have hAt : ∃ lb lo, 0 < x.length → A1 = some ⟨lb, lo, none⟩ ∧ lb < w.heap.size ∧ w.rangeAt lb lo (rowCells (.arr 12 TyB2) x loc1) := by
        by_cases c : 0 < x.length
        · obtain ⟨b, o, q1, q2, q3⟩ := E1.at_ c
          exact ⟨b, o, fun _ => ⟨q1, q2, q3⟩⟩
        · exact ⟨0, 0, fun q => absurd q c⟩
      obtain ⟨lb, lo, hA⟩ := hAt
      have hcr : ∀ i, i < x.length → (x.getD i []).length = 12 := fun i hi => by rw [getD_lt hi]; exact h12 _ (List.getElem_mem hi)
      have hcall := Go.Proofs.Try.best_labels_calls A1 lb lo c1 x.length (kindsB x).length (fun k => (kindAt x k).1) (fun k => (kindAt x k).2) (strayI x) (stackOk x) w u1 (by omega) (fun h => (hA h).1)
        (fun i k => by
          have := countI_le (fun b => !decide (b = (0, 0)) && !decide (b = kindAt x k)) (x.getD i [])
          unfold strayI
          by_cases c : i < x.length
          · rw [hcr i c] at this; exact this
          · have e : x.getD i [] = [] := by rw [List.getD_eq_getElem?_getD, List.getElem?_eq_none (by omega)]; rfl
            rw [e]
            show (0 : Int) ≤ 0 ∧ (0 : Int) ≤ 12
            omega)
        (fun w' hb => Sound.law (W := w') s_l01Stack (fun _ _ => rfl) (avs := [.obj false ⟨e0, .arr 12 TyB2, x⟩]) (vs := [.slice A1 x.length c1]) (All2.cons_iff.2 ⟨entry_below hb n1, All2.nil _⟩) (x := x) rfl (cl_eq hw) (go0 rfl _ _))
        (fun hok h6 w' hb => by
          have hS : wS12 x := ⟨by omega, h12⟩
          have hwl := whole_len hS
          have hrt := runs_tally (whole x) (sortB_sorted _) _ (Nat.le_refl _)
          rw [List.take_of_length_le (Nat.le_refl _)] at hrt
          have hlen : (runs (whole x)).length = (kindsB x).length := by rw [hrt]; unfold tally; rw [List.length_map]; rfl
          have hcl := compact_len (whole x)
          refine (Sound.own1 (W := w') s_l01Whole (e1 := 41) (t := TyB2) (l := fun r => r) (fun _ _ => rfl) (avs := [.obj false ⟨e0, .arr 12 TyB2, x⟩]) (vs := [.slice A1 x.length c1]) (All2.cons_iff.2 ⟨entry_below hb n1, All2.nil _⟩) (x := x) rfl (cl_eq hS) (go0 rfl _ _)).mono fun e w1 ⟨v, he, hv, hb1⟩ => ⟨v, he, hb1, ?_⟩
          refine (Sound.own1 (W := w1) s_l01Counts (e1 := 90) (t := TyCn) (l := fun r => r) (fun _ _ => rfl) (avs := [.obj false ⟨41, TyB2, whole x⟩]) (vs := [v]) (All2.cons_iff.2 ⟨entry_ownB hv, All2.nil _⟩) (x := whole x) rfl (cl_eq (show PL (whole x) by unfold PL; omega)) (go0 rfl _ _)).mono fun e2 w2 ⟨v2, he2, hv2, hb2⟩ => ?_
          obtain ⟨Ac, cb, co, cc, r1, r2, r3⟩ := counts_ownV hv2
          rw [hlen] at r1 r2
          refine ⟨Ac, cb, co, cc, by rw [he2, r1], hb2, r2, (by have : (kindsB x).length ≤ (whole x).length := hcl; omega), fun hm => ?_⟩
          obtain ⟨t1, t2, t3, t4⟩ := r3 (by rw [hlen]; exact hm)
          refine ⟨t1, t2, t3, fun k hk => ?_⟩
          have e5 : (runs (whole x))[k]'(by rw [hlen]; exact hk) = (kindAt x k, cntB (kindAt x k) (whole x)) := by
            have e6 : kindAt x k = (kindsB x)[k] := getD_lt hk
            simp only [hrt]
            unfold tally
            rw [List.getElem_map, e6]
            rfl
          have t5 := t4 k (by rw [hlen]; exact hk)
          rw [e5] at t5
          exact t5)
        (fun hok h6 w' hs hbk i k hi hk => Sound.intB (W := w') s_l03Stray (fun _ _ => rfl) (avs := [.obj true ⟨0, .arr 12 TyB2, [x.getD i []]⟩, .val TyB2 (kindAt x k)]) (vs := [.pointer (some ⟨lb, lo + i * 24, none⟩), .agg #[.int .u8 (kindAt x k).1, .int .i16 (kindAt x k).2]])
          (All2.cons_iff.2 ⟨entry_at (hA (by omega)).2.2 (hA (by omega)).2.1 hs hbk hi (hcr i hi), All2.cons_iff.2 ⟨⟨rfl, ⟨trivial, trivial⟩, rfl⟩, All2.nil _⟩⟩) (x := (x.getD i [], kindAt x k)) rfl (cl_eq (P := fun x : List DB × DB => Cr x.1) (x := (x.getD i [], kindAt x k)) (hcr i hi)) (go0 rfl _ _))
      rw [res_best h12] at hcall
      refine hcall.mono fun e w' ⟨bv, he, ho, hb⟩ => ?_
      subst he
      obtain ⟨g', r2⟩ := R.retOwnB hR hb ho (bestLabels x).2.1 (bestLabels x).2.2
      exact ⟨_, g', [.sl 1 [] none, .val (.int .i64) _, .val (.int .i64) _], [bv, .int .i64 _, .int .i64 _], r2, rfl, rfl, rfl⟩
def heldB : Int → List DB → Int
  | k, [] => k
  | k, x :: l => if x = (IntKind.u8.wrap k, IntKind.i16.wrap (IntKind.i64.wrap (k + 1))) then heldB (IntKind.i64.wrap (IntKind.i64.wrap (k + 1) + 1)) l else -1
theorem held_markB : ∀ (l : List DB) (k : Int), heldB k (markB k l).2 = (markB k l).1
  | [], _ => rfl
  | x :: l, k => by
    unfold markB heldB
    rw [if_pos rfl]
    exact held_markB l _
theorem markB_len : ∀ (l : List DB) (k : Int), (markB k l).2.length = l.length
  | [], _ => rfl
  | x :: l, k => by unfold markB; simp [markB_len l]
theorem s_heldBottleS : Fz24.S (cl PL1 fun x => heldB x.2 x.1) := Fz24.of_cl fun x h k => by
  obtain ⟨l, n⟩ := x
  have h : l.length ≤ 1073741824 := h
  show Fz24.pf BIG l n k = k (heldB n l)
  unfold Fz24.pf
  refine iter_list l (fun i (c : Int) => (c, (i : Int))) (fun r c => k (heldB c r)) (fun i c => True) (c := n) rfl (big_lt (by omega)) trivial ?_ ?_
  · rintro i hi c rec _ hrec
    unfold Fz24.B1
    simp only [decT (show (i : Int) < (l.length : Int) by omega), inB_nat hi, cond_true, Int.toNat_natCast, getD_lt hi, w64n (show i < 9223372036854775807 by omega), heldB]
    generalize l[i] = x
    obtain ⟨x1, x2⟩ := x
    simp only [Prod.mk.injEq]
    by_cases c1 : x1 = IntKind.u8.wrap c
    · rw [bneF c1, cond_false]
      by_cases c2 : x2 = IntKind.i16.wrap (IntKind.i64.wrap (c + 1))
      · rw [bneF c2, cond_false, if_pos ⟨c1, c2⟩]
        exact hrec _ trivial
      · rw [bneT c2, if_neg (fun q => c2 q.2)]; rfl
    · rw [bneT c1, if_neg (fun q => c1 q.1)]; rfl
  · rintro c rec _
    unfold Fz24.B1
    rw [decF (by simp)]
    rfl
theorem s_markCrateS : Fz26.S (cl (fun x => x.1.length ≤ 1073741824) fun x => x.2) := Fz26.of_cl fun x h k => by
  unfold Fz26.pf
  refine iter_list x.1 (fun p (_ : Unit) => (p : Int)) (fun _ _ => k x.2) (fun _ _ => True) (c := ()) rfl (big_lt (by omega)) trivial ?_ ?_
  · rintro p hp _ rec _ hrec
    unfold Fz26.B1
    simp only [decT (show (p : Int) < (x.1.length : Int) by omega), cond_true, w64n (show p < 9223372036854775807 by omega)]
    exact hrec () trivial
  · rintro _ rec _
    unfold Fz26.B1
    rw [decF (by omega), cond_false]
theorem G_len {c : Nat → DB → Int} : ∀ (d i : Nat) (l : List DB), (Lb.G c d i l).length ≤ d
  | 0, _, _ => Nat.le_refl _
  | d + 1, i, l => by
    unfold Lb.G
    split
    · rw [List.length_cons]; exact Nat.succ_le_succ (G_len d (i + 1) _)
    · exact Nat.zero_le _
theorem best_len (s : List (List DB)) : (bestLabels s).1.length ≤ 6 := by
  unfold bestLabels
  split
  · split
    · exact Nat.zero_le _
    · split
      · exact Nat.zero_le _
      · have := G_len (c := cI s) s.length 0 (kindsB s)
        show (Lb.G (cI s) s.length 0 (kindsB s)).length ≤ 6
        omega
  · exact Nat.zero_le _
theorem s_law_BestLabels : laws_FnExactBestLabels.S (cl gCs fun _ => true) := laws_FnExactBestLabels.of_cl s_szCrateS s_toCrateS s_spec_BestLabels s_impl_BestLabels s_eqBottleS s_eqCrateS s_markCrateS s_markBottleS s_heldBottleS fun s h k => by
  have hg : gCs s := h
  unfold laws_FnExactBestLabels.pf
  rw [cl_eq (show PszC (s, 1048576) from ⟨hg.1, by simp, by simp⟩), Option.bind_some]
  by_cases c : vszC (s, 1048576) < 0
  · rw [decT c]; rfl
  · obtain ⟨hs, n0, n1⟩ := szC_ok c (by omega) (by omega)
    have cr : CrS s := ⟨by omega, fun c hc => (hg.2 c hc).1⟩
    have w : wCs s := ⟨cr, fun c hc => (hg.2 c hc).2⟩
    have wl : wLb s := ⟨w, hs⟩
    have ho := best_len s
    have hm := markB_len (bestLabels s).1 1
    have h1 := markB_fst (bestLabels s).1 1 (by omega) (by omega)
    rw [decF c, cond_false]
    have hmc : ∀ (l : List (List DB)) (q : Int), l.length ≤ 1073741824 → cl (fun x : List (List DB) × Int => x.1.length ≤ 1073741824) (fun x => x.2) (l, q) = some q := fun l q hq => cl_eq (P := fun x : List (List DB) × Int => x.1.length ≤ 1073741824) (x := (l, q)) hq
    simp only [cl_eq cr, Option.bind_some, cl_eq wl, cl_eq (show PL1 ((bestLabels s).1, (bestLabels s).1) by unfold PL1; simp only; omega), bneS, cond_false, cl_eq (show CrS2 (s, s) from ⟨cr, cr⟩), decide_true, Bool.not_true, hmc _ _ cr.1, decF (show ¬ ((1 : Int) < 0) by omega), cl_eq (show PL1 ((bestLabels s).1, (1 : Int)) by unfold PL1; simp only; omega), cl_eq (show PL1 ((markB 1 (bestLabels s).1).2, (1 : Int)) by unfold PL1; simp only; omega), held_markB]
    rw [decF (show ¬ (markB 1 (bestLabels s).1).1 < 0 by omega)]
    rfl
end Go.Proofs.Ytjajlmaldeoobaa.G
