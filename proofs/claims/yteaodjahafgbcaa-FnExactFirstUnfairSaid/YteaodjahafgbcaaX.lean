/- Plain proofs: what the functions answer, in plain lists and numbers. -/
import Derived.Test.YteaodjahafgbcaaRd0
import Derived.Test.YteaodjahafgbcaaRd1
import Derived.Test.YteaodjahafgbcaaShelf
namespace Go.Proofs.Yteaodjahafgbcaa.G
open Go
set_option linter.unusedVariables false
set_option linter.unusedSimpArgs false
set_option maxRecDepth 10000
abbrev DB := Int × Int
abbrev DS := DB × Int
abbrev dS : DS := ((0, 0), 0)
theorem s_toBottle : Fz13.S (tot fun x => x) := Fz13.of_tot fun x k => rfl
theorem s_toStored : Fz14.S (tot fun x => x) := Fz14.of_tot s_toBottle fun x k => rfl
/-- A copy, element by element. -/
theorem copied {β : Type} {l o : List β} {k : Nat} {d : β} (h : k < l.length) (ho : o.length = l.length) (hp : o.take k = l.take k) : (o.set k l[k]).take (k + 1) = l.take (k + 1) ∧ (o.set k l[k]).length = l.length := by
  refine ⟨?_, by simpa using ho⟩
  rw [List.take_succ_eq_append_getElem (by simpa [ho] using h), List.take_succ_eq_append_getElem h, List.take_set_of_le (Nat.le_refl k), hp]
  simp
theorem toStoredS_pf {α : Type} (l : List DS) (h : l.length ≤ 1073741824) (k : List DS → Option α) : Fz15.pf (tot fun x => x) BIG l k = k l := by
  unfold Fz15.pf
  rw [inW_true (by omega) (by omega) (by unfold LIM; omega)]
  simp only [cond_true]
  refine (iter_list (B := Fz15.B1 (tot fun x => x) l fun x1 => k x1.2) l (fun i (c : List DS) => ((i : Int), c)) (fun _ _ => k l) (fun i c => c.length = l.length ∧ c.take i = l.take i) (c := List.replicate l.length dS) (by simp) (big_lt (by omega)) (by simp) ?_ ?_)
  · rintro i hi c rec ⟨h1, h2⟩ hrec
    unfold Fz15.B1
    simp only [decT (show (i : Int) < (l.length : Int) by omega), inB_nat hi, inB_nat (h1 ▸ hi : i < c.length), cond_true, Int.toNat_natCast, getD_lt hi, tot_eq, Option.bind_some, w64n (show i < 9223372036854775807 by omega)]
    have := copied (d := dS) hi h1 h2
    exact hrec _ ⟨this.2, this.1⟩
  · rintro c rec ⟨h1, h2⟩
    unfold Fz15.B1
    rw [decF (by omega)]
    rw [List.take_of_length_le (by omega), List.take_of_length_le (Nat.le_refl _)] at h2
    simp only [cond_false, h2]
theorem s_toStoredS : Fz15.S (cl PL fun l => l) := Fz15.of_cl s_toStored fun x h => toStoredS_pf x h
def Psz (x : List DS × Int) : Prop := x.1.length ≤ maxLen ∧ 0 ≤ x.2 ∧ x.2 ≤ 1048576
def vsz (x : List DS × Int) : Int := if x.2 < x.1.length then -1 else x.2 - x.1.length
theorem s_szStoredS : Fz12.S (cl Psz vsz) :=
  Fz12.of_cl fun x ⟨h1, h2, h3⟩ k => by
    unfold maxLen at h1
    unfold Fz12.pf vsz
    rw [w64 (by omega) (by omega)]
    by_cases c : x.2 < x.1.length
    · rw [decT (by omega), if_pos c]; rfl
    · rw [decF (by omega), if_neg c]; rfl
theorem eqB (a b : DB) : eqV (.st (.pair (.int .u8) (.int .i16))) a b = decide (a = b) := by
  obtain ⟨a1, a2⟩ := a
  obtain ⟨b1, b2⟩ := b
  simp only [eqV]
  rw [Bool.eq_iff_iff]
  simp
theorem s_eqBottle : Fz9.S (tot fun x => decide (x.1 = x.2)) := Fz9.of_tot fun x k => by
  obtain ⟨⟨a1, a2⟩, b1, b2⟩ := x
  unfold Fz9.pf
  by_cases h1 : a1 = b1
  · by_cases h2 : a2 = b2
    · simp [h1, h2]
    · simp [h1, h2, bneT h2]
  · simp [h1, bneT h1]
theorem s_eqStored : Fz10.S (tot fun x => decide (x.1 = x.2)) := Fz10.of_tot s_eqBottle fun x k => by
  obtain ⟨⟨a1, a2⟩, b1, b2⟩ := x
  unfold Fz10.pf
  by_cases h1 : a1 = b1
  · by_cases h2 : a2 = b2
    · simp [h1, h2, tot]
    · simp [h1, h2, tot, bneT h2]
  · simp [h1, tot]
/-- Lists of one length are alike where no pair of elements differs. -/
theorem any_eq {β : Type} [DecidableEq β] : ∀ (a b : List β), a.length = b.length → (a.zip b).any (fun p => !decide (p.1 = p.2)) = !decide (a = b)
  | [], [], _ => by simp
  | [], _ :: _, h => by simp at h
  | _ :: _, [], h => by simp at h
  | x :: a, y :: b, h => by
    rw [List.zip_cons_cons, List.any_cons, any_eq a b (by simpa using h)]
    by_cases c : x = y <;> by_cases c2 : a = b <;> simp [c, c2]
theorem zip_at {β γ : Type} {a : List β} {b : List γ} {k : Nat} (h : k < (a.zip b).length) : (a.zip b)[k] = (a[k]'(by simp at h; omega), b[k]'(by simp at h; omega)) := by simp
theorem eqStoredS_pf {α : Type} (a b : List DS) (h : a.length ≤ 1073741824) (k : Bool → Option α) : Fz11.pf (tot fun x => decide (x.1 = x.2)) BIG a b k = k (decide (a = b)) := by
  unfold Fz11.pf
  by_cases c : a.length = b.length
  · rw [show (((a.length : Nat) : Int) != ((b.length : Nat) : Int)) = false by simp [c], cond_false]
    have hz : (a.zip b).length = a.length := by simp [c]
    rw [iter_first (a.zip b) (fun i => (i : Int)) (fun p => !decide (p.1 = p.2)) (fun _ _ => k false) (k true) (x := 0) rfl (big_lt (by omega)) ?_ ?_, firstOr_const, any_eq a b c]
    · by_cases e : a = b <;> simp [e]
    · intro i hi rec
      have h1 : i < a.length := by omega
      have h2 : i < b.length := by omega
      unfold Fz11.B1
      rw [zip_at hi]
      simp only [decT (show (i : Int) < (a.length : Int) by omega), inB_nat h1, inB_nat h2, cond_true, Int.toNat_natCast, getD_lt h1, getD_lt h2, tot_eq, Option.bind_some, w64n (show i < 9223372036854775807 by omega)]
    · intro rec
      unfold Fz11.B1
      rw [decF (by omega)]
      rfl
  · rw [show (((a.length : Nat) : Int) != ((b.length : Nat) : Int)) = true by simpa using fun q => c (by omega), cond_true]
    rw [decF (fun e => c (by rw [e]))]
theorem s_eqStoredS : Fz11.S (cl PL1 fun x => decide (x.1 = x.2)) := Fz11.of_cl s_eqStored fun x h => eqStoredS_pf x.1 x.2 h
def validB (b : DB) : Bool := decide (1 ≤ b.1) && decide (b.1 ≤ 20) && (decide (1900 ≤ b.2) && decide (b.2 ≤ 2099))
def validS (s : DS) : Bool := validB s.1 && (decide (0 ≤ s.2) && decide (s.2 ≤ 2000))
/-- Whole numbers of their kinds. -/
def wB (b : DB) : Prop := 0 ≤ b.1 ∧ b.1 ≤ 255 ∧ -32768 ≤ b.2 ∧ b.2 ≤ 32767
def wS (s : DS) : Prop := wB s.1 ∧ -32768 ≤ s.2 ∧ s.2 ≤ 32767
def wL (l : List DS) : Prop := PL l ∧ ∀ s, s ∈ l → wS s
def wR (r : List (List DS)) : Prop := Bd r ∧ ∀ l, l ∈ r → ∀ s, s ∈ l → wS s
theorem wR.at {r : List (List DS)} (h : wR r) {k : Nat} (hk : k < r.length) : wL r[k] := ⟨h.1.pl hk, h.2 _ (List.getElem_mem hk)⟩
theorem wL.at {l : List DS} (h : wL l) {k : Nat} (hk : k < l.length) : wS l[k] := h.2 _ (List.getElem_mem hk)
theorem s_l00In : spec_l00In.S (tot fun x => decide (x.2.1 ≤ x.1) && decide (x.1 ≤ x.2.2)) := spec_l00In.of_tot fun x k => by
  unfold spec_l00In.pf
  by_cases c : x.2.1 ≤ x.1
  · rw [decT (show x.1 ≥ x.2.1 from c)]; rfl
  · rw [decF (show ¬ x.1 ≥ x.2.1 from c)]; rfl
theorem s_within : Fz7.S (tot fun x => decide (x.2.1 ≤ x.1) && decide (x.1 ≤ x.2.2)) := Fz7.of_tot fun x k => by
  unfold Fz7.pf
  by_cases c : x.2.1 ≤ x.1
  · rw [decT c]; rfl
  · rw [decF c]; rfl
theorem s_l01Bottle : Fz20.S (cl wB validB) := Fz20.of_cl s_l00In fun x ⟨h1, h2, h3, h4⟩ k => by
  unfold Fz20.pf validB
  simp only [tot_eq, Option.bind_some, w64 (n := x.1) (by omega) (by omega), w64 (n := x.2) (by omega) (by omega)]
  cases decide (1 ≤ x.1) && decide (x.1 ≤ 20) <;> rfl
theorem s_ValidBottle : Fz1.S (cl wB validB) := Fz1.of_cl s_within fun x ⟨h1, h2, h3, h4⟩ k => by
  unfold Fz1.pf validB
  simp only [tot_eq, Option.bind_some, w64 (n := x.1) (by omega) (by omega), w64 (n := x.2) (by omega) (by omega)]
  cases decide (1 ≤ x.1) && decide (x.1 ≤ 20) <;> rfl
theorem s_l04Stored : Fz24.S (cl wS validS) := Fz24.of_cl s_l01Bottle s_l00In fun x ⟨h1, h2, h3⟩ k => by
  unfold Fz24.pf validS
  rw [cl_eq h1, w64 (n := x.2) (by omega) (by omega)]
  simp only [tot_eq, Option.bind_some]
  cases validB x.1 <;> rfl
theorem s_validStored : Fz6.S (cl wS validS) := Fz6.of_cl s_ValidBottle s_within fun x ⟨h1, h2, h3⟩ k => by
  unfold Fz6.pf validS
  rw [cl_eq h1, w64 (n := x.2) (by omega) (by omega)]
  simp only [tot_eq, Option.bind_some]
  cases validB x.1 <;> rfl
theorem any_not {β : Type} (l : List β) (p : β → Bool) : (l.any fun x => !p x) = !l.all p := by
  induction l with
  | nil => rfl
  | cons x l ih => rw [List.any_cons, List.all_cons, ih, Bool.not_and]
theorem s_l04All : Fz21.S (cl wL fun l => l.all validS) := Fz21.of_cl s_l04Stored fun x h k => by
  have hl : x.length ≤ 1073741824 := h.1
  unfold Fz21.pf
  rw [iter_first x (fun i => (i : Int)) (fun s => !validS s) (fun _ _ => k false) (k true) (x := 0) rfl (big_lt (by omega)) ?_ ?_, firstOr_const, any_not]
  · cases x.all validS <;> rfl
  · intro i hi rec
    unfold Fz21.B1
    simp only [decT (show (i : Int) < (x.length : Int) by omega), inB_nat hi, cond_true, Int.toNat_natCast, getD_lt hi, cl_eq (h.at hi), Option.bind_some, w64n (show i < 9223372036854775807 by omega)]
  · intro rec
    unfold Fz21.B1
    rw [decF (by omega)]
    rfl
/-- Where the first one is. -/
def indexI {β : Type} (p : β → Bool) (l : List β) : Int := match l.findIdx? p with
  | some i => i
  | none => -1
theorem firstOr_index {α β : Type} (p : β → Bool) (k : Int → Option α) : ∀ (l : List β) (j : Nat), firstOr p (fun i _ => k (i : Int)) (k (-1)) j l = k (match l.findIdx? p with | some i => ((j + i : Nat) : Int) | none => -1)
  | [], _ => rfl
  | x :: l, j => by
    rw [firstOr, List.findIdx?_cons]
    cases p x with
    | true => simp
    | false =>
      rw [cond_false, firstOr_index p k l]
      cases l.findIdx? p with
      | none => rfl
      | some i => simp [Nat.add_assoc, Nat.add_comm 1 i]
theorem indexI_nn {β : Type} (p : β → Bool) (l : List β) : decide (indexI p l ≥ 0) = l.any p := by
  unfold indexI
  cases h : l.findIdx? p with
  | none =>
    have := List.findIdx?_eq_none_iff.1 h
    simp only
    rw [decF (by omega)]
    symm
    rw [List.any_eq_false]
    intro x hx
    simpa using this x hx
  | some i =>
    simp only
    rw [decT (by omega)]
    symm
    obtain ⟨hi, hp, _⟩ := List.findIdx?_eq_some_iff_getElem.1 h
    exact List.any_eq_true.2 ⟨_, List.getElem_mem hi, hp⟩
theorem good_I {n : Int} (h : (Lit.int .i64 n).wf = true) : -9223372036854775808 ≤ n ∧ n ≤ 9223372036854775807 := by
  simp only [Lit.wf, IntKind.min, IntKind.max, IntKind.bits, IntKind.signed] at h
  simp at h
  omega
theorem good_B {b : DB} (h : goodV (.st (.pair (.int .u8) (.int .i16))) b) : wB b := by
  obtain ⟨h1, h2⟩ := h
  simp only [goodV, Lit.wf, IntKind.min, IntKind.max, IntKind.bits, IntKind.signed] at h1 h2
  simp at h1 h2
  unfold wB
  omega
theorem good_S {s : DS} (h : goodV (.st (.pair (.st (.pair (.int .u8) (.int .i16))) (.int .i16))) s) : wS s := by
  obtain ⟨h1, h2⟩ := h
  refine ⟨good_B h1, ?_⟩
  simp only [goodV, Lit.wf, IntKind.min, IntKind.max, IntKind.bits, IntKind.signed] at h2
  simp at h2
  omega
def wI (i : Int) : Prop := -9223372036854775808 ≤ i ∧ i ≤ 9223372036854775807
def codeOf (a b : Bool) : Int := cond a (cond b 0 2) 1
theorem s_codeOf : Fz4.S (tot fun x => codeOf x.1 x.2) := Fz4.of_tot fun x k => by
  obtain ⟨a, b⟩ := x
  unfold Fz4.pf codeOf
  cases a <;> cases b <;> rfl
abbrev Spot := Int × Int × DS
theorem bneS (a : Int) : (a != a) = false := by simp
def older (x y : Spot) : Bool := decide (x.2.2.2 < y.2.2.2)
/-- Few lanes, each of them short. -/
def Few (o : List (List DS)) : Prop := o.length ≤ 8 ∧ ∀ x, x ∈ o → x.length ≤ 6
theorem Few.at {o : List (List DS)} (h : Few o) {n : Nat} (hn : n < o.length) : o[n].length ≤ 6 := h.2 _ (List.getElem_mem hn)
theorem Few.set {o : List (List DS)} (h : Few o) {n : Nat} {x : List DS} (hx : x.length ≤ 6) : Few (o.set n x) := ⟨by rw [List.length_set]; exact h.1, fun y hy => by
  rcases List.mem_or_eq_of_mem_set hy with q | rfl
  · exact h.2 y q
  · exact hx⟩
theorem s_areStored_1 : Fz3.S (cl wS fun s => !validS s) := Fz3.of_cl s_validStored fun x h k => by
  unfold Fz3.pf
  rw [cl_eq h]; rfl
theorem s_index_as : Fz17.S (cl wL fun l => indexI (fun s => !validS s) l) :=
  Fz17.of_cl s_areStored_1 fun x h k => by
  have hl : x.length ≤ 1073741824 := h.1
  unfold Fz17.pf
  rw [iter_first x (fun i => (i : Int)) (fun s => !validS s) (fun i _ => k (i : Int)) (k (-1)) (x := 0) rfl (big_lt (by omega)) ?_ ?_, firstOr_index]
  · unfold indexI
    congr 1
    cases x.findIdx? fun s => !validS s <;> simp
  · intro i hi rec
    unfold Fz17.B1
    simp only [decT (show (i : Int) < (x.length : Int) by omega), inB_nat hi, cond_true, Int.toNat_natCast, getD_lt hi, cl_eq (h.at hi), Option.bind_some, w64n (show i < 9223372036854775807 by omega)]
  · intro rec
    unfold Fz17.B1
    rw [decF (by omega)]
    rfl
theorem s_contains_as : Fz16.S (cl wL fun l => !l.all validS) :=
  Fz16.of_cl s_index_as fun x h k => by
  unfold Fz16.pf
  rw [cl_eq h, Option.bind_some, indexI_nn, any_not]
theorem s_areStored : Fz2.S (cl wL fun l => l.all validS) := Fz2.of_cl s_contains_as fun x h k => by
  unfold Fz2.pf
  rw [cl_eq h, Option.bind_some, Bool.not_not]
def gL (l : List DS) : Prop := l.length ≤ maxLen ∧ ∀ s, s ∈ l → wS s
theorem good_lane {e : TypeId} {l : List DS} (h : goodV (.row e (.st (.pair (.st (.pair (.int .u8) (.int .i16))) (.int .i16)))) l) : gL l := by
  obtain ⟨h1, h2⟩ := h
  refine ⟨h1, fun s hs => ?_⟩
  obtain ⟨i, hi, rfl⟩ := List.mem_iff_getElem.1 hs
  have := h2 i hi
  rw [getD_lt hi] at this
  exact good_S this
theorem s_l04Slack : Fz23.S (tot fun n => decide (0 ≤ n) && decide (n ≤ 2000)) := Fz23.of_tot s_l00In fun n k => by
  unfold Fz23.pf
  rfl
theorem s_isSlack : Fz5.S (tot fun n => decide (0 ≤ n) && decide (n ≤ 2000)) := Fz5.of_tot s_within fun n k => by
  unfold Fz5.pf
  rfl
def isSlackB (n : Int) : Bool := decide (0 ≤ n) && decide (n ≤ 2000)
theorem isSlack_true {n : Int} (h : isSlackB n = true) : 0 ≤ n ∧ n ≤ 2000 := by
  unfold isSlackB at h
  simpa using h
/-- A call that answers a whole number: what lay stays, and no fewer draws. -/
theorem Sound.intN {P : Program} {W : World} {f : FuncId} {A : Type} {dec : List AV → Option A} {fn : A → Option Int} {enc : List AV → Int → Res} (S : Sound P f (mkSig [] dec fn enc)) (henc : ∀ avs r, enc avs r = ⟨[.val (.int .i64) r], []⟩) {avs : List AV} {vs : List Value} (h : All2 (EntryOk W) avs vs) {x : A} (hd : dec avs = some x)
    {b : Int} (hx : fn x = some b) (hgo : GO W []) : Calls P f vs.toArray W fun e W' => e = .returned (.int .i64 b) ∧ Go.RowKit.Below W.heap.size W W' := by
  obtain ⟨gh, hR⟩ := entry_R h hgo
  have := S.does avs ⟨[.val (.int .i64) b], []⟩ (by simp only [mkSig, hd, hx]; rw [← henc avs b]; rfl) vs W gh [] hR
  refine this.mono (fun e w' he => ?_)
  cases e with
  | returned v =>
    obtain ⟨objs', g', xs', vs', Rc, hou, _, rfl⟩ := he
    have fr := Rc.frame
    refine ⟨?_, fr.os, fr.tape.1, fr.output, fr.size, fun k hk => fr.block k hk List.not_mem_nil⟩
    have hall : All2 (SRel objs' g') xs' vs' := by
      have t1 := Rc.tm
      simp only [List.size_toArray] at t1
      refine ⟨t1.symm, fun i x y hx hy => ?_⟩
      have hi := (List.getElem?_eq_some_iff.1 hx).1
      have := Rc.slots i hi
      rw [List.getD_eq_getElem?_getD, hx] at this
      rw [show vs'.toArray.getD i undef = y by
        have hi2 := (List.getElem?_eq_some_iff.1 hy).1
        have e := (List.getElem?_eq_some_iff.1 hy).2
        simp [hi2, e]] at this
      exact this
    have hrel := plain_rel xs' vs' [] _ [.val (.int .i64) b] hall hou rfl [] g'
    · match vs', hrel with
      | [v'], hrel =>
        have := (hrel.2 0 _ _ rfl rfl).2.2
        show Ending.returned v' = _
        rw [this]
        rfl
      | [], hrel => have := hrel.1; simp at this
      | _ :: _ :: _, hrel => have := hrel.1; simp at this
  | panicked _ => exact he.elim
  | outgrown => exact he.elim
abbrev TyS : Ty := .st (.pair (.st (.pair (.int .u8) (.int .i16))) (.int .i16))
abbrev FuX := List DS × List DS × Int
def PFu (x : FuX) : Prop := wL x.1 ∧ wL x.2.1 ∧ wI x.2.2
def fuO (x : FuX) : Int := Go.Proofs.unfairGo x.2.2 x.1 x.1.length (-1) (Go.Proofs.seeAll (fun _ => none) x.2.1)
def fuCode (x : FuX) : Int := codeOf (x.1.all validS && x.2.1.all validS) (decide (0 ≤ x.2.2) && decide (x.2.2 ≤ 2000))
def vImpFu (x : FuX) : Int × Int := if fuCode x = 0 then (if fuO x < 0 then (0, 6) else (fuO x, 0)) else (0, fuCode x)
theorem elems_rowS {w : World} {l : List DS} {locs : Nat → TyS.loc} {A : Option Addr} (h : Elems w false TyS l locs A) : Go.Proofs.RowS w A l := fun h0 => by
  obtain ⟨b, o, e, hb, hr⟩ := h.at_ h0
  refine ⟨b, o, e, hb, fun i hi => ?_⟩
  have hc := (rangeAt_flatMap _ _ (fun i => cells_length TyS _ _) _).1 hr i hi
  have e1 : ∀ (j : Nat) (v : Value), (cells TyS (List.getD l i TyS.dflt) (locs i))[j]? = some v → w.cell? ⟨b, o + i * 3 + j, none⟩ = some v := fun j v hv => hc j v hv
  have e2 : List.getD l i TyS.dflt = l[i] := getD_lt hi
  rw [e2] at e1
  exact ⟨e1 0 _ rfl, e1 1 _ rfl, e1 2 _ rfl⟩
theorem elems_entry {w w' : World} {l : List DS} {locs : Nat → TyS.loc} {A : Option Addr} {c : Nat} {e : TypeId} (hc : l.length ≤ c) (h : Elems w false TyS l locs A) (hb : Go.RowKit.Below w.heap.size w w') : EntryOk w' (.obj false ⟨e, TyS, l⟩) (.slice A l.length c) := by
  refine ⟨A, c, locs, rfl, .inr ⟨⟨hc, fun h0 => ?_, fun q => by cases q⟩, fun i hi => ?_⟩⟩
  · obtain ⟨b, o, e, hb1, hr⟩ := h.at_ h0
    exact ⟨b, o, e, Nat.lt_of_lt_of_le hb1 hb.size, rangeAt_block hr (hb.block _ hb1)⟩
  · exact memH_of_ok _ rfl _ _ _ (ok_of_memH _ rfl _ _ _ (h.mem i hi))
theorem wSt_of {l : List DS} (h : wL l) : ∀ s, s ∈ l → Go.Proofs.wSt s := fun s hs => h.2 s hs
theorem goN (w : World) (B : List Nat) : GO w B := go0 rfl w B
theorem s_impl_FirstUnfair : Fz0.S (cl PFu vImpFu) where
  fn := ⟨Try.f13, by kernel_rfl, by decide, by decide⟩
  does := fun avs r hr vs w gh MBb hR => by
    obtain ⟨x, y, h1, h2, rfl⟩ := mkSig_run hr
    obtain ⟨e0, e1, rfl⟩ := Fz0.dec_eq h1
    obtain ⟨hp, rfl⟩ := cl_some h2
    obtain ⟨t, l, n⟩ := x
    have ht : wL t := hp.1
    have hl : wL l := hp.2.1
    have hR : R 3 w ⟨MBb, _⟩ ⟨[.sl 0 [] none, .sl 1 [] none, .val (.int .i64) n], [some (.dat ⟨e0, TyS, t, false, false, none⟩), some (.dat ⟨e1, TyS, l, false, false, none⟩)]⟩ gh ⟨vs.toArray, []⟩ w := hR
    have hsz : vs.length = 3 := by simpa using hR.tm
    match vs, hsz with
    | [v0, v1, v2], _ =>
      have a0 : SlRel [some (.dat ⟨e0, TyS, t, false, false, none⟩), some (.dat ⟨e1, TyS, l, false, false, none⟩)] gh 0 [] none v0 := hR.slots 0 (by omega)
      have a1 : SlRel [some (.dat ⟨e0, TyS, t, false, false, none⟩), some (.dat ⟨e1, TyS, l, false, false, none⟩)] gh 1 [] none v1 := hR.slots 1 (by omega)
      have a2 : v2 = .int .i64 n := (hR.slots 2 (by omega)).2.2
      subst a2
      obtain ⟨d1, A1, c1, loc1, q1, rfl, u1, E1⟩ := sl_elems hR a0 (u := TyS) (l := t) rfl
      obtain ⟨d2, A2, c2, loc2, q2, rfl, u2, E2⟩ := sl_elems hR a1 (u := TyS) (l := l) rfl
      obtain rfl : _ = d1 := Option.some.inj q1
      obtain rfl : _ = d2 := Option.some.inj q2
      have hcall := Go.Proofs.fu_calls A1 A2 c1 c2 t l n w (elems_rowS E1) (elems_rowS E2) (wSt_of ht) (wSt_of hl) ht.1 hl.1 (t.all validS) (l.all validS) (decide (0 ≤ n) && decide (n ≤ 2000)) (fuCode (t, l, n))
        (fun h => by
          unfold fuCode codeOf at h
          simp only at h
          cases c : (t.all validS && l.all validS) with
          | true => rfl
          | false => rw [c] at h; simp at h)
        (fun h => by
          unfold fuCode codeOf at h
          simp only at h
          cases c : (t.all validS && l.all validS) with
          | true =>
            rw [c] at h
            cases c2 : (decide (0 ≤ n) && decide (n ≤ 2000)) with
            | true => simpa using c2
            | false => rw [c2] at h; simp at h
          | false => rw [c] at h; simp at h)
        (fun w' hb => Sound.law s_areStored (fun _ _ => rfl) (avs := [.obj false ⟨e0, TyS, t⟩]) (vs := [.slice A1 t.length c1]) (All2.cons_iff.2 ⟨elems_entry u1 E1 hb, All2.nil _⟩) (x := t) rfl (cl_eq ht) (goN _ _))
        (fun w' hb => Sound.law s_areStored (fun _ _ => rfl) (avs := [.obj false ⟨e1, TyS, l⟩]) (vs := [.slice A2 l.length c2]) (All2.cons_iff.2 ⟨elems_entry u2 E2 hb, All2.nil _⟩) (x := l) rfl (cl_eq hl) (goN _ _))
        (fun w' => Sound.law s_isSlack (fun _ _ => rfl) (avs := [.val (.int .i64) n]) (vs := [.int .i64 n]) (All2.cons_iff.2 ⟨⟨rfl, trivial, rfl⟩, All2.nil _⟩) (x := n) rfl rfl (goN _ _))
        (fun w' => Sound.intN s_codeOf (fun _ _ => rfl) (avs := [.val .bool (t.all validS && l.all validS), .val .bool (decide (0 ≤ n) && decide (n ≤ 2000))]) (vs := [.bool (t.all validS && l.all validS), .bool (decide (0 ≤ n) && decide (n ≤ 2000))]) (All2.cons_iff.2 ⟨⟨rfl, trivial, rfl⟩, All2.cons_iff.2 ⟨⟨rfl, trivial, rfl⟩, All2.nil _⟩⟩) (x := (t.all validS && l.all validS, decide (0 ≤ n) && decide (n ≤ 2000))) rfl rfl (goN _ _))
      refine hcall.mono fun e w' ⟨hb, he⟩ => ?_
      have he2 : e = .returned (.tuple #[.int .i64 (vImpFu (t, l, n)).1, .int .i64 (vImpFu (t, l, n)).2]) := by
        rw [he]
        unfold vImpFu Go.Proofs.fuRes fuO
        simp only
        split
        · split <;> rfl
        · rfl
      subst he2
      exact ⟨_, gh, [.val (.int .i64) (vImpFu (t, l, n)).1, .val (.int .i64) (vImpFu (t, l, n)).2], [.int .i64 (vImpFu (t, l, n)).1, .int .i64 (vImpFu (t, l, n)).2], hR.ret hb (fun h => h.elim) _ _ (All2.cons_iff.2 ⟨⟨rfl, trivial, rfl⟩, All2.cons_iff.2 ⟨⟨rfl, trivial, rfl⟩, All2.nil _⟩⟩), rfl, rfl, rfl⟩
/-- What the map knows of a row of bottles: for each, its first day. -/
def Sees (f : Int × Int → Option Int) (L : List DS) : Prop := ∀ x t, (∃ v, f x = some v ∧ v < t) ↔ ∃ s, s ∈ L ∧ s.1 = x ∧ s.2 < t
theorem sees_none : Sees (fun _ => none) [] := fun x t => by simp
theorem sees_cons {f : Int × Int → Option Int} {L : List DS} (h : Sees f L) (s : DS) : Sees (Go.Proofs.seeF f s.1 s.2) (s :: L) := fun x t => by
  have hx := h x t
  simp only [List.mem_cons, exists_eq_or_imp]
  rw [← hx]
  unfold Go.Proofs.seeF
  cases hf : f s.1 with
  | none =>
    simp only [Go.Proofs.setF]
    by_cases e : x = s.1
    · subst e
      simp [hf]
    · simp [e, Ne.symm e]
  | some v =>
    simp only
    split
    · simp only [Go.Proofs.setF]
      by_cases e : x = s.1
      · subst e
        simp only [if_true, Option.some.injEq, hf, true_and]
        constructor
        · rintro ⟨w, rfl, hw⟩; exact .inl hw
        · rintro (hw | ⟨w, rfl, hw⟩)
          · exact ⟨_, rfl, hw⟩
          · exact ⟨_, rfl, by omega⟩
      · simp [e, Ne.symm e]
    · by_cases e : x = s.1
      · subst e
        simp only [Option.some.injEq, hf, true_and]
        constructor
        · rintro ⟨w, rfl, hw⟩; exact .inr ⟨_, rfl, hw⟩
        · rintro (hw | ⟨w, rfl, hw⟩)
          · exact ⟨_, rfl, by omega⟩
          · exact ⟨_, rfl, hw⟩
      · simp [Ne.symm e]
theorem sees_perm {f : Int × Int → Option Int} {L M : List DS} (h : Sees f L) (hm : ∀ s, s ∈ L ↔ s ∈ M) : Sees f M := fun x t => (h x t).trans (exists_congr fun s => by rw [hm])
theorem sees_all : ∀ (l : List DS) {f : Int × Int → Option Int} {L : List DS}, Sees f L → Sees (Go.Proofs.seeAll f l) (l.reverse ++ L)
  | [], f, L, h => by simpa [Go.Proofs.seeAll] using h
  | s :: l, f, L, h => by
    have := sees_all l (sees_cons h s)
    simp only [List.reverse_cons, List.append_assoc, List.cons_append, List.nil_append]
    exact this
/-- Is a bottle of the same kind, older by more than the slack, in the row? -/
def earlyB (slack : Int) (L : List DS) (t : DS) : Bool := L.any fun s => decide (s.1 = t.1) && decide (s.2 + slack < t.2)
theorem sees_early {f : Int × Int → Option Int} {L : List DS} (h : Sees f L) (slack : Int) (t : DS) (out i : Int) : (match f t.1 with
    | some day => if day + slack < t.2 then i else out
    | none => out) = if earlyB slack L t = true then i else out := by
  have hx := h t.1 (t.2 - slack)
  have e : earlyB slack L t = true ↔ ∃ v, f t.1 = some v ∧ v < t.2 - slack := by
    rw [hx]
    unfold earlyB
    simp only [List.any_eq_true, Bool.and_eq_true, decide_eq_true_eq]
    exact exists_congr fun s => ⟨fun ⟨a, b, c⟩ => ⟨a, b, by omega⟩, fun ⟨a, b, c⟩ => ⟨a, b, by omega⟩⟩
  cases hf : f t.1 with
  | none =>
    rw [if_neg]
    rw [e, hf]
    simp
  | some v =>
    simp only
    by_cases c : v + slack < t.2
    · rw [if_pos c, if_pos (e.2 ⟨v, hf, by omega⟩)]
    · rw [if_neg c, if_neg]
      rw [e, hf]
      rintro ⟨w, hw, hc⟩
      obtain rfl := Option.some.inj hw
      omega
/-- Is the i-th bottle taken ahead of an older one, of those taken later or left? -/
def unfairAt (slack : Int) (l L : List DS) (i : Nat) : Bool := earlyB slack (l.drop (i + 1) ++ L) (l.getD i ((0, 0), 0))
theorem unfairGo_find (slack : Int) (l L : List DS) : ∀ (k : Nat) (out : Int) (f : Int × Int → Option Int), k ≤ l.length → Sees f (l.drop k ++ L) →
    Go.Proofs.unfairGo slack l k out f = ((List.range k).find? (unfairAt slack l L)).elim out fun i => (i : Int)
  | 0, out, f, _, _ => rfl
  | k + 1, out, f, hk, h => by
    have hd : l.drop k = l[k] :: l.drop (k + 1) := List.drop_eq_getElem_cons (by omega)
    have hg : l.getD k ((0, 0), 0) = l[k] := by simp [List.getD_eq_getElem?_getD, List.getElem?_eq_getElem (show k < l.length by omega)]
    have e : Go.Proofs.unfairGo slack l (k + 1) out f = Go.Proofs.unfairGo slack l k (if earlyB slack (l.drop (k + 1) ++ L) (l.getD k ((0, 0), 0)) = true then (k : Int) else out) (Go.Proofs.seeF f (l.getD k ((0, 0), 0)).1 (l.getD k ((0, 0), 0)).2) :=
      congrArg (fun z => Go.Proofs.unfairGo slack l k z (Go.Proofs.seeF f (l.getD k ((0, 0), 0)).1 (l.getD k ((0, 0), 0)).2)) (sees_early h slack _ out k)
    rw [e, unfairGo_find slack l L k _ _ (by omega) (by rw [hd, hg]; exact sees_cons h _), List.range_succ, List.find?_append]
    cases (List.range k).find? (unfairAt slack l L) with
    | some i => rfl
    | none =>
      simp only [Option.elim_none, Option.none_or, List.find?_cons, List.find?_nil]
      have : unfairAt slack l L k = earlyB slack (l.drop (k + 1) ++ L) (l.getD k ((0, 0), 0)) := rfl
      rw [this]
      cases earlyB slack (l.drop (k + 1) ++ L) (l.getD k ((0, 0), 0)) <;> rfl
theorem unfair_all (slack : Int) (l L : List DS) : Go.Proofs.unfairGo slack l l.length (-1) (Go.Proofs.seeAll (fun _ => none) L) = ((List.range l.length).find? (unfairAt slack l L)).elim (-1) fun i => (i : Int) :=
  unfairGo_find slack l L _ _ _ (Nat.le_refl _) (sees_perm (sees_all L sees_none) (by simp))
def vFU (x : FuX) : Int × Int := if (x.1.all validS && x.2.1.all validS) = true then (if isSlackB x.2.2 = true then (match (List.range x.1.length).find? (unfairAt x.2.2 x.1 x.2.1) with
    | some i => ((i : Int), 0)
    | none => (0, 6)) else (0, 2)) else (0, 1)
theorem vFU_eq (x : FuX) : vImpFu x = vFU x := by
  unfold vImpFu vFU fuO fuCode codeOf isSlackB
  rw [unfair_all]
  cases (x.1.all validS && x.2.1.all validS) with
  | false => rfl
  | true =>
    cases (decide (0 ≤ x.2.2) && decide (x.2.2 ≤ 2000)) with
    | false => rfl
    | true =>
      have key : ∀ o : Option Nat, (if (o.elim (-1 : Int) fun i => (i : Int)) < 0 then ((0 : Int), (6 : Int)) else (o.elim (-1 : Int) fun i => (i : Int), 0)) = (match o with
          | some i => ((i : Int), 0)
          | none => (0, 6)) := fun o => by
        cases o with
        | none => rfl
        | some i => exact if_neg (show ¬ (i : Int) < 0 by omega)
      exact key _
theorem firstOr_findQ {α β : Type} (p : β → Bool) (F : β → Option α) (no : Option α) : ∀ (l : List β) (j : Nat), firstOr p (fun _ x => F x) no j l = (match l.find? p with
    | some x => F x
    | none => no)
  | [], _ => rfl
  | x :: l, j => by
    rw [firstOr, firstOr_findQ p F no l, List.find?_cons]
    cases p x <;> rfl
def PEy (x : DS × DS × Int) : Prop := wS x.1 ∧ wS x.2.1 ∧ 0 ≤ x.2.2 ∧ x.2.2 ≤ 2000
def vEy (x : DS × DS × Int) : Bool := decide (x.1.1 = x.2.1.1) && decide (x.1.2 + x.2.2 < x.2.1.2)
theorem s_l04Early : Fz22.S (cl PEy vEy) := Fz22.of_cl fun x h k => by
  obtain ⟨a, b, n⟩ := x
  obtain ⟨⟨_, ha⟩, ⟨_, hb⟩, hn⟩ := h
  simp only at ha hb hn
  show Fz22.pf BIG a b n k = k (vEy (a, b, n))
  unfold Fz22.pf vEy
  rw [eqB, w64 (n := a.2) (by omega) (by omega), w64 (n := b.2) (by omega) (by omega), w64 (n := a.2 + n) (by omega) (by omega)]
  cases decide (a.1 = b.1) <;> rfl
theorem spec_fu3 {α : Type} (t l : List DS) (n : Int) (ht : wL t) (hl : wL l) (hn : 0 ≤ n ∧ n ≤ 2000) (i : Nat) (hi : i < t.length) (y : Int → Bool → Option α) (no : Int → Option α) (Y N : Option α) (hy : ∀ a b, y a b = Y) (hno : no (l.length : Int) = N) :
    iter (Fz18.B3 (cl PEy vEy) n (i : Int) t l y no) BIG 0 = cond (earlyB n l t[i]) Y N := by
  have hll : l.length ≤ 1073741824 := hl.1
  rw [iter_first l (fun j => (j : Int)) (fun s => vEy (s, t[i], n)) (fun _ _ => Y) N (x := 0) rfl (big_lt (by omega)) ?_ ?_, firstOr_const]
  · rfl
  · intro j hj rec
    unfold Fz18.B3
    simp only [decT (show (j : Int) < (l.length : Int) by omega), inB_nat hj, inB_nat hi, cond_true, Int.toNat_natCast, getD_lt hj, getD_lt hi, w64n (show j < 9223372036854775807 by omega), cl_eq (show PEy (l[j], t[i], n) from ⟨hl.at hj, ht.at hi, hn⟩), Option.bind_some, hy]
  · intro rec
    unfold Fz18.B3
    rw [decF (by omega), cond_false, hno]
theorem spec_fu2 {α : Type} (t l : List DS) (n : Int) (ht : wL t) (hl : wL l) (hn : 0 ≤ n ∧ n ≤ 2000) (i : Nat) (hi : i < t.length) (y : Int → Bool → Option α) (no : Int → Option α) (Y N : Option α) (hy : ∀ a b, y a b = Y) (hno : no (t.length : Int) = N) :
    iter (Fz18.B2 (cl PEy vEy) n (i : Int) t l y no) BIG ((i + 1 : Nat) : Int) = cond (earlyB n (t.drop (i + 1)) t[i]) Y N := by
  have htl : t.length ≤ 1073741824 := ht.1
  have hdl : (t.drop (i + 1)).length = t.length - (i + 1) := List.length_drop
  rw [iter_first (t.drop (i + 1)) (fun j => ((i + 1 + j : Nat) : Int)) (fun s => vEy (s, t[i], n)) (fun _ _ => Y) N (x := ((i + 1 : Nat) : Int)) rfl (big_lt (by omega)) ?_ ?_, firstOr_const]
  · rfl
  · intro j hj rec
    have hj2 : i + 1 + j < t.length := by omega
    unfold Fz18.B2
    simp only [decT (show ((i + 1 + j : Nat) : Int) < (t.length : Int) by omega), inB_nat hj2, inB_nat hi, cond_true, Int.toNat_natCast, getD_lt hj2, getD_lt hi, w64n (show i + 1 + j < 9223372036854775807 by omega), cl_eq (show PEy (t[i + 1 + j], t[i], n) from ⟨ht.at hj2, ht.at hi, hn⟩), Option.bind_some, hy, List.getElem_drop]
    rfl
  · intro rec
    unfold Fz18.B2
    rw [decF (by omega), cond_false]
    rw [show i + 1 + (t.drop (i + 1)).length = t.length by omega, hno]
theorem s_spec_FirstUnfair : Fz18.S (cl PFu vFU) := Fz18.of_cl s_l04All s_l04Slack s_l04Early fun x h k => by
  obtain ⟨t, l, n⟩ := x
  obtain ⟨ht, hl, _⟩ := h
  simp only at ht hl
  have htl : t.length ≤ 1073741824 := ht.1
  show Fz18.pf _ _ _ BIG t l n k = k (vFU (t, l, n))
  unfold Fz18.pf vFU
  simp only [cl_eq ht, cl_eq hl, Option.bind_some, tot_eq]
  cases t.all validS with
  | false => rfl
  | true =>
    cases l.all validS with
    | false => rfl
    | true =>
      simp only [Bool.not_true, cond_false, Bool.and_self, if_true]
      show cond (!isSlackB n) _ _ = _
      cases hs : isSlackB n with
      | false => rfl
      | true =>
        have hn := isSlack_true hs
        simp only [Bool.not_true, cond_false, if_true]
        rw [iter_first (List.range t.length) (fun i => (i : Int)) (unfairAt n t l) (fun _ i => k ((i : Int), 0)) (k (0, 6)) (x := 0) rfl (big_lt (by simp; omega)) ?_ ?_, firstOr_findQ]
        · cases (List.range t.length).find? (unfairAt n t l) <;> rfl
        · intro i hi rec
          have hi : i < t.length := by simpa using hi
          unfold Fz18.B1
          rw [decT (show (i : Int) < (t.length : Int) by omega), cond_true, w64n (show i < 9223372036854775807 by omega), spec_fu2 t l n ht hl hn i hi _ _ (k ((i : Int), 0)) (cond (earlyB n l t[i]) (k ((i : Int), 0)) (rec ((i + 1 : Nat) : Int))) (fun _ _ => rfl) ?_]
          · simp only [List.getElem_range]
            unfold unfairAt
            rw [getD_lt hi]
            unfold earlyB
            rw [List.any_append]
            cases (List.drop (i + 1) t).any _ <;> rfl
          · exact spec_fu3 t l n ht hl hn i hi _ _ _ _ (fun _ _ => rfl) rfl
        · intro rec
          unfold Fz18.B1
          rw [decF (by simp)]
          rfl
theorem vsz_w {l : List DS} {n : Int} (h : gL l) (n1 : n ≤ 1048576) (c : ¬ vsz (l, n) < 0) : wL l := by
  refine ⟨show l.length ≤ 1073741824 from ?_, h.2⟩
  unfold vsz at c
  simp only at c
  by_cases q : n < l.length
  · rw [if_pos q] at c; omega
  · omega
theorem s_law_FirstUnfair : laws_FnExactFirstUnfair.S (cl (fun x => gL x.1 ∧ gL x.2.1 ∧ wI x.2.2) fun _ => true) :=
  laws_FnExactFirstUnfair.of_cl s_szStoredS s_toStoredS s_spec_FirstUnfair s_impl_FirstUnfair s_eqStoredS fun x ⟨h, hs, hn⟩ k => by
  obtain ⟨t, l, n⟩ := x
  have h : gL t := h
  have hs : gL l := hs
  have hn : wI n := hn
  show laws_FnExactFirstUnfair.pf _ _ _ _ _ BIG t l n k = k true
  unfold laws_FnExactFirstUnfair.pf
  rw [cl_eq (show Psz (t, 1048576) from ⟨h.1, by omega, by omega⟩), Option.bind_some]
  by_cases c : vsz (t, 1048576) < 0
  · rw [decT c]; rfl
  · have w1 := vsz_w h (by omega) c
    have hr : 0 ≤ vsz (t, 1048576) ∧ vsz (t, 1048576) ≤ 1048576 := by
      unfold vsz at c ⊢
      simp only at c ⊢
      by_cases q : (1048576 : Int) < t.length
      · rw [if_pos q] at c; omega
      · rw [if_neg q] at c ⊢; omega
    rw [decF c, cond_false, cl_eq (show Psz (l, vsz (t, 1048576)) from ⟨hs.1, hr.1, hr.2⟩), Option.bind_some]
    by_cases c2 : vsz (l, vsz (t, 1048576)) < 0
    · rw [decT c2]; rfl
    · have w2 := vsz_w hs hr.2 c2
      rw [decF c2, cond_false]
      simp only [cl_eq (show PL t from w1.1), cl_eq (show PL l from w2.1), Option.bind_some, cl_eq (show PFu (t, l, n) from ⟨w1, w2, hn⟩), vFU_eq, bneS, cond_false, cl_eq (show PL1 (t, t) from w1.1), cl_eq (show PL1 (l, l) from w2.1), decide_true, Bool.not_true]
end Go.Proofs.Yteaodjahafgbcaa.G
