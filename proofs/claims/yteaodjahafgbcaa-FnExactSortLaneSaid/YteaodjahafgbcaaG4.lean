/- A reading of Go's operations over plain values, and its proof against the model: part 4. -/
import Derived.ProofKit
import Derived.OpenShut
import Derived.DataReads
import Derived.Deep.Slices
import Derived.WideShapes
import Derived.IntWalk
import Derived.Test.YteaodjahafgbcaaG3
namespace Go.Proofs.Yteaodjahafgbcaa.G
open Go
set_option linter.unusedVariables false

/-! ### Loops -/
def iter {X α : Type} (B : (X → Option α) → X → Option α) : Nat → X → Option α
  | 0, _ => none
  | k + 1, x => B (iter B k) x
theorem loop_sim {X α : Type} {body : (St → Option α) → St → Option α} {emb : X → St} {B : (X → Option α) → X → Option α} (h : ∀ rec x, body rec (emb x) = B (fun y => rec (emb y)) x) : ∀ k x, loopN body k (emb x) = iter B k x
  | 0, _ => rfl
  | k + 1, x => by
    show body (loopN body k) (emb x) = B (iter B k) x
    rw [h]
    congr 1
    funext y
    exact loop_sim h k y
/-- A loop that runs through states told by a number, up to one from which it ends. -/
theorem iter_run {X α : Type} {B : (X → Option α) → X → Option α} (st : Nat → X) (n : Nat) (r : Option α) (hs : ∀ k, k < n → ∀ rec, B rec (st k) = rec (st (k + 1))) (he : ∀ rec, B rec (st n) = r) : ∀ j k, k + j = n → ∀ fuel, j < fuel → iter B fuel (st k) = r
  | 0, k, hk, 0, hf => absurd hf (Nat.lt_irrefl 0)
  | j + 1, k, hk, 0, hf => absurd hf (Nat.not_lt_zero _)
  | 0, k, hk, f + 1, hf => by
    obtain rfl : k = n := by omega
    exact he _
  | j + 1, k, hk, f + 1, hf => by
    show B (iter B f) (st k) = r
    rw [hs k (by omega)]
    exact iter_run st n r hs he j (k + 1) (by omega) f (by omega)
theorem iter_to {X α : Type} {B : (X → Option α) → X → Option α} (st : Nat → X) (n : Nat) {x : X} {r : Option α} {fuel : Nat} (h0 : st 0 = x) (hf : n < fuel) (hs : ∀ k, k < n → ∀ rec, B rec (st k) = rec (st (k + 1))) (he : ∀ rec, B rec (st n) = r) : iter B fuel x = r := by
  subst h0
  exact iter_run st n r hs he n 0 (by omega) fuel hf

/-! ### Places in code -/
def codeAt : List Bool → Code → Code
  | [], c => c
  | false :: p, .seq a _ => codeAt p a
  | true :: p, .seq _ b => codeAt p b
  | false :: p, .cond _ a _ => codeAt p a
  | true :: p, .cond _ _ b => codeAt p b
  | _ :: p, .block _ b => codeAt p b
  | _ :: p, .loop b => codeAt p b
  | _, c => c
def annAt : List Bool → Ann → Ann
  | [], n => n
  | false :: p, n => annAt p n.l
  | true :: p, n => annAt p n.r
/-- What goes on from a place: 'rs' are the rounds of the loops around it. -/
def contAt {α : Type} (E : Env) (fuel : Nat) : List Bool → Code → Ann → List (St → Option α) → (Ex → St → Option α) → Ex → St → Option α
  | false :: p, .seq a b, n, rs, K => contAt E fuel p a n.l rs (seqK (fun s' => den E fuel b n.r s' K) K)
  | true :: p, .seq _ b, n, rs, K => contAt E fuel p b n.r rs K
  | false :: p, .cond _ a _, n, rs, K => contAt E fuel p a n.l rs K
  | true :: p, .cond _ _ b, n, rs, K => contAt E fuel p b n.r rs K
  | _ :: p, .block id b, n, rs, K => contAt E fuel p b n.l rs (blockK id K)
  | _ :: p, .loop b, n, r :: rs, K => contAt E fuel p b n.l rs (loopK E n.live r K)
  | _, _, _, _, K => K
def bodyOf (f : Func) : Code := f.body.getD .skip
/-- A round of the loop at a place, whatever goes on from it. -/
def roundV {α : Type} (E : Env) (fuel : Nat) (p : List Bool) (c : Code) (n : Ann) (cont : Ex → St → Option α) (rec : St → Option α) (s : St) : Option α :=
  den E fuel (codeAt (p ++ [false]) c) (annAt (p ++ [false]) n) s (loopK E (annAt p n).live rec cont)
def mkSlots (m : Nat) (l : List (Nat × SV)) : List SV := (List.range m).map fun i => ((l.find? fun q => q.1 == i).map (·.2)).getD .dead
def mkObjs (m : Nat) (l : List (Nat × Ob)) : List (Option Ob) := (List.range m).map fun i => (l.find? fun q => q.1 == i).map (·.2)

/-! ### Tests, as they are written -/
def inB (i : Int) (n : Nat) : Bool := decide (0 ≤ i) && decide (i < (n : Int))
def inW (a b : Int) (n : Nat) : Bool := decide (0 ≤ a) && (decide (a ≤ b) && decide (b ≤ (n : Int)))
def okL (n : Nat) : Bool := decide (n ≤ LIM)
theorem inB_true {i : Int} {n : Nat} (h0 : 0 ≤ i) (h : i < (n : Int)) : inB i n = true := by unfold inB; rw [decide_eq_true h0, decide_eq_true h]; rfl
theorem inB_nat {i n : Nat} (h : i < n) : inB (i : Int) n = true := inB_true (Int.natCast_nonneg i) (by omega)
theorem inW_true {a b : Int} {n : Nat} (h0 : 0 ≤ a) (h1 : a ≤ b) (h2 : b ≤ (n : Int)) : inW a b n = true := by unfold inW; rw [decide_eq_true h0, decide_eq_true h1, decide_eq_true h2]; rfl
theorem okL_true {n : Nat} (h : n ≤ 4294967296) : okL n = true := decide_eq_true h

/-! ### Signatures -/
theorem toVal_eq {t : Ty} {a : AV} {x : t.den} (h : a.toVal t = some x) : a = .val t x := by
  cases a with
  | val u y =>
    simp only [AV.toVal] at h
    by_cases e : u = t
    · subst e
      rw [dif_pos rfl] at h
      rw [← Option.some.inj h]
      rfl
    · rw [dif_neg e] at h
      cases h
  | _ => cases h
theorem toList_eq {t : Ty} {a : AV} {l : List t.den} (h : a.toList t = some l) : ∃ e, a = .obj false ⟨e, t, l⟩ := by
  cases a with
  | obj p c =>
    cases p with
    | true => cases h
    | false =>
      obtain ⟨e, u, y⟩ := c
      simp only [AV.toList] at h
      by_cases q : u = t
      · subst q
        rw [dif_pos rfl] at h
        rw [← Option.some.inj h]
        exact ⟨e, rfl⟩
      · rw [dif_neg q] at h
        cases h
  | _ => cases h
theorem toBox_eq {t : Ty} {a : AV} {x : t.den} (h : a.toBox t = some x) : ∃ e, a = .obj true ⟨e, t, [x]⟩ := by
  cases a with
  | obj p c =>
    cases p with
    | false => cases h
    | true =>
      obtain ⟨e, u, y⟩ := c
      simp only [AV.toBox] at h
      by_cases q : u = t
      · subst q
        rw [dif_pos rfl] at h
        match y, h with
        | [z], h =>
          have h : z = x := Option.some.inj h
          rw [← h]
          exact ⟨e, rfl⟩
      · rw [dif_neg q] at h
        cases h
  | _ => cases h
/-- A box that holds a slice. -/
def AV.toBx (t : Ty) : AV → Option (List t.den)
  | .bx _ c => if h : c.t = t then some (h ▸ c.l) else none
  | _ => none
theorem toBx_eq {t : Ty} {a : AV} {l : List t.den} (h : a.toBx t = some l) : ∃ e0 e, a = .bx e0 ⟨e, t, l⟩ := by
  cases a with
  | bx e0 c =>
    obtain ⟨e, u, y⟩ := c
    simp only [AV.toBx] at h
    by_cases q : u = t
    · subst q
      rw [dif_pos rfl] at h
      rw [← Option.some.inj h]
      exact ⟨e0, e, rfl⟩
    · rw [dif_neg q] at h
      cases h
  | _ => cases h
/-- A function, told by its number, with what it has captured. -/
def AV.toFn (g : FuncId) : AV → Option (List AV)
  | .fn f cs => cond (Nat.beq f g) (some (cs.map capAV)) none
  | _ => none
def AV.elem : AV → TypeId
  | .obj _ c => c.e
  | _ => 0
theorem toFn_eq {g : FuncId} {a : AV} {l : List AV} (h : a.toFn g = some l) : ∃ cs, a = .fn g cs ∧ l = cs.map capAV := by
  cases a with
  | fn f cs =>
    simp only [AV.toFn] at h
    cases q : Nat.beq f g with
    | true =>
      rw [q] at h
      obtain rfl := Nat.eq_of_beq_eq_true q
      exact ⟨cs, rfl, (Option.some.inj h).symm⟩
    | false => rw [q] at h; cases h
  | _ => cases h
theorem capAV_box {t : Ty} {e : TypeId} {x : t.den} {c : Option TypeId × Cont} (h : capAV c = .obj true ⟨e, t, [x]⟩) : c = (none, ⟨e, t, [x]⟩) := by
  obtain ⟨o, c⟩ := c
  cases o with
  | none => simp only [capAV, AV.obj.injEq, true_and] at h; rw [h]
  | some e => cases h
theorem capAV_bx {e0 : TypeId} {q : Cont} {c : Option TypeId × Cont} (h : capAV c = .bx e0 q) : c = (some e0, q) := by
  obtain ⟨o, c⟩ := c
  cases o with
  | none => cases h
  | some e => simp only [capAV, AV.bx.injEq] at h; rw [h.1, h.2]
/-- A signature by what the arguments are read as, and how the answer is written. -/
def mkSig {A B : Type} (muts : List Nat) (dec : List AV → Option A) (f : A → Option B) (enc : List AV → B → Res) : Sig where
  muts := muts
  F := fun α avs K => match dec avs with
    | some x => (f x).bind fun r => K (enc avs r)
    | none => none
  law := by
    intro α avs K
    split
    · rename_i x _; cases f x <;> rfl
    · rfl
theorem mkSig_run {A B : Type} {muts : List Nat} {dec : List AV → Option A} {f : A → Option B} {enc : List AV → B → Res} {avs : List AV} {r : Res} (h : (mkSig muts dec f enc).F Res avs some = some r) : ∃ x y, dec avs = some x ∧ f x = some y ∧ r = enc avs y := by
  simp only [mkSig] at h
  split at h
  · rename_i x hx
    obtain ⟨y, h1, h2⟩ := Option.bind_eq_some_iff.1 h
    exact ⟨x, y, hx, h1, (Option.some.inj h2).symm⟩
  · cases h
/-- Of two signatures of a function, by its arguments. -/
def sigCase (c : List AV → Bool) (s1 s2 : Sig) : Sig where
  muts := s1.muts
  F := fun α avs K => cond (c avs) (s1.F α avs K) (s2.F α avs K)
  law := by
    intro α avs K
    cases c avs
    · exact s2.law α avs K
    · exact s1.law α avs K
theorem Sound.case {P : Program} {f : FuncId} {c : List AV → Bool} {s1 s2 : Sig} (hm : s2.muts = s1.muts) (h1 : Sound P f s1) (h2 : Sound P f s2) : Sound P f (sigCase c s1 s2) where
  fn := h1.fn
  does := fun avs r hr vs w gh MBb hR => by
    simp only [sigCase] at hr
    cases hc : c avs with
    | true =>
      rw [hc] at hr
      exact h1.does avs r hr vs w gh MBb hR
    | false =>
      rw [hc] at hr
      have := h2.does avs r hr vs w gh MBb (by rw [hm]; exact hR)
      refine this.mono (fun e w' he => ?_)
      cases e with
      | returned v =>
        simp only [Post, hm] at he
        exact he
      | _ => exact he
def isFn (i : Nat) (g : FuncId) (avs : List AV) : Bool := match avs[i]? with
  | some (.fn f _) => Nat.beq f g
  | _ => false
/-- A table of signatures. -/
def tabOf : List (Nat × Sig) → FuncId → Option Sig
  | [], _ => none
  | (k, s) :: r, n => cond (Nat.beq n k) (some s) (tabOf r n)
theorem tab_sound {P : Program} : ∀ (l : List (Nat × Sig)), (∀ p, p ∈ l → Sound P p.1 p.2) → ∀ f sig, tabOf l f = some sig → Sound P f sig
  | [], _, f, sig, h => by cases h
  | (k, s) :: r, H, f, sig, h => by
    unfold tabOf at h
    cases q : Nat.beq f k with
    | true =>
      rw [q] at h
      obtain rfl := Option.some.inj h
      obtain rfl := Nat.eq_of_beq_eq_true q
      exact H _ (List.mem_cons_self ..)
    | false =>
      rw [q] at h
      exact tab_sound r (fun p hp => H p (List.mem_cons_of_mem _ hp)) f sig h

/-! ### Functions that call themselves -/
theorem Sound.mono {P : Program} {f : FuncId} {A B : Type} {muts : List Nat} {dec : List AV → Option A} {enc : List AV → B → Res} {f1 f2 : A → Option B} (h : Sound P f (mkSig muts dec f1 enc)) (hf : ∀ x r, f2 x = some r → f1 x = some r) : Sound P f (mkSig muts dec f2 enc) where
  fn := h.fn
  does := fun avs r hr vs w gh MBb hR => by
    obtain ⟨x, y, h1, h2, rfl⟩ := mkSig_run hr
    exact h.does avs _ (by simp only [mkSig, h1, hf x y h2]; rfl) vs w gh MBb hR
theorem Sound.sup {P : Program} {f : FuncId} {A B : Type} {muts : List Nat} {dec : List AV → Option A} {enc : List AV → B → Res} {fs : Nat → A → Option B} {f2 : A → Option B} (h : ∀ n, Sound P f (mkSig muts dec (fs n) enc)) (hf : ∀ x r, f2 x = some r → ∃ n, fs n x = some r) : Sound P f (mkSig muts dec f2 enc) where
  fn := (h 0).fn
  does := fun avs r hr vs w gh MBb hR => by
    obtain ⟨x, y, h1, h2, rfl⟩ := mkSig_run hr
    obtain ⟨n, hn⟩ := hf x y h2
    exact (h n).does avs _ (by simp only [mkSig, h1, hn]; rfl) vs w gh MBb hR

/-! ### Plain text -/
theorem cond_bind {α β : Type} (c : Bool) (a b : Option α) (k : α → Option β) : (cond c a b).bind k = cond c (a.bind k) (b.bind k) := by cases c <;> rfl
/-- More rounds than any loop here needs. -/
def BIG : Nat := 2 ^ 62
end Go.Proofs.Yteaodjahafgbcaa.G

namespace Go.Proofs.Yteaodjahafgbcaa.G
open Go Go.RowKit Go.ChangeShapes Go.WideShapes Go.Deep
set_option linter.unusedVariables false

/-- What holds of every value that came in. -/
def goodV : (t : Ty) → t.den → Prop
  | .int k, n => (Lit.int k n).wf = true
  | .bool, _ => True
  | .str, s => ByteArray.size s ≤ maxLen
  | .pair a b, x => goodV a x.1 ∧ goodV b x.2
  | .st t, x => goodV t x
  | .arr n t, x => List.length x = n ∧ ∀ i, i < n → goodV t (List.getD x i t.dflt)
  | .row _ t, x => List.length x ≤ maxLen ∧ ∀ i, i < List.length x → goodV t (List.getD x i t.dflt)

section
variable {H : Type} {enc : TypeId × Value → H} {P : Program} {W : World} {base : Nat} {sp : Nat → Bool} {hd : Bool} {E : Env}

def OpnT (enc : TypeId × Value → H) (P : Program) (W : World) (base : Nat) (sp : Nat → Bool) (hd : Bool) (ty : Ty) (t : TypeId) : Prop :=
  ∀ (fuel : Nat) (cs : List Value) (x : DataW H × List MemPlace), DataW.trod enc P W base sp hd fuel t cs = some x → ∃ y loc, cs = cells ty y loc ∧ memH W false ty none y loc ∧ goodV ty y

theorem opn_one {ty : Ty} {t : TypeId} {f : Field} {off : Nat} {fuel : Nat} {cs : List Value} (T : TTok P E) (h : E.TT t = some ty) (hO : OpnT enc P W base sp hd ty t) {x : Option (DataW H × List MemPlace)} (hx : x.isSome = true)
    (ht : DataW.trod enc P W base sp hd fuel t ((cs.drop off).take (P.cellsOf t)) = x) (hl : off + ty.size = cs.length) : ∃ y loc, cs.drop off = cells ty y loc ∧ memH W false ty none y loc ∧ goodV ty y := by
  obtain ⟨z, rfl⟩ := Option.isSome_iff_exists.1 hx
  obtain ⟨y, loc, h1, h2, h3⟩ := hO _ _ _ ht
  refine ⟨y, loc, ?_, h2, h3⟩
  rw [← h1, T.cellsOf h, List.take_of_length_le]
  rw [List.length_drop]
  omega

theorem flat_cut : ∀ (n : Nat) (sz : Nat) (cs : List Value), cs.length = n * sz → cs = (List.range n).flatMap (fun i => (cs.drop (i * sz)).take sz)
  | 0, sz, cs, h => by
    simp only [Nat.zero_mul] at h
    simp [List.eq_nil_of_length_eq_zero h]
  | n + 1, sz, cs, h => by
    have h1 : (cs.take (n * sz)).length = n * sz := by rw [List.length_take, h, Nat.succ_mul]; omega
    have ih := flat_cut n sz (cs.take (n * sz)) h1
    rw [List.range_succ, List.flatMap_append]
    have e : (List.range n).flatMap (fun i => (cs.drop (i * sz)).take sz) = cs.take (n * sz) := by
      refine Eq.trans (flatMap_congr_range (fun i hi => ?_)) ih.symm
      have : i * sz + sz ≤ n * sz := by rw [← Nat.succ_mul]; exact Nat.mul_le_mul_right _ hi
      rw [List.drop_take, List.take_take, Nat.min_eq_left (by omega)]
    rw [e]
    simp only [List.flatMap_cons, List.flatMap_nil, List.append_nil]
    rw [List.take_of_length_le (l := cs.drop (n * sz)) (by rw [List.length_drop, h, Nat.succ_mul]; omega), List.take_append_drop]

theorem opn_all (T : TTok P E) : ∀ (ty : Ty), (∀ t, E.TT t = some ty → OpnT enc P W base sp hd ty t) ∧
    (∀ (fs : List Field) (off : Nat) (cs : List Value), fieldsOk E.TT ty off fs = true → (∀ f, f ∈ fs → ∃ fuel x, DataW.trod enc P W base sp hd fuel f.type ((cs.drop f.offset).take (P.cellsOf f.type)) = some x) → off + ty.size = cs.length →
      ∃ y loc, cs.drop off = cells ty y loc ∧ memH W false ty none y loc ∧ goodV ty y) := by
  have single : ∀ (ty : Ty), (∀ b c, ty ≠ .pair b c) → (∀ t, E.TT t = some ty → OpnT enc P W base sp hd ty t) → (∀ (fs : List Field) (off : Nat) (cs : List Value), fieldsOk E.TT ty off fs = true → (∀ f, f ∈ fs → ∃ fuel x, DataW.trod enc P W base sp hd fuel f.type ((cs.drop f.offset).take (P.cellsOf f.type)) = some x) → off + ty.size = cs.length →
      ∃ y loc, cs.drop off = cells ty y loc ∧ memH W false ty none y loc ∧ goodV ty y) := by
    intro ty hnp hO fs off cs hf hx hl
    have key : ∃ f, fs = [f] ∧ f.offset = off ∧ E.TT f.type = some ty := by
      cases ty with
      | pair b c => exact absurd rfl (hnp b c)
      | _ =>
        unfold fieldsOk at hf
        split at hf
        · rename_i e; exact absurd e (by simp)
        · rename_i f _
          simp only [Bool.and_eq_true, beq_iff_eq] at hf
          exact ⟨f, rfl, hf.1, hf.2.1⟩
        · cases hf
    obtain ⟨f, rfl, rfl, hft⟩ := key
    obtain ⟨fuel, x, ht⟩ := hx f (by simp)
    exact opn_one (f := f) T hft (hO _ hft) (x := some x) rfl ht hl
  intro ty
  induction ty with
  | int k =>
    have h1 : ∀ t, E.TT t = some (.int k) → OpnT enc P W base sp hd (.int k) t := fun t ht fuel cs x h => by
      obtain ⟨n, rfl, _, hw⟩ := DataW.trod_int (T.int ht) h
      exact ⟨n, (), rfl, trivial, hw⟩
    exact ⟨h1, single _ (fun _ _ => nofun) h1⟩
  | bool =>
    have h1 : ∀ t, E.TT t = some .bool → OpnT enc P W base sp hd .bool t := fun t ht fuel cs x h => by
      obtain ⟨n, rfl, _⟩ := DataW.trod_bool (T.bool ht) h
      exact ⟨n, (), rfl, trivial, trivial⟩
    exact ⟨h1, single _ (fun _ _ => nofun) h1⟩
  | str =>
    have h1 : ∀ t, E.TT t = some .str → OpnT enc P W base sp hd .str t := fun t ht fuel cs x h => by
      obtain ⟨n, rfl, _, hw⟩ := DataW.trod_string (T.str ht) h
      exact ⟨n, (), rfl, trivial, hw⟩
    exact ⟨h1, single _ (fun _ _ => nofun) h1⟩
  | pair a b iha ihb =>
    refine ⟨fun t ht => absurd ht T.nopair, fun fs off cs hf hx hl => ?_⟩
    cases fs with
    | nil => cases hf
    | cons f fs =>
      unfold fieldsOk at hf
      simp only [Bool.and_eq_true, beq_iff_eq] at hf
      obtain ⟨rfl, hft, _, _, hrest⟩ := hf
      obtain ⟨fuel, x, ht⟩ := hx f (by simp)
      obtain ⟨y1, l1, e1, m1, g1⟩ := iha.1 _ hft _ _ _ ht
      simp only [Ty.size] at hl
      obtain ⟨y2, l2, e2, m2, g2⟩ := ihb.2 fs (f.offset + a.size) cs hrest (fun g hg => hx g (List.mem_cons_of_mem _ hg)) (by omega)
      refine ⟨(y1, y2), (l1, l2), ?_, ⟨m1, m2⟩, ⟨g1, g2⟩⟩
      simp only [cells]
      rw [← e1, ← e2, T.cellsOf hft, ← List.drop_drop, List.take_append_drop]
  | st b ih =>
    have h1 : ∀ t, E.TT t = some (.st b) → OpnT enc P W base sp hd (.st b) t := fun t ht fuel cs x h => by
      obtain ⟨fs, hu, hf, _⟩ := T.st ht
      obtain ⟨xs, n, _, _, hl, hxl, hall⟩ := DataW.trod_struct hu h
      obtain ⟨y, loc, e1, m1, g1⟩ := ih.2 fs.toList 0 cs hf (fun f hfm => by
        obtain ⟨i, hi⟩ := List.mem_iff_getElem?.1 hfm
        have hi' : fs[i]? = some f := by simpa using hi
        have hlt : i < xs.length := by rw [hxl]; exact (Array.getElem?_eq_some_iff.1 hi').1
        exact ⟨n, xs[i], (hall i f hi').trans (List.getElem?_eq_getElem hlt)⟩) (by rw [hl, T.cellsOf ht]; simp [Ty.size])
      exact ⟨y, loc, e1, m1, g1⟩
    exact ⟨h1, single _ (fun _ _ => nofun) h1⟩
  | arr n u ih =>
    have h1 : ∀ t, E.TT t = some (.arr n u) → OpnT enc P W base sp hd (.arr n u) t := fun t ht fuel cs x h => by
      obtain ⟨e, hu, he⟩ := T.arr ht
      obtain ⟨xs, m, _, _, hl, hxl, hall⟩ := DataW.trod_array hu h
      have hex : ∀ i : Fin n, ∃ y : u.den × u.loc, (cs.drop (i.1 * u.size)).take u.size = cells u y.1 y.2 ∧ memH W false u none y.1 y.2 ∧ goodV u y.1 := fun i => by
        have := hall i.1 i.2
        rw [List.getElem?_eq_getElem (by rw [hxl]; exact i.2)] at this
        obtain ⟨y, loc, e1, m1, g1⟩ := ih.1 e he _ _ _ this
        rw [T.cellsOf he] at e1
        exact ⟨(y, loc), e1, m1, g1⟩
      classical
      let f : Nat → u.den × u.loc := fun i => if hi : i < n then Classical.choose (hex ⟨i, hi⟩) else (u.dflt, u.dloc)
      have hf : ∀ i, i < n → (cs.drop (i * u.size)).take u.size = cells u (f i).1 (f i).2 ∧ memH W false u none (f i).1 (f i).2 ∧ goodV u (f i).1 := fun i hi => by
        simp only [f, dif_pos hi]
        exact Classical.choose_spec (hex ⟨i, hi⟩)
      have hg : ∀ i, i < n → ((List.range n).map fun i => (f i).1).getD i u.dflt = (f i).1 := fun i hi => by
        rw [List.getD_eq_getElem?_getD, List.getElem?_map, List.getElem?_range hi]; rfl
      refine ⟨(List.range n).map fun i => (f i).1, fun i => (f i).2, ?_, ⟨by simp, fun i hi => ?_⟩, ⟨by simp, fun i hi => ?_⟩⟩
      · have hlen : cs.length = n * u.size := by rw [hl, T.cellsOf ht]; rfl
        simp only [cells]
        have e2 : (List.range n).flatMap (fun i => cells u (((List.range n).map fun i => (f i).1).getD i u.dflt) (f i).2) = (List.range n).flatMap (fun i => (cs.drop (i * u.size)).take u.size) :=
          flatMap_congr_range (fun i hi => by rw [hg i hi, (hf i hi).1])
        rw [e2]
        exact flat_cut n u.size cs hlen
      · simp only [sub]
        rw [hg i hi]
        exact (hf i hi).2.1
      · rw [hg i hi]
        exact (hf i hi).2.2
    exact ⟨h1, single _ (fun _ _ => nofun) h1⟩
  | row e u ih =>
    have h1 : ∀ t, E.TT t = some (.row e u) → OpnT enc P W base sp hd (.row e u) t := fun t ht fuel cs x h => by
      obtain ⟨hu, he⟩ := T.row ht
      have hsz : 0 < u.size := by obtain ⟨_, _, _, h⟩ := T.size he; exact h
      rcases open_slice hu h with ⟨rfl, _⟩ | ⟨a, len, cap, m, n, D, Pl, rfl, hb, hl, hm, hmm, _, hel⟩
      · exact ⟨[], (⟨none, 0⟩, fun _ => u.dloc), rfl, .inr ⟨⟨Nat.le_refl 0, fun q => absurd q (Nat.lt_irrefl 0), fun q => by cases q⟩, fun i hi => absurd hi (Nat.not_lt_zero i)⟩, ⟨Nat.zero_le _, fun i hi => absurd hi (Nat.not_lt_zero i)⟩⟩
      · have hlm : len ≤ m := by rw [hmm]; split <;> omega
        have hex : ∀ i : Fin len, ∃ y : u.den × u.loc, (∃ c, W.cells? base (a.add (i.1 * u.size)) u.size = some c ∧ c = cells u y.1 y.2) ∧ memH W false u none y.1 y.2 ∧ goodV u y.1 := fun i => by
          obtain ⟨c, hc, ht⟩ := hel i.1 (Nat.lt_of_lt_of_le i.2 hlm)
          obtain ⟨y, loc, e1, m1, g1⟩ := ih.1 e he _ _ _ ht
          rw [T.cellsOf he] at hc
          exact ⟨(y, loc), ⟨c, hc, e1⟩, m1, g1⟩
        classical
        let f : Nat → u.den × u.loc := fun i => if hi : i < len then Classical.choose (hex ⟨i, hi⟩) else (u.dflt, u.dloc)
        have hf : ∀ i, i < len → (∃ c, W.cells? base (a.add (i * u.size)) u.size = some c ∧ c = cells u (f i).1 (f i).2) ∧ memH W false u none (f i).1 (f i).2 ∧ goodV u (f i).1 := fun i hi => by
          simp only [f, dif_pos hi]
          exact Classical.choose_spec (hex ⟨i, hi⟩)
        have hg : ∀ i, i < len → ((List.range len).map fun i => (f i).1).getD i u.dflt = (f i).1 := fun i hi => by
          rw [List.getD_eq_getElem?_getD, List.getElem?_map, List.getElem?_range hi]; rfl
        have hll : ((List.range len).map fun i => (f i).1).length = len := by simp
        refine ⟨(List.range len).map fun i => (f i).1, (⟨some a, cap⟩, fun i => (f i).2), by simp [cells], .inr ⟨⟨?_, fun hn => ?_, fun q => by cases q⟩, fun i hi => ?_⟩, ⟨?_, fun i hi => ?_⟩⟩
        · rw [hll]; exact hl
        · rw [hll] at hn
          obtain ⟨⟨c, hc, e1⟩, _⟩ := hf 0 hn
          obtain ⟨_, hcl, hcc⟩ := World.cells?_some hc
          have hz : a.add (0 * u.size) = a := by rw [Nat.zero_mul]; rfl
          have hz0 : a.add 0 = a := rfl
          have hcell : W.cell? a = c[0]? := by
            have := hcc 0 hsz
            rw [hz, hz0] at this
            exact this
          have hsm : (W.cell? a).isSome = true := by rw [hcell, List.getElem?_eq_getElem (by omega)]; rfl
          have hspot : a.spot = none := by
            unfold World.cell? at hsm
            split at hsm
            · split at hsm
              · cases hsm
              · rename_i h5
                simpa using h5
            · cases hsm
          have hblk : a.block < W.heap.size := by
            obtain ⟨v, hv⟩ := Option.isSome_iff_exists.1 hsm
            exact World.block_lt_of_cell? W _ hv
          obtain ⟨ab, ao, asp⟩ := a
          simp only at hspot hblk
          subst hspot
          refine ⟨ab, ao, rfl, hblk, ?_⟩
          unfold rowCells
          rw [hll]
          refine (rangeAt_flatMap _ _ (fun i => cells_length u _ _) len).2 (fun i hi j v hv => ?_)
          rw [hg i hi] at hv
          obtain ⟨⟨c, hc, e1⟩, _⟩ := hf i hi
          obtain ⟨_, hcl, hcc⟩ := World.cells?_some hc
          have hj : j < u.size := by rw [← e1] at hv; have := (List.getElem?_eq_some_iff.1 hv).1; omega
          have := hcc j hj
          rw [Addr.add_mid, Addr.add_mid, e1, hv] at this
          exact this
        · rw [hll] at hi
          simp only [sub]
          rw [hg i hi]
          exact (hf i hi).2.1
        · rw [hll]; omega
        · rw [hll] at hi
          rw [hg i hi]
          exact (hf i hi).2.2
    exact ⟨h1, single _ (fun _ _ => nofun) h1⟩

/-- An argument that is a slice. -/
theorem arg_row (T : TTok P E) {t e : TypeId} {u : Ty} (ht : E.TT t = some (.row e u)) {v : Value} {b0 : Nat} {dd : DataW H} {p : List MemPlace} (hv : Value.okWide P W .any b0 t v) (h : DataW.Trod enc P W base sp hd t v dd p) :
    ∃ A c l locs, v = .slice A (List.length l) c ∧ memH W false (.row e u) none l (⟨A, c⟩, locs) ∧ goodV (.row e u) l := by
  obtain ⟨a, len, cap, rfl⟩ := okWide_slice (T.row ht).1 hv
  obtain ⟨fuel, hf⟩ := h
  obtain ⟨y, loc, e1, m1, g1⟩ := (opn_all T (.row e u)).1 t ht _ _ _ hf
  obtain ⟨⟨A, c⟩, locs⟩ := loc
  simp only [Value.cells, cells, List.cons.injEq, Value.slice.injEq, and_true] at e1
  obtain ⟨rfl, rfl, rfl⟩ := e1
  exact ⟨_, _, y, locs, rfl, m1, g1⟩
/-- An argument that is a whole number. -/
theorem arg_int' (T : TTok P E) {t : TypeId} {k : IntKind} (ht : E.TT t = some (.int k)) {v : Value} {b0 : Nat} {dd : DataW H} {p : List MemPlace} (hv : Value.okWide P W .any b0 t v) (h : DataW.Trod enc P W base sp hd t v dd p) :
    ∃ n, v = .int k n ∧ (Lit.int k n).wf = true := by
  obtain ⟨a, rfl, _, _, w⟩ := open_int (T.int ht) hv h
  exact ⟨a, rfl, w⟩
/-- An argument that is a struct. -/
theorem arg_st (T : TTok P E) {t : TypeId} {b : Ty} (ht : E.TT t = some (.st b)) (hf : (Ty.st b).flat = true) {v : Value} {b0 : Nat} {dd : DataW H} {p : List MemPlace} (hv : Value.okWide P W .any b0 t v) (h : DataW.Trod enc P W base sp hd t v dd p) :
    ∃ y, v = toV (.st b) y ∧ okV (.st b) y ∧ goodV (.st b) y := by
  obtain ⟨fs, hu, _, _⟩ := T.st ht
  obtain ⟨cs, rfl, hsz⟩ := okWide_struct hu hv
  obtain ⟨fuel, hx⟩ := h
  obtain ⟨y, loc, e1, m1, g1⟩ := (opn_all T (.st b)).1 t ht _ _ _ hx
  refine ⟨y, ?_, ok_of_memH _ hf _ _ _ m1, g1⟩
  rw [cells_enc hf] at e1
  have e2 : cs.toList = encV (.st b) y := e1
  show Value.agg cs = .agg (encV (.st b) y).toArray
  rw [← e2]

/-- How an argument stands at the entry. -/
def EntryOk (W : World) : AV → Value → Prop
  | .val t x, v => t.flat = true ∧ okV t x ∧ v = toV t x
  | .obj false c, v => ∃ A cap locs, v = .slice A (List.length c.l) cap ∧ memH W false (.row c.e c.t) none c.l (⟨A, cap⟩, locs)
  | _, _ => False

theorem entry_ok : ∀ (avs : List AV) (vs : List Value) (i k : Nat), All2 (EntryOk W) avs vs → ∃ GL : List Gent, (intro [] i k avs).objs.length = GL.length ∧ (intro [] i k avs).slots.length = vs.length ∧
    ∀ OBJS gh, At OBJS gh k (intro [] i k avs).objs GL → All2 (SRel OBJS gh) (intro [] i k avs).slots vs ∧ ∀ j ob, (intro [] i k avs).objs[j]? = some ob → ∃ d, ob = some (.dat d) ∧ d.wr = false ∧ d.fresh = false ∧ d.hole = none ∧ memH W false (.row d.e d.t) none d.l (gh.G (k + j) d.t)
  | [], [], i, k, _ => ⟨[], rfl, rfl, fun _ _ _ => ⟨All2.nil _, fun j ob h => by simp [intro] at h⟩⟩
  | [], _ :: _, _, _, h => by have := h.1; simp at this
  | _ :: _, [], _, _, h => by have := h.1; simp at this
  | a :: avs, v :: vs, i, k, h => by
    obtain ⟨h1, h2⟩ := All2.cons_iff.1 h
    cases a with
    | val t x =>
      obtain ⟨GL, l1, l2, H⟩ := entry_ok avs vs (i + 1) k h2
      refine ⟨GL, l1, by show _ + 1 = _ + 1; exact congrArg (· + 1) l2, fun OBJS gh hat => ?_⟩
      obtain ⟨q1, q2⟩ := H OBJS gh hat
      exact ⟨All2.cons_iff.2 ⟨h1, q1⟩, q2⟩
    | obj p c =>
      cases p with
      | true => exact h1.elim
      | false =>
        obtain ⟨A, cap, locs, rfl, hm⟩ := h1
        obtain ⟨GL, l1, l2, H⟩ := entry_ok avs vs (i + 1) (k + 1) h2
        refine ⟨gent c.t (⟨A, cap⟩, locs) :: GL, by show _ + 1 = _ + 1; exact congrArg (· + 1) l1, by show _ + 1 = _ + 1; exact congrArg (· + 1) l2, fun OBJS gh hat => ?_⟩
        have hat0 := hat 0 _ _ (show (intro [] i k (.obj false c :: avs)).objs[0]? = some _ from rfl) rfl
        rw [Nat.add_zero] at hat0
        obtain ⟨t1, t2, t3⟩ := hat0
        obtain ⟨q1, q2⟩ := H OBJS gh (fun j ob e ho he => by
          have := hat (j + 1) ob e (by exact ho) he
          rw [show k + (j + 1) = k + 1 + j by omega] at this
          exact this)
        have hG : gh.G k c.t = (⟨A, cap⟩, locs) := by rw [t2]; exact gent_same _ _
        have hm' := hm.resolve_left (by simp [lent])
        refine ⟨All2.cons_iff.2 ⟨⟨⟨c.e, c.t, c.l, false, false, none⟩, _, _, _, _, datAt_ob.1 t1, fun _ => rfl, getPL_nil _ _ _ _ _, rfl, ?_⟩, q1⟩, fun j ob ho => ?_⟩
        · show SlV false c.t.size (gh.G k c.t).1 (List.length c.l) none _
          rw [hG]
          refine ⟨A, cap, rfl, by simp [Win.off, Win.lenN], hm'.1.le, fun hn => ?_, fun q => by cases q⟩
          obtain ⟨b, o, e1, _⟩ := hm'.1.at_ hn
          simp only at e1
          exact ⟨b, o, e1, by simp [Win.off, e1]⟩
        · cases j with
          | zero =>
            have ho : some (Ob.dat ⟨c.e, c.t, c.l, false, false, none⟩) = ob := Option.some.inj ho
            exact ⟨_, ho.symm, rfl, rfl, rfl, by rw [Nat.add_zero]; show memH W false (.row c.e c.t) none c.l (gh.G k c.t); rw [hG]; exact hm⟩
          | succ j =>
            obtain ⟨d, r1, r2, r3, r4, r5⟩ := q2 j ob ho
            exact ⟨d, r1, r2, r3, r4, by rw [show k + (j + 1) = k + 1 + j by omega]; exact r5⟩
    | _ => exact h1.elim

theorem entry_R {avs : List AV} {vs : List Value} (h : All2 (EntryOk W) avs vs) : ∃ gh, R (intro [] 0 0 avs).slots.length W ⟨[], pinsOf (intro [] 0 0 avs).objs gh⟩ ⟨(intro [] 0 0 avs).slots, (intro [] 0 0 avs).objs⟩ gh ⟨vs.toArray, []⟩ W := by
  obtain ⟨GL, l1, l2, H⟩ := entry_ok avs vs 0 0 h
  obtain ⟨q1, q2⟩ := H _ _ at_self
  have get : ∀ n ob, obAt (intro [] 0 0 avs).objs n = some ob → ∃ d, ob = .dat d ∧ d.wr = false ∧ d.fresh = false ∧ d.hole = none ∧ memH W false (.row d.e d.t) none d.l ((ghOf GL).G n d.t) := fun n ob ho => by
    have hlt := obAt_lt ho
    unfold obAt at ho
    rw [List.getD_eq_getElem?_getD, List.getElem?_eq_getElem hlt] at ho
    obtain ⟨d, e1, e2, e3, e4, e5⟩ := q2 n _ (List.getElem?_eq_getElem hlt)
    simp only [Option.getD_some] at ho
    rw [ho] at e1
    obtain rfl := Option.some.inj e1
    rw [Nat.zero_add] at e5
    exact ⟨d, rfl, e2, e3, e4, e5⟩
  have getD : ∀ n d, datAt (intro [] 0 0 avs).objs n = some d → d.wr = false ∧ d.fresh = false ∧ d.hole = none ∧ memH W false (.row d.e d.t) none d.l ((ghOf GL).G n d.t) := fun n d hd => by
    obtain ⟨d', e, r⟩ := get n _ (datAt_ob.2 hd)
    cases e
    exact r
  refine ⟨ghOf GL, rfl, rfl, by simp [l2], fun t ht => ?_, fun n d hd => ?_, fun n e k wn hb => ?_, fun n d hd hw => ?_, fun n d hd hw => ?_, Fr.refl _ _, fun q hq => ?_⟩
  · have ht2 : t < vs.length := by rw [← l2]; exact ht
    have := q1.2 t _ _ (List.getElem?_eq_getElem ht) (List.getElem?_eq_getElem ht2)
    rw [List.getD_eq_getElem?_getD, List.getElem?_eq_getElem ht]
    simp only [Option.getD_some]
    rw [show (vs.toArray.getD t undef) = vs[t] by simp [ht2]]
    exact this
  · obtain ⟨e2, e3, e4, e5⟩ := getD n d hd
    rw [e2, e4]
    exact e5
  · obtain ⟨d, e, _⟩ := get n _ hb
    cases e
  · rw [(getD n d hd).1] at hw; cases hw
  · rw [(getD n d hd).1] at hw; cases hw
  · obtain ⟨d, hd, e⟩ := pins_of hq
    rw [e]
    exact ⟨d, hd, rfl, rfl, rfl, (getD _ d hd).2.1, rfl, rfl⟩

/-- A law's call: it answers true, and what lay stays. -/
theorem Sound.law {f : FuncId} {A : Type} {dec : List AV → Option A} {fn : A → Option Bool} {enc : List AV → Bool → Res} (S : Sound P f (mkSig [] dec fn enc)) (henc : ∀ avs r, enc avs r = ⟨[.val .bool r], []⟩) {avs : List AV} {vs : List Value} (h : All2 (EntryOk W) avs vs) {x : A} (hd : dec avs = some x)
    {b : Bool} (hx : fn x = some b) : Calls P f vs.toArray W fun e W' => e = .returned (.bool b) ∧ Below W.heap.size W W' := by
  obtain ⟨gh, hR⟩ := entry_R h
  have := S.does avs ⟨[.val .bool b], []⟩ (by simp only [mkSig, hd, hx]; rw [← henc avs b]; rfl) vs W gh [] hR
  refine this.mono (fun e w' he => ?_)
  cases e with
  | returned v =>
    obtain ⟨objs', g', xs', vs', Rc, hou, _, rfl⟩ := he
    have fr := Rc.frame
    refine ⟨?_, fr.os, fr.tape, fr.output, fr.size, fun k hk => fr.block k hk List.not_mem_nil⟩
    have hall : All2 (SRel objs' g') xs' vs' := by
      have t1 := Rc.tm
      simp only [List.size_toArray] at t1
      refine ⟨t1.symm, fun i x y hx hy => ?_⟩
      have hi := (List.getElem?_eq_some_iff.1 hx).1
      have := Rc.slots i hi
      rw [List.getD_eq_getElem?_getD, hx] at this
      rw [show vs'.toArray.getD i undef = y by
        have hi2 := (List.getElem?_eq_some_iff.1 hy).1
        have e := (List.getElem?_eq_some_iff.1 hy).2
        simp [hi2, e]] at this
      exact this
    have hrel := plain_rel xs' vs' [] _ [.val .bool b] hall hou rfl [] g'
    · match vs', hrel with
      | [v'], hrel =>
        have := (hrel.2 0 _ _ rfl rfl).2.2
        show Ending.returned v' = _
        rw [this]
        rfl
      | [], hrel => have := hrel.1; simp at this
      | _ :: _ :: _, hrel => have := hrel.1; simp at this
  | panicked _ => exact he.elim
  | outgrown => exact he.elim
end
end Go.Proofs.Yteaodjahafgbcaa.G

namespace Go.Proofs.Yteaodjahafgbcaa.G
open Go
set_option linter.unusedVariables false

/-- A function's answer, where its condition holds. -/
noncomputable def cl {A B : Type} (P : A → Prop) (v : A → B) : A → Option B := fun x => open Classical in if P x then some (v x) else none
theorem cl_eq {A B : Type} {P : A → Prop} {v : A → B} {x : A} (h : P x) : cl P v x = some (v x) := by unfold cl; exact if_pos h
theorem cl_some {A B : Type} {P : A → Prop} {v : A → B} {x : A} {r : B} (h : cl P v x = some r) : P x ∧ v x = r := by
  unfold cl at h
  by_cases c : P x
  · rw [if_pos c] at h; exact ⟨c, Option.some.inj h⟩
  · rw [if_neg c] at h; cases h
/-- A function's answer, always. -/
def tot {A B : Type} (v : A → B) : A → Option B := fun x => some (v x)
theorem tot_eq {A B : Type} (v : A → B) (x : A) : tot v x = some (v x) := rfl
/-- A function of which nothing is asked. -/
theorem Sound.never {P : Program} {n : FuncId} {A B : Type} {muts : List Nat} {dec : List AV → Option A} {enc : List AV → B → Res} {f : A → Option B} (h : ∃ fn, P.funcs[n]? = some fn ∧ fn.name ≠ "runtime.NumGoroutine" ∧ fn.body.isNone = false) (hf : ∀ x, f x = none) : Sound P n (mkSig muts dec f enc) where
  fn := h
  does := fun avs r hr vs w gh MBb hR => by
    obtain ⟨x, y, h1, h2, rfl⟩ := mkSig_run hr
    rw [hf x] at h2
    cases h2
/-! ### Numbers -/
theorem w64 {n : Int} (h0 : -9223372036854775808 ≤ n) (h1 : n ≤ 9223372036854775807) : IntKind.i64.wrap n = n := IntWalk.i64_in n ⟨h0, h1⟩
theorem w64n {k : Nat} (h : k < 9223372036854775807) : IntKind.i64.wrap ((k : Int) + 1) = ((k + 1 : Nat) : Int) := by rw [w64 (by omega) (by omega)]; rfl
theorem getD_lt {β : Type} {l : List β} {k : Nat} {d : β} (h : k < l.length) : l.getD k d = l[k] := by
  rw [List.getD_eq_getElem?_getD, List.getElem?_eq_getElem h]; rfl
theorem drop_cons {β : Type} {l : List β} {k : Nat} (h : k < l.length) : l.drop k = l[k] :: l.drop (k + 1) := List.drop_eq_getElem_cons h
theorem big_lt {n : Nat} (h : n ≤ 4611686018427387903) : n < BIG := by unfold BIG; omega

/-! ### Loops -/
/-- A loop that runs down a list with what it has gathered. -/
theorem iter_fold {X α β γ : Type} {B : (X → Option α) → X → Option α} (l : List β) (emb : Nat → γ → X) (F : List β → γ → Option α) (I : Nat → γ → Prop)
    (hs : ∀ (k : Nat) (h : k < l.length) (c : γ) (rec : X → Option α), I k c → (∀ c', I (k + 1) c' → rec (emb (k + 1) c') = F (l.drop (k + 1)) c') → B rec (emb k c) = F (l[k] :: l.drop (k + 1)) c)
    (he : ∀ (c : γ) (rec : X → Option α), I l.length c → B rec (emb l.length c) = F [] c) :
    ∀ (j k : Nat) (c : γ) (fuel : Nat), k + j = l.length → j < fuel → I k c → iter B fuel (emb k c) = F (l.drop k) c
  | _, k, c, 0, _, hf, _ => absurd hf (Nat.not_lt_zero _)
  | 0, k, c, f + 1, hk, hf, hi => by
    obtain rfl : k = l.length := by omega
    rw [List.drop_length]
    exact he c _ hi
  | j + 1, k, c, f + 1, hk, hf, hi => by
    have hlt : k < l.length := by omega
    rw [drop_cons hlt]
    exact hs k hlt c _ hi (fun c' hi' => iter_fold l emb F I hs he j (k + 1) c' f (by omega) (by omega) hi')
/-- The same, from the start. -/
theorem iter_list {X α β γ : Type} {B : (X → Option α) → X → Option α} (l : List β) (emb : Nat → γ → X) (F : List β → γ → Option α) (I : Nat → γ → Prop) {x : X} {c : γ} (hx : emb 0 c = x) {fuel : Nat} (hf : l.length < fuel) (hi : I 0 c)
    (hs : ∀ (k : Nat) (h : k < l.length) (c : γ) (rec : X → Option α), I k c → (∀ c', I (k + 1) c' → rec (emb (k + 1) c') = F (l.drop (k + 1)) c') → B rec (emb k c) = F (l[k] :: l.drop (k + 1)) c)
    (he : ∀ (c : γ) (rec : X → Option α), I l.length c → B rec (emb l.length c) = F [] c) : iter B fuel x = F l c := by
  subst hx
  have := iter_fold l emb F I hs he l.length 0 c fuel (by omega) hf hi
  rwa [List.drop_zero] at this
/-- A search: the first element that is told, or the end. -/
def firstOr {α β : Type} (p : β → Bool) (yes : Nat → β → Option α) (no : Option α) : Nat → List β → Option α
  | _, [] => no
  | k, x :: l => cond (p x) (yes k x) (firstOr p yes no (k + 1) l)
theorem firstOr_const {α β : Type} (p : β → Bool) (y no : Option α) : ∀ (l : List β) (k : Nat), firstOr p (fun _ _ => y) no k l = cond (l.any p) y no
  | [], _ => rfl
  | x :: l, k => by
    rw [firstOr, firstOr_const p y no l, List.any_cons]
    cases p x <;> rfl
theorem iter_first {X α β : Type} {B : (X → Option α) → X → Option α} (l : List β) (emb : Nat → X) (p : β → Bool) (yes : Nat → β → Option α) (no : Option α) {x : X} (hx : emb 0 = x) {fuel : Nat} (hf : l.length < fuel)
    (hs : ∀ (k : Nat) (h : k < l.length) (rec : X → Option α), B rec (emb k) = cond (p l[k]) (yes k l[k]) (rec (emb (k + 1))))
    (he : ∀ rec, B rec (emb l.length) = no) : iter B fuel x = firstOr p yes no 0 l := by
  subst hx
  have key : ∀ (j k fuel : Nat), k + j = l.length → j < fuel → iter B fuel (emb k) = firstOr p yes no k (l.drop k) := by
    intro j
    induction j with
    | zero =>
      intro k fuel hk hf
      match fuel, hf with
      | f + 1, _ =>
        obtain rfl : k = l.length := by omega
        rw [List.drop_length]
        exact he _
    | succ j ih =>
      intro k fuel hk hf
      match fuel, hf with
      | f + 1, _ =>
        have hlt : k < l.length := by omega
        rw [drop_cons hlt, firstOr]
        show B (iter B f) (emb k) = _
        rw [hs k hlt, ih (k + 1) f (by omega) (by omega)]
  have := key l.length 0 fuel (by omega) hf
  rwa [List.drop_zero] at this
theorem sum_le {β : Type} (l : List (List β)) {x : List β} (h : x ∈ l) : x.length ≤ (l.map List.length).sum := by
  induction l with
  | nil => cases h
  | cons y l ih =>
    rw [List.map_cons, List.sum_cons]
    rcases List.mem_cons.1 h with rfl | h
    · omega
    · have := ih h; omega
/-- Rows of rows of some size. -/
def Bd {β : Type} (a : List (List β)) : Prop := a.length + (a.map List.length).sum ≤ 1073741824
theorem Bd.len {β : Type} {a : List (List β)} (h : Bd a) : a.length ≤ 1073741824 := by unfold Bd at h; omega
theorem Bd.row {β : Type} {a : List (List β)} (h : Bd a) {x : List β} (hx : x ∈ a) : x.length ≤ 1073741824 := by have := sum_le a hx; unfold Bd at h; omega
theorem Bd.at {β : Type} {a : List (List β)} (h : Bd a) {k : Nat} (hk : k < a.length) : a[k].length ≤ 1073741824 := h.row (List.getElem_mem hk)
/-- A list of some size. -/
def PL {β : Type} (l : List β) : Prop := l.length ≤ 1073741824
def PL1 {β γ : Type} (x : List β × γ) : Prop := x.1.length ≤ 1073741824
def Bd1 {β γ : Type} (x : List (List β) × γ) : Prop := Bd x.1
theorem Bd.pl {β : Type} {a : List (List β)} (h : Bd a) {k : Nat} (hk : k < a.length) : PL a[k] := h.at hk
theorem bneT {a b : Int} (h : a ≠ b) : (a != b) = true := by simpa using h
theorem bneF {a b : Int} (h : a = b) : (a != b) = false := by simpa using h
theorem beqT {a b : Int} (h : a = b) : (a == b) = true := by simpa using h
theorem beqF {a b : Int} (h : a ≠ b) : (a == b) = false := by simpa using h
theorem decT {p : Prop} [Decidable p] (h : p) : decide p = true := decide_eq_true h
theorem decF {p : Prop} [Decidable p] (h : ¬ p) : decide p = false := decide_eq_false h
end Go.Proofs.Yteaodjahafgbcaa.G
