/- Maps of bottles; the search of the first unfair bottle, walked. -/
import Derived.Test.YteaodjahafgbcaaProg
import Derived.Maps.Keyed
import Derived.Maps.OwnOps
import Derived.DeepKeys4
import Derived.WalkKit
import Derived.Carry
import Derived.KernelRfl
namespace Go.Proofs
open Go Go.Maps Go.RowKit
set_option linter.unusedVariables false
set_option linter.unusedSimpArgs false
set_option maxRecDepth 100000
theorem Try.mapLaid : laidOutB Try.prog = true := by kernel_rfl
theorem Try.mapRow : (50 : TypeId) < Try.prog.types.size := of_decide_eq_true (by kernel_rfl)
theorem Try.mapWide : (match Try.prog.underlying 50 with | some (.array _ _) | some (.struct _) => true | _ => false) = true := by rw [Try.underlying50]
theorem Try.law50 : Keyed Try.prog 50 := Keyed.of_law (deep_law_laid Try.mapLaid (m := 2) (by omega) Try.mapRow (by kernel_rfl) Try.mapWide)
theorem Try.zero2 (w : World) : (zeroValue 2).run Try.prog w = .ok (.int .i64 0) w := by kernel_rfl
def wBm (x : Int × Int) : Prop := 0 ≤ x.1 ∧ x.1 ≤ 255 ∧ -32768 ≤ x.2 ∧ x.2 ≤ 32767
def aggB (x : Int × Int) : Value := .agg #[.int .u8 x.1, .int .i16 x.2]
theorem aggB_inj {x y : Int × Int} (h : aggB x = aggB y) : x = y := by
  unfold aggB at h
  simp at h
  exact Prod.ext h.1 h.2
theorem Try.key50 {x : Int × Int} (h0 : 0 ≤ x.1) (h1 : x.1 ≤ 255) (h2 : -32768 ≤ x.2) (h3 : x.2 ≤ 32767) : ∃ l, keyOf Try.prog 50 (aggB x) = some l := by
  have hk : Try.prog.keyType 50 = true := by kernel_rfl
  have hf : (aggB x).formed Try.prog 50 = true := by
    have hc : Try.prog.cellsOf 50 = 2 := by kernel_rfl
    simp [aggB, Value.formed, Try.underlying50, hc]
  unfold keyOf
  rw [Try.underlying50]
  simp only [hk, hf, Bool.and_self, if_true]
  obtain ⟨n, hn⟩ : ∃ n, Try.prog.types.size + 1 = n + 2 := ⟨Try.prog.types.size - 1, by have h : (50 : Nat) < Try.prog.types.size := Try.mapRow; omega⟩
  rw [hn]
  have c50 : Try.prog.cellsOf 50 = 2 := by kernel_rfl
  have c5 : Try.prog.cellsOf 5 = 1 := by kernel_rfl
  have c47 : Try.prog.cellsOf 47 = 1 := by kernel_rfl
  have w1 : (Lit.int .u8 x.1).wf = true := by
    simp only [Lit.wf, IntKind.min, IntKind.max, IntKind.bits, IntKind.signed]
    simp
    exact ⟨h0, by omega⟩
  have w2 : (Lit.int .i16 x.2).wf = true := by
    simp only [Lit.wf, IntKind.min, IntKind.max, IntKind.bits, IntKind.signed]
    simp
    exact ⟨h2, by omega⟩
  have e : Try.prog.keyLits (n + 2) 50 (aggB x).cells.toList = some [.int .u8 x.1, .int .i16 x.2] := by
    show Try.prog.keyLits (n + 2) 50 [.int .u8 x.1, .int .i16 x.2] = _
    simp [Program.keyLits, Try.underlying50, Try.underlying5, Try.underlying47, c50, c5, c47, w1, w2]
  exact ⟨_, by rw [e]; rfl⟩
/-- What a map's block holds: for each bottle what is told of it. -/
def MapIs (w : World) (b n : Nat) (f : Int × Int → Option Int) : Prop :=
  ∃ es clock, w.heap[b]? = some (.map es clock) ∧ es.size ≤ n ∧ (∀ e, e ∈ es.toList → ∃ x v, wBm x ∧ e.key = aggB x ∧ e.val = .int .i64 v ∧ f x = some v) ∧ (∀ x v, f x = some v → ∃ e, e ∈ es.toList ∧ e.key = aggB x) ∧ es.toList.Pairwise fun e e' => e.key ≠ e'.key
theorem map_look {w : World} {b n : Nat} {f : Int × Int → Option Int} (h : MapIs w b n f) {x : Int × Int} (hx : wBm x) :
    (Instr.lookup 87 (.map (some b)) (aggB x) true).run Try.prog w = .ok (match f x with | some v => .tuple #[.int .i64 v, .bool true] | none => .tuple #[.int .i64 0, .bool false]) w := by
  obtain ⟨es, clock, hb, hn, h1, h2, h3⟩ := h
  obtain ⟨l, hl⟩ := Try.key50 hx.1 hx.2.1 hx.2.2.1 hx.2.2.2
  rcases Try.law50.find w hl es.toList (fun e he => by
    obtain ⟨y, v, hy, hk, _⟩ := h1 e he
    rw [hk]
    exact Try.key50 hy.1 hy.2.1 hy.2.2.1 hy.2.2.2) with ⟨q1, q2⟩ | ⟨j, e, q1, q2, q3⟩
  · have hf : f x = none := by
      cases hf : f x with
      | none => rfl
      | some v =>
        obtain ⟨e, he, hk⟩ := h2 x v hf
        exact absurd hk (q2 e he)
    rw [hf]
    simp [Instr.lookup, run_underlying Try.underlying87, MapKept.run_getObj_map hb, Try.law50.check w _ hl, q1, Try.zero2, Result.andThen]
  · obtain ⟨y, v, hy, hk, hv, hf⟩ := h1 e (List.mem_of_getElem? q2)
    obtain rfl : y = x := aggB_inj (hk.symm.trans q3)
    rw [hf]
    simp [Instr.lookup, run_underlying Try.underlying87, MapKept.run_getObj_map hb, Try.law50.check w _ hl, q1, hv, Result.andThen]
def setF (f : Int × Int → Option Int) (x : Int × Int) (v : Int) : Int × Int → Option Int := fun y => if y = x then some v else f y
theorem map_put {w : World} {b n : Nat} {f : Int × Int → Option Int} (h : MapIs w b n f) {x : Int × Int} (hx : wBm x) (v : Int) :
    ∃ o, (Instr.mapUpdate 87 (.map (some b)) (aggB x) (.int .i64 v)).run Try.prog w = .ok () { w with heap := w.heap.setIfInBounds b o } ∧ MapIs { w with heap := w.heap.setIfInBounds b o } b (n + 1) (setF f x v) := by
  obtain ⟨es, clock, hb, hn, h1, h2, h3⟩ := h
  obtain ⟨l, hl⟩ := Try.key50 hx.1 hx.2.1 hx.2.2.1 hx.2.2.2
  have hlt : b < w.heap.size := (Array.getElem?_eq_some_iff.1 hb).1
  have self : ∀ o : Obj, ({ w with heap := w.heap.setIfInBounds b o } : World).heap[b]? = some o := fun o => by simp [hlt]
  rcases Try.law50.find w hl es.toList (fun e he => by
    obtain ⟨y, v, hy, hk, _⟩ := h1 e he
    rw [hk]
    exact Try.key50 hy.1 hy.2.1 hy.2.2.1 hy.2.2.2) with ⟨q1, q2⟩ | ⟨j, e, q1, q2, q3⟩
  · refine ⟨.map (es.push ⟨aggB x, .int .i64 v, clock⟩) (clock + 1), ?_, _, _, self _, by simp; omega, ?_, ?_, ?_⟩
    · simp [Instr.mapUpdate, run_underlying Try.underlying87, MapKept.run_getObj_map hb, Try.law50.check w _ hl, q1, MapKept.run_setObj_map _ hb, Result.andThen]
    · intro e he
      simp only [Array.toList_push, List.mem_append, List.mem_singleton] at he
      rcases he with he | rfl
      · obtain ⟨y, u, hy, hk, hv, hf⟩ := h1 e he
        refine ⟨y, u, hy, hk, hv, ?_⟩
        unfold setF
        rw [if_neg (fun q => q2 e he (by rw [hk, q])), hf]
      · exact ⟨x, v, hx, rfl, rfl, if_pos rfl⟩
    · intro y u hu
      unfold setF at hu
      simp only [Array.toList_push, List.mem_append, List.mem_singleton]
      by_cases c : y = x
      · exact ⟨_, .inr rfl, by rw [c]⟩
      · rw [if_neg c] at hu
        obtain ⟨e, he, hk⟩ := h2 y u hu
        exact ⟨e, .inl he, hk⟩
    · rw [Array.toList_push, List.pairwise_append]
      refine ⟨h3, by simp, fun a ha b hb' => ?_⟩
      rw [List.mem_singleton] at hb'
      rw [hb']
      exact q2 a ha
  · obtain ⟨y, u, hy, hk, hv, hf⟩ := h1 e (List.mem_of_getElem? q2)
    obtain rfl : y = x := aggB_inj (hk.symm.trans q3)
    have hj : j < es.toList.length := (List.getElem?_eq_some_iff.1 q2).1
    have hej : es.toList[j] = e := (List.getElem?_eq_some_iff.1 q2).2
    have hes : es[j]? = some e := by rw [← Array.getElem?_toList]; exact q2
    have hmod : (es.modify j fun e => { e with key := aggB y, val := .int .i64 v }).toList = es.toList.set j { e with key := aggB y, val := .int .i64 v } := by
      rw [Array.toList_modify]
      refine List.ext_getElem? fun i => ?_
      rw [List.getElem?_modify, List.getElem?_set]
      by_cases c : j = i
      · subst c
        simp only [if_true]
        rw [if_pos hj, q2]
        rfl
      · simp only [if_neg c]
        cases es.toList[i]? <;> rfl
    refine ⟨.map (es.modify j fun e => { e with key := aggB y, val := .int .i64 v }) clock, ?_, _, _, self _, by simp; omega, ?_, ?_, ?_⟩
    · simp [Instr.mapUpdate, run_underlying Try.underlying87, MapKept.run_getObj_map hb, Try.law50.check w _ hl, q1, hes, q3, Try.law50.stays w hl, MapKept.run_setObj_map _ hb, Result.andThen]
    · intro e' he
      rw [hmod] at he
      obtain ⟨i, hi, rfl⟩ := List.mem_iff_getElem.1 he
      rw [List.length_set] at hi
      rw [List.getElem_set]
      by_cases c : j = i
      · rw [if_pos c]
        exact ⟨y, v, hy, rfl, rfl, if_pos rfl⟩
      · rw [if_neg c]
        obtain ⟨z, u', hz, hk', hv', hf'⟩ := h1 _ (List.getElem_mem hi)
        refine ⟨z, u', hz, hk', hv', ?_⟩
        unfold setF
        rw [if_neg (fun q => ?_), hf']
        have hne : es.toList[i].key ≠ es.toList[j].key := by
          rcases Nat.lt_or_gt_of_ne c with q' | q'
          · exact fun q'' => List.pairwise_iff_getElem.1 h3 j i hj hi q' q''.symm
          · exact List.pairwise_iff_getElem.1 h3 i j hi hj q'
        exact hne (by rw [hk', q, hej, hk])
    · intro z u' hu
      unfold setF at hu
      rw [hmod]
      by_cases c : z = y
      · exact ⟨_, List.mem_iff_getElem.2 ⟨j, by rw [List.length_set]; exact hj, rfl⟩, by rw [List.getElem_set_self, c]⟩
      · rw [if_neg c] at hu
        obtain ⟨e', he, hk'⟩ := h2 z u' hu
        obtain ⟨i, hi, rfl⟩ := List.mem_iff_getElem.1 he
        have hij : j ≠ i := fun q => by
          subst q
          rw [hej, hk] at hk'
          exact c (aggB_inj hk').symm
        exact ⟨_, List.mem_iff_getElem.2 ⟨i, by rw [List.length_set]; exact hi, rfl⟩, by rw [List.getElem_set_ne hij]; exact hk'⟩
    · rw [hmod]
      have hkeys : (es.toList.set j { e with key := aggB y, val := .int .i64 v }).map (·.key) = es.toList.map (·.key) := by
        rw [List.map_set]
        refine List.ext_getElem? fun i => ?_
        rw [List.getElem?_set]
        by_cases c : j = i
        · subst c
          rw [if_pos rfl, List.length_map, if_pos hj, List.getElem?_map, q2]
          simp [hk]
        · rw [if_neg c]
      rw [← List.pairwise_map (f := fun e : MapEntry => e.key) (R := fun a b => a ≠ b)] at h3 ⊢
      rw [hkeys]
      exact h3
/-! ### The closure 'see' -/
theorem wpList_look {w : World} {ops : Array Oper} {rest : List Oper} {o : Oper} {a : Act} {Q : Exit → Act → World → Prop} (hg : o.guard = none) (m x : Operand) (hop : o.op = Op.lookup 87 m x true) (b n : Nat) (f : Int × Int → Option Int)
    (hm : a.eval m = .map (some b)) (h : MapIs w b n f) (k : Int × Int) (hx : a.eval x = aggB k) (hw : wBm k)
    (hK : wpList Try.prog ops Q rest (a.put o.dst (match f k with | some v => .tuple #[.int .i64 v, .bool true] | none => .tuple #[.int .i64 0, .bool false])) w) : wpList Try.prog ops Q (o :: rest) a w := by
  refine wpList_plain hg fun K' hK' => ?_
  have hrun := map_look h hw
  unfold Oper.wp
  simp [execOp, hop, hm, hx, hrun, Result.andThen]
  exact hK' _ _ hK
theorem wpList_put {w : World} {ops : Array Oper} {rest : List Oper} {o : Oper} {a : Act} {Q : Exit → Act → World → Prop} (hg : o.guard = none) (m x v : Operand) (hop : o.op = Op.mapUpdate 87 m x v) (b n : Nat) (f : Int × Int → Option Int)
    (hm : a.eval m = .map (some b)) (h : MapIs w b n f) (k : Int × Int) (hx : a.eval x = aggB k) (hw : wBm k) (z : Int) (hv : a.eval v = .int .i64 z)
    (hK : ∀ o', MapIs { w with heap := w.heap.setIfInBounds b o' } b (n + 1) (setF f k z) → wpList Try.prog ops Q rest (a.put o.dst undef) { w with heap := w.heap.setIfInBounds b o' }) : wpList Try.prog ops Q (o :: rest) a w := by
  refine wpList_plain hg fun K' hK' => ?_
  obtain ⟨o', hrun, hm'⟩ := map_put h hw z
  unfold Oper.wp
  simp [execOp, hop, hm, hx, hv, hrun, Result.andThen]
  exact hK' _ _ (hK o' hm')
/-- All below is as it was, but for one block. -/
structure BelowX (B bm : Nat) (w w' : World) : Prop where
  os : w'.os = w.os
  tape : w'.tape = w.tape
  output : w'.output = w.output
  size : w.heap.size ≤ w'.heap.size
  block : ∀ k, k < B → k ≠ bm → w'.heap[k]? = w.heap[k]?
def seeF (f : Int × Int → Option Int) (x : Int × Int) (d : Int) : Int × Int → Option Int := match f x with
  | some v => if d < v then setF f x d else f
  | none => setF f x d
theorem mapIs_alloc {w : World} {b n : Nat} {f : Int × Int → Option Int} (h : MapIs w b n f) (o : Obj) : MapIs (w.alloc o) b n f := by
  obtain ⟨es, clock, hb, r⟩ := h
  refine ⟨es, clock, ?_, r⟩
  have hlt : b < w.heap.size := (Array.getElem?_eq_some_iff.1 hb).1
  show (w.heap.push o)[b]? = _
  rw [Array.getElem?_push, if_neg (by omega)]
  exact hb
theorem MapIs.mono {w : World} {b n m : Nat} {f : Int × Int → Option Int} (h : MapIs w b n f) (hn : n ≤ m) : MapIs w b m f := by
  obtain ⟨es, clock, hb, h0, r⟩ := h
  exact ⟨es, clock, hb, by omega, r⟩
theorem belowX_put (w : World) (bm : Nat) (o o' : Obj) : BelowX w.heap.size bm w { w.alloc o with heap := (w.alloc o).heap.setIfInBounds bm o' } := by
  refine ⟨rfl, rfl, rfl, ?_, fun k hk hne => ?_⟩
  · show w.heap.size ≤ ((w.heap.push o).setIfInBounds bm o').size
    simp
  · show ((w.heap.push o).setIfInBounds bm o')[k]? = _
    rw [Array.getElem?_setIfInBounds_ne (Ne.symm hne), Array.getElem?_push, if_neg (by omega)]
theorem belowX_alloc (w : World) (bm : Nat) (o : Obj) : BelowX w.heap.size bm w (w.alloc o) := by
  refine ⟨rfl, rfl, rfl, ?_, fun k hk hne => ?_⟩
  · show w.heap.size ≤ (w.heap.push o).size
    simp
  · show (w.heap.push o)[k]? = _
    rw [Array.getElem?_push, if_neg (by omega)]
def aggS (x : Int × Int) (d : Int) : Value := .agg #[.int .u8 x.1, .int .i16 x.2, .int .i16 d]
set_option maxHeartbeats 2000000 in
theorem see_calls (bl bm n : Nat) (f : Int × Int → Option Int) (x : Int × Int) (d : Int) (hx : wBm x) (hd : -32768 ≤ d ∧ d ≤ 32767) (w : World) (hcell : w.cell? ⟨bl, 0, none⟩ = some (.map (some bm))) (hm : MapIs w bm n f) :
    Calls Try.prog 62 #[aggS x d, .pointer (some ⟨bl, 0, none⟩)] w fun e w' => e = .returned (.tuple #[]) ∧ MapIs w' bm (n + 1) (seeF f x d) ∧ BelowX w.heap.size bm w w' := by
  have hm1 := mapIs_alloc hm (.cells #[.int .u8 x.1, .int .i16 x.2, .int .i16 d] 52)
  have hbl : bl < w.heap.size := World.block_lt_of_cell? w (a := ⟨bl, 0, none⟩) hcell
  have hc1 : (w.alloc (.cells #[.int .u8 x.1, .int .i16 x.2, .int .i16 d] 52)).cell? ⟨bl, 0, none⟩ = some (.map (some bm)) := by
    refine (World.cell?_of_block (w := w) (w' := w.alloc _) (a := ⟨bl, 0, none⟩) ?_).trans hcell
    show (w.heap.push _)[bl]? = _
    rw [Array.getElem?_push, if_neg (by omega)]
  unfold aggS
  go_enter Try.func62, Try.ntmps62
  go_wp2_with (first
    | (at_lookup; refine wpList_look rfl _ _ rfl bm n f rfl hm1 x rfl hx ?_)
    | (at_mapUpdate; refine wpList_put rfl _ _ _ rfl bm n f rfl hm1 x rfl hx _ rfl ?_; intro o' hm2))
  · rename_i v hv hlt
    go_end0
    refine ⟨rfl, ?_, belowX_put _ _ _ _⟩
    have e : seeF f x d = setF f x d := by unfold seeF; rw [hv]; exact if_pos hlt
    rw [e]
    exact hm2
  · rename_i v hv hlt
    go_end0
    refine ⟨rfl, ?_, belowX_alloc _ _ _⟩
    have e : seeF f x d = f := by unfold seeF; rw [hv]; exact if_neg (by omega)
    rw [e]
    exact hm1.mono (by omega)
  · rename_i hv
    go_end0
    refine ⟨rfl, ?_, belowX_put _ _ _ _⟩
    have e : seeF f x d = setF f x d := by unfold seeF; rw [hv]
    rw [e]
    exact hm2
/-! ### FirstUnfair -/
/-- The cells of what is stored. -/
def RowS (w : World) (A : Option Addr) (l : List ((Int × Int) × Int)) : Prop := 0 < l.length → ∃ b o, A = some ⟨b, o, none⟩ ∧ b < w.heap.size ∧
  ∀ i (h : i < l.length), w.cell? ⟨b, o + i * 3, none⟩ = some (.int .u8 l[i].1.1) ∧ w.cell? ⟨b, o + i * 3 + 1, none⟩ = some (.int .i16 l[i].1.2) ∧ w.cell? ⟨b, o + i * 3 + 2, none⟩ = some (.int .i16 l[i].2)
def seeAll (f : Int × Int → Option Int) (l : List ((Int × Int) × Int)) : Int × Int → Option Int := l.foldl (fun f s => seeF f s.1 s.2) f
def unfairGo (slack : Int) : List ((Int × Int) × Int) → Nat → Int → (Int × Int → Option Int) → Int
  | l, 0, out, _ => out
  | l, i + 1, out, f => unfairGo slack l i (match f (l.getD i ((0, 0), 0)).1 with
      | some day => if day + slack < (l.getD i ((0, 0), 0)).2 then (i : Int) else out
      | none => out) (seeF f (l.getD i ((0, 0), 0)).1 (l.getD i ((0, 0), 0)).2)
def wSt (s : (Int × Int) × Int) : Prop := wBm s.1 ∧ -32768 ≤ s.2 ∧ s.2 ≤ 32767
theorem BelowX.cell {B bm : Nat} {w w' : World} (h : BelowX B bm w w') {a : Addr} (h1 : a.block < B) (h2 : a.block ≠ bm) : w'.cell? a = w.cell? a := World.cell?_of_block (h.block _ h1 h2)
theorem BelowX.trans {B bm : Nat} {a b c : World} (h : BelowX B bm a b) (k : BelowX B bm b c) : BelowX B bm a c :=
  ⟨k.os.trans h.os, k.tape.trans h.tape, k.output.trans h.output, Nat.le_trans h.size k.size, fun i hi hm => (k.block i hi hm).trans (h.block i hi hm)⟩
theorem BelowX.mono {B C bm : Nat} {a b : World} (h : BelowX C bm a b) (hB : B ≤ C) : BelowX B bm a b := ⟨h.os, h.tape, h.output, h.size, fun i hi hm => h.block i (by omega) hm⟩
theorem BelowX.refl (B bm : Nat) (w : World) : BelowX B bm w w := ⟨rfl, rfl, rfl, Nat.le_refl _, fun _ _ _ => rfl⟩
theorem seeAll_take (f : Int × Int → Option Int) (l : List ((Int × Int) × Int)) {k : Nat} (h : k < l.length) : seeAll f (l.take (k + 1)) = seeF (seeAll f (l.take k)) l[k].1 l[k].2 := by
  unfold seeAll
  rw [List.take_succ_eq_append_getElem h, List.foldl_append]
  rfl
def FV (f : Int × Int → Option Int) : Prop := ∀ x v, f x = some v → -32768 ≤ v ∧ v ≤ 32767
theorem seeF_fv {f : Int × Int → Option Int} (h : FV f) (x : Int × Int) {d : Int} (hd : -32768 ≤ d ∧ d ≤ 32767) : FV (seeF f x d) := by
  have hs : FV (setF f x d) := fun y v hv => by
    unfold setF at hv
    split at hv
    · obtain rfl := Option.some.inj hv
      exact hd
    · exact h y v hv
  unfold seeF
  split
  · split
    · exact hs
    · exact h
  · exact hs
theorem seeAll_fv (l : List ((Int × Int) × Int)) (hl : ∀ s, s ∈ l → wSt s) : ∀ (f : Int × Int → Option Int), FV f → FV (seeAll f l) := by
  induction l with
  | nil => intro f h; exact h
  | cons s l ih => intro f h; exact ih (fun x hx => hl x (List.mem_cons_of_mem _ hx)) _ (seeF_fv h _ (hl s (List.mem_cons_self ..)).2)
def fuRes (code o : Int) : Array Value := if code = 0 then (if o < 0 then #[.int .i64 0, .int .i64 6] else #[.int .i64 o, .int .i64 0]) else #[.int .i64 0, .int .i64 code]
theorem wpList_look_some {w : World} {ops : Array Oper} {rest : List Oper} {o : Oper} {a : Act} {Q : Exit → Act → World → Prop} (hg : o.guard = none) (m x : Operand) (hop : o.op = Op.lookup 87 m x true) (b n : Nat) (f : Int × Int → Option Int)
    (hm : a.eval m = .map (some b)) (h : MapIs w b n f) (k : Int × Int) (hx : a.eval x = aggB k) (hw : wBm k) (v : Int) (hf : f k = some v)
    (hK : wpList Try.prog ops Q rest (a.put o.dst (.tuple #[.int .i64 v, .bool true])) w) : wpList Try.prog ops Q (o :: rest) a w :=
  wpList_look hg m x hop b n f hm h k hx hw (by rw [hf]; exact hK)
theorem wpList_look_none {w : World} {ops : Array Oper} {rest : List Oper} {o : Oper} {a : Act} {Q : Exit → Act → World → Prop} (hg : o.guard = none) (m x : Operand) (hop : o.op = Op.lookup 87 m x true) (b n : Nat) (f : Int × Int → Option Int)
    (hm : a.eval m = .map (some b)) (h : MapIs w b n f) (k : Int × Int) (hx : a.eval x = aggB k) (hw : wBm k) (hf : f k = none)
    (hK : wpList Try.prog ops Q rest (a.put o.dst (.tuple #[.int .i64 0, .bool false])) w) : wpList Try.prog ops Q (o :: rest) a w :=
  wpList_look hg m x hop b n f hm h k hx hw (by rw [hf]; exact hK)
theorem go_some {slack : Int} {l : List ((Int × Int) × Int)} {i : Nat} (hi : i < l.length) {out : Int} {f : Int × Int → Option Int} {v : Int} (hf : f l[i].1 = some v) :
    unfairGo slack l (i + 1) out f = unfairGo slack l i (if v + slack < l[i].2 then (i : Int) else out) (seeF f l[i].1 l[i].2) := by
  rw [unfairGo]
  simp [List.getD_eq_getElem?_getD, List.getElem?_eq_getElem hi, hf]
theorem go_none {slack : Int} {l : List ((Int × Int) × Int)} {i : Nat} (hi : i < l.length) {out : Int} {f : Int × Int → Option Int} (hf : f l[i].1 = none) :
    unfairGo slack l (i + 1) out f = unfairGo slack l i out (seeF f l[i].1 l[i].2) := by
  rw [unfairGo]
  simp [List.getD_eq_getElem?_getD, List.getElem?_eq_getElem hi, hf]
set_option maxHeartbeats 8000000 in
theorem fu_calls (A1 A2 : Option Addr) (c1 c2 : Nat) (taken left : List ((Int × Int) × Int)) (slack : Int) (w : World) (h1 : RowS w A1 taken) (h2 : RowS w A2 left) (hw1 : ∀ s, s ∈ taken → wSt s) (hw2 : ∀ s, s ∈ left → wSt s)
    (hl1 : taken.length ≤ 1073741824) (hl2 : left.length ≤ 1073741824) (okT okL okS : Bool) (code : Int)
    (hcode : code = 0 → (okT && okL) = true) (hsl : code = 0 → 0 ≤ slack ∧ slack ≤ 2000)
    (hT : ∀ w', Go.RowKit.Below w.heap.size w w' → Calls Try.prog 60 #[.slice A1 taken.length c1] w' fun e w'' => e = .returned (.bool okT) ∧ Go.RowKit.Below w'.heap.size w' w'')
    (hL : ∀ w', Go.RowKit.Below w.heap.size w w' → Calls Try.prog 60 #[.slice A2 left.length c2] w' fun e w'' => e = .returned (.bool okL) ∧ Go.RowKit.Below w'.heap.size w' w'')
    (hS : ∀ w', Calls Try.prog 61 #[.int .i64 slack] w' fun e w'' => e = .returned (.bool okS) ∧ Go.RowKit.Below w'.heap.size w' w'')
    (hC : ∀ w', Calls Try.prog 59 #[.bool (okT && okL), .bool okS] w' fun e w'' => e = .returned (.int .i64 code) ∧ Go.RowKit.Below w'.heap.size w' w'') :
    Calls Try.prog 13 #[.slice A1 taken.length c1, .slice A2 left.length c2, .int .i64 slack] w fun e w' => Go.RowKit.Below w.heap.size w w' ∧ e = .returned (.tuple (fuRes code (unfairGo slack taken taken.length (-1) (seeAll (fun _ => none) left)))) := by
  have hmm := @run_makeMap Try.prog
  cases okT
  · simp only [Bool.false_and] at hC
    have hcode : code ≠ 0 := fun q => Bool.false_ne_true (by simpa using hcode q)
    go_enter Try.func13, Try.ntmps13
    go_wp2_with (first
      | (go_at_call 60; refine (hT _ (Below.refl _ _)).mono ?_; rintro e w1 ⟨rfl, hb1⟩)
      | (go_at_call 61; refine (hS _).mono ?_; rintro e w3 ⟨rfl, hb3⟩)
      | (go_at_call 59; refine (hC _).mono ?_; rintro e w4 ⟨rfl, hb4⟩))
    go_ret2
    refine ⟨hb1.trans ((hb3.mono hb1.size).trans (hb4.mono (Nat.le_trans hb1.size hb3.size))), ?_⟩
    unfold fuRes
    rw [if_neg hcode]
    rfl
  · simp only [Bool.true_and] at hC
    go_enter Try.func13, Try.ntmps13
    go_wp2_with (first
      | (go_at_call 60; first | (refine (hT _ (Below.refl _ _)).mono ?_; rintro e w1 ⟨rfl, hb1⟩) | (refine (hL _ hb1).mono ?_; rintro e w2 ⟨rfl, hb2⟩))
      | (go_at_call 61; refine (hS _).mono ?_; rintro e w3 ⟨rfl, hb3⟩)
      | (go_at_call 59; refine (hC _).mono ?_; rintro e w4 ⟨rfl, hb4⟩))
    · rename_i hne
      have hne : code ≠ 0 := by simpa using hne
      go_ret2
      refine ⟨?_, ?_⟩
      · first
        | exact hb1.trans ((hb2.mono hb1.size).trans ((hb3.mono (Nat.le_trans hb1.size hb2.size)).trans (hb4.mono (Nat.le_trans hb1.size (Nat.le_trans hb2.size hb3.size)))))
      · unfold fuRes
        rw [if_neg hne]
        rfl
    · rename_i hne _ _
      have hcode0 : code = 0 := by simpa using hne
      subst hcode0
      have hslk := hsl rfl
      rw [show ((0 : Int) != 0) = false from rfl]
      have hb : Below w.heap.size w w4 := hb1.trans ((hb2.mono hb1.size).trans ((hb3.mono (Nat.le_trans hb1.size hb2.size)).trans (hb4.mono (Nat.le_trans hb1.size (Nat.le_trans hb2.size hb3.size)))))
      have hW0 : Below w.heap.size w ((w4.alloc (.map #[] 0)).alloc (.cells #[.map (some w4.heap.size)] 87)) := (hb.alloc hb.size _).alloc (Nat.le_trans hb.size (by simp)) _
      have hmap0 : MapIs ((w4.alloc (.map #[] 0)).alloc (.cells #[.map (some w4.heap.size)] 87)) w4.heap.size 0 (fun _ => none) := by
        refine ⟨#[], 0, ?_, by simp, by simp, by simp, by simp⟩
        show ((w4.heap.push (.map #[] 0)).push _)[w4.heap.size]? = _
        rw [Array.getElem?_push, if_neg (by simp), Array.getElem?_push, if_pos rfl]
      have hcW : ((w4.alloc (.map #[] 0)).alloc (.cells #[.map (some w4.heap.size)] 87)).cell? ⟨w4.heap.size + 1, 0, none⟩ = some (.map (some w4.heap.size)) := by
        have e : ((w4.alloc (.map #[] 0)).alloc (.cells #[.map (some w4.heap.size)] 87)).heap[w4.heap.size + 1]? = some (.cells #[.map (some w4.heap.size)] 87 (0, 0)) := by
          show ((w4.heap.push (.map #[] 0)).push _)[w4.heap.size + 1]? = _
          rw [Array.getElem?_push, if_pos (by simp)]
        simp only [World.cell?]
        rw [e]
        rfl
      have hsW : ((w4.alloc (.map #[] 0)).alloc (.cells #[.map (some w4.heap.size)] 87)).heap.size = w4.heap.size + 2 := by
        show ((w4.heap.push (.map #[] 0)).push _).size = _
        simp
      generalize hWd : ((w4.alloc (.map #[] 0)).alloc (.cells #[.map (some w4.heap.size)] 87)) = W at *
      go_loopw [34] (fun i wr => ∃ k : Nat, k ≤ left.length ∧ i = .int .i64 k ∧ MapIs wr w4.heap.size k (seeAll (fun _ => none) (left.take k)) ∧ BelowX W.heap.size w4.heap.size W wr)
        (fun i _ => left.length - (intOf i).toNat)
      case atStart => exact ⟨0, Nat.zero_le _, rfl, hmap0, BelowX.refl _ _ _⟩
      case round =>
        obtain ⟨k, hk, rfl, hm, hx⟩ := hrel
        have hcb : wr.cell? ⟨w4.heap.size + 1, 0, none⟩ = some (.map (some w4.heap.size)) := (hx.cell (a := ⟨w4.heap.size + 1, 0, none⟩) (by show w4.heap.size + 1 < W.heap.size; omega) (by show w4.heap.size + 1 ≠ w4.heap.size; omega)).trans hcW
        by_cases hlt : k < left.length
        · obtain ⟨b, o, rfl, hbl, hcl⟩ := h2 (by omega)
          obtain ⟨e1, e2, e3⟩ := hcl k hlt
          have tr : ∀ j, wr.cell? ⟨b, j, none⟩ = w.cell? ⟨b, j, none⟩ := fun j => (hx.cell (a := ⟨b, j, none⟩) (by show b < W.heap.size; have := hb.size; omega) (by show b ≠ w4.heap.size; have := hb.size; omega)).trans (Below.cell hW0 (p := ⟨b, j, none⟩) (by exact hbl))
          have f1 := (tr (o + k * 3)).trans e1
          have f2 := (tr (o + k * 3 + 1)).trans e2
          have f3 := (tr (o + k * 3 + 2)).trans e3
          have hwk := hw2 _ (List.getElem_mem hlt)
          have hm1 := mapIs_alloc hm (.cells #[.int .u8 left[k].1.1, .int .i16 left[k].1.2, .int .i16 left[k].2] 52)
          have hc1 : (wr.alloc (.cells #[.int .u8 left[k].1.1, .int .i16 left[k].1.2, .int .i16 left[k].2] 52)).cell? ⟨w4.heap.size + 1, 0, none⟩ = some (.map (some w4.heap.size)) := by
            refine (World.cell?_of_block (w := wr) (a := ⟨w4.heap.size + 1, 0, none⟩) ?_).trans hcb
            show (wr.heap.push _)[w4.heap.size + 1]? = _
            rw [Array.getElem?_push, if_neg (by have := hx.size; omega)]
          have hsee := see_calls (w4.heap.size + 1) w4.heap.size k _ left[k].1 left[k].2 hwk.1 hwk.2 _ hc1 hm1
          unfold aggS at hsee
          go_wp2_with (go_at_call 62; refine hsee.mono ?_; rintro e w5 ⟨rfl, hm5, hx5⟩)
          go_roundw
          case rel =>
            refine ⟨k + 1, by omega, by go_num, ?_, ?_⟩
            · rw [seeAll_take _ _ hlt]
              exact hm5
            · exact hx.trans (((belowX_alloc wr w4.heap.size _).trans (hx5.mono (by have := (belowX_alloc wr w4.heap.size (.cells #[.int .u8 left[k].1.1, .int .i16 left[k].1.2, .int .i16 left[k].2] 52)).size; omega))).mono hx.size)
          case measure => simp [intOf]; omega
        · have hk2 : k = left.length := by omega
          subst hk2
          rw [List.take_length] at hm
          go_wp2
          have hfv := seeAll_fv left hw2 (fun _ => none) (fun x v q => nomatch q)
          have hma := hm
          have hxa := hx
          clear hm hx
          generalize hf0 : seeAll (fun _ => none) left = f0 at *
          go_loopw [13, 14] (fun o i wr => ∃ (k : Nat) (out : Int) (f : Int × Int → Option Int) (nn : Nat), k ≤ taken.length ∧ o = .int .i64 out ∧ i = .int .i64 ((k : Int) - 1) ∧ FV f ∧ MapIs wr w4.heap.size nn f ∧ BelowX W.heap.size w4.heap.size W wr ∧
              unfairGo slack taken k out f = unfairGo slack taken taken.length (-1) f0)
            (fun o i _ => (intOf i + 1).toNat)
          case atStart => exact ⟨taken.length, -1, f0, _, Nat.le_refl _, rfl, rfl, hfv, hma, hxa, rfl⟩
          case round =>
            obtain ⟨k, out, f, nn, hk, rfl, rfl, hfv1, hm, hx, hgo⟩ := hrel
            have hcb : wr.cell? ⟨w4.heap.size + 1, 0, none⟩ = some (.map (some w4.heap.size)) := (hx.cell (a := ⟨w4.heap.size + 1, 0, none⟩) (by show w4.heap.size + 1 < W.heap.size; omega) (by show w4.heap.size + 1 ≠ w4.heap.size; omega)).trans hcW
            cases k with
            | zero =>
              have hgo0 : out = unfairGo slack taken taken.length (-1) f0 := hgo
              have hfin : Below w.heap.size w wr := by
                refine ⟨hx.os.trans hW0.os, hx.tape.trans hW0.tape, hx.output.trans hW0.output, Nat.le_trans hW0.size hx.size, fun k hk => ?_⟩
                exact (hx.block k (by have := hb.size; omega) (by have := hb.size; omega)).trans (hW0.block k hk)
              subst hgo0
              go_wp2
              · rename_i hneg
                go_ret2
                refine ⟨hfin, ?_⟩
                rw [hf0]
                unfold fuRes
                rw [if_pos rfl, if_pos hneg]
                rfl
              · rename_i hneg
                go_ret2
                refine ⟨hfin, ?_⟩
                rw [hf0]
                unfold fuRes
                rw [if_pos rfl, if_neg (by omega)]
                rfl
            | succ i =>
              have hlt : i < taken.length := by omega
              rw [show ((i + 1 : Nat) : Int) - 1 = (i : Int) from by omega]
              obtain ⟨b, o, rfl, hbl, hcl⟩ := h1 (by omega)
              obtain ⟨e1, e2, e3⟩ := hcl i hlt
              have tr : ∀ j, wr.cell? ⟨b, j, none⟩ = w.cell? ⟨b, j, none⟩ := fun j => (hx.cell (a := ⟨b, j, none⟩) (by show b < W.heap.size; have := hb.size; omega) (by show b ≠ w4.heap.size; have := hb.size; omega)).trans (Below.cell hW0 (p := ⟨b, j, none⟩) (by exact hbl))
              have f1 := (tr (o + i * 3)).trans e1
              have f2 := (tr (o + i * 3 + 1)).trans e2
              have f3 := (tr (o + i * 3 + 2)).trans e3
              have hwk := hw1 _ (List.getElem_mem hlt)
              have hm1 := mapIs_alloc hm (.cells #[.int .u8 taken[i].1.1, .int .i16 taken[i].1.2, .int .i16 taken[i].2] 52)
              have hc1 : (wr.alloc (.cells #[.int .u8 taken[i].1.1, .int .i16 taken[i].1.2, .int .i16 taken[i].2] 52)).cell? ⟨w4.heap.size + 1, 0, none⟩ = some (.map (some w4.heap.size)) := by
                refine (World.cell?_of_block (w := wr) (a := ⟨w4.heap.size + 1, 0, none⟩) ?_).trans hcb
                show (wr.heap.push _)[w4.heap.size + 1]? = _
                rw [Array.getElem?_push, if_neg (by have := hx.size; omega)]
              have hsee := see_calls (w4.heap.size + 1) w4.heap.size nn _ taken[i].1 taken[i].2 hwk.1 hwk.2 _ hc1 hm1
              unfold aggS at hsee
              have hbx := belowX_alloc wr w4.heap.size (.cells #[.int .u8 taken[i].1.1, .int .i16 taken[i].1.2, .int .i16 taken[i].2] 52)
              have hdd := hwk.2
              cases hfx : f taken[i].1 with
              | none =>
                go_wp2_with (first
                  | (at_lookup; refine wpList_look_none rfl _ _ rfl _ nn f rfl hm1 taken[i].1 rfl hwk.1 hfx ?_)
                  | (go_at_call 62; refine hsee.mono ?_; rintro e w5 ⟨rfl, hm5, hx5⟩))
                go_roundw
                case rel =>
                  refine ⟨i, out, _, _, by omega, rfl, rfl, seeF_fv hfv1 _ hwk.2, hm5, hx.trans ((hbx.trans (hx5.mono hbx.size)).mono hx.size), ?_⟩
                  rw [← hgo, go_none hlt hfx]
                case measure => simp only [intOf]; omega
              | some v =>
                have hvv := hfv1 _ _ hfx
                go_wp2_with (first
                  | (at_lookup; refine wpList_look_some rfl _ _ rfl _ nn f rfl hm1 taken[i].1 rfl hwk.1 v hfx ?_)
                  | (go_at_call 62; refine hsee.mono ?_; rintro e w5 ⟨rfl, hm5, hx5⟩))
                · rename_i hday _ _ _
                  go_roundw
                  case rel =>
                    refine ⟨i, _, _, _, by omega, rfl, rfl, seeF_fv hfv1 _ hwk.2, hm5, hx.trans ((hbx.trans (hx5.mono hbx.size)).mono hx.size), ?_⟩
                    rw [← hgo, go_some hlt hfx, if_pos (by assumption)]
                  case measure => simp only [intOf]; omega
                · go_roundw
                  case rel =>
                    refine ⟨i, _, _, _, by omega, rfl, rfl, seeF_fv hfv1 _ hwk.2, hm5, hx.trans ((hbx.trans (hx5.mono hbx.size)).mono hx.size), ?_⟩
                    rw [← hgo, go_some hlt hfx, if_neg (by omega)]
                  case measure => simp only [intOf]; omega
end Go.Proofs
