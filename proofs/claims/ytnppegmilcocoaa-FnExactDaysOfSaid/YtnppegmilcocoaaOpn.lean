/- Arguments as plain data: a value that reads as data is a value of its kind. -/
import Derived.Test.YtnppegmilcocoaaWWords
import Derived.ProofKit
import Derived.OpenShut
import Derived.DataReads
import Derived.Deep.Slices
namespace Go.Proofs.Ytnppegmilcocoaa.Opn
open Go.ChangeShapes Go.WideShapes Go.RowKit Go.Deep Go.Proofs.YtnppegmilcocoaaW.PrintWords
section
variable {H : Type} {enc : TypeId × Value → H} {P : Program} {W : World} {base : Nat} {sp : Nat → Bool} {hd : Bool}

/-- Whatever of type t reads as data is of the kind d, and g holds of it. -/
def Opn (enc : TypeId × Value → H) (P : Program) (W : World) (base : Nat) (sp : Nat → Bool) (hd : Bool) (t : TypeId) {α : Type} (d : Kd α) (g : α → Prop) : Prop :=
  ∀ (fuel : Nat) (cs : List Value) (x : DataW H × List MemPlace), DataW.trod enc P W base sp hd fuel t cs = some x → ∃ a, d.K W a cs ∧ g a

theorem opn_int {t : TypeId} {k : IntKind} (ht : P.underlying t = some (.int k)) : Opn enc P W base sp hd t (Kd.int k) (fun n => (Lit.int k n).wf = true) := by
  intro fuel cs x h
  obtain ⟨n, rfl, _, hw⟩ := DataW.trod_int ht h
  exact ⟨n, rfl, hw⟩
theorem opn_bool {t : TypeId} (ht : P.underlying t = some .bool) : Opn enc P W base sp hd t Kd.bool (fun _ => True) := by
  intro fuel cs x h
  obtain ⟨n, rfl, _⟩ := DataW.trod_bool ht h
  exact ⟨n, rfl, trivial⟩
theorem opn_string {t : TypeId} (ht : P.underlying t = some .string) : Opn enc P W base sp hd t Kd.string (fun s => s.size ≤ maxLen) := by
  intro fuel cs x h
  obtain ⟨n, rfl, _, hw⟩ := DataW.trod_string ht h
  exact ⟨n, rfl, hw⟩
theorem opn_slice {t e : TypeId} {α : Type} {d : Kd α} {g : α → Prop} (ht : P.underlying t = some (.slice e)) (hsz : P.cellsOf e = d.sz) (h : Opn enc P W base sp hd e d g) :
    Opn enc P W base sp hd t (Kd.slice e d) (fun l => l.length ≤ maxLen ∧ ∀ x ∈ l, g x) := by
  intro fuel cs x hx
  rcases open_slice ht hx with ⟨rfl, _⟩ | ⟨a, len, cap, m, n, D, Pl, rfl, hb, hl, hm, hmm, _, hel⟩
  · exact ⟨[], ⟨none, 0, rfl, Nat.le_refl _, Kd.C_nil d W⟩, by simp, fun x hx => by cases hx⟩
  · have hlm : len ≤ m := by rw [hmm]; split <;> omega
    have hex : ∀ i : Fin len, ∃ y, (∃ c, W.cells? base (a.add (i.1 * P.cellsOf e)) (P.cellsOf e) = some c ∧ d.K W y c) ∧ g y := fun i => by
      obtain ⟨c, hc, ht⟩ := hel i.1 (Nat.lt_of_lt_of_le i.2 hlm)
      obtain ⟨y, hk, hg⟩ := h _ _ _ ht
      exact ⟨y, ⟨c, hc, hk⟩, hg⟩
    classical
    have hlen : (List.ofFn fun i : Fin len => Classical.choose (hex i)).length = len := by simp
    have hget : ∀ (j : Nat) (p : α), (List.ofFn fun i : Fin len => Classical.choose (hex i))[j]? = some p → (∃ c, W.cells? base (a.add (j * P.cellsOf e)) (P.cellsOf e) = some c ∧ d.K W p c) ∧ g p := by
      intro j p hj
      have hjl : j < len := by have := (List.getElem?_eq_some_iff.1 hj).1; rwa [hlen] at this
      rw [List.getElem?_ofFn, dif_pos hjl] at hj
      injection hj with hj
      subst hj
      exact Classical.choose_spec (hex ⟨j, hjl⟩)
    refine ⟨List.ofFn fun i : Fin len => Classical.choose (hex i), ⟨some a, cap, by rw [hlen], by rw [hlen]; exact hl, rfl, by rw [hlen]; unfold maxLen at hm; omega, fun _ => ⟨a, rfl, fun j p hj => ?_⟩⟩, by rw [hlen]; omega, fun x hx => ?_⟩
    · obtain ⟨⟨c, hc, hk⟩, _⟩ := hget j p hj
      obtain ⟨_, hcl, hcc⟩ := World.cells?_some hc
      refine ⟨c, hcl.trans hsz, hk, fun i u hu => ?_⟩
      have hi : i < P.cellsOf e := by have := (List.getElem?_eq_some_iff.1 hu).1; omega
      have := hcc i hi
      rw [Deep.add_add, hsz, hu] at this
      exact this
    · obtain ⟨j, hj⟩ := List.mem_iff_getElem?.1 hx
      exact (hget j x hj).2
/-- A struct's field. -/
theorem fld {t : TypeId} {fs : Array Field} {fuel : Nat} {cs : List Value} {x : DataW H × List MemPlace} (ht : P.underlying t = some (.struct fs)) (h : DataW.trod enc P W base sp hd fuel t cs = some x)
    (i : Nat) (f : Field) (hf : fs[i]? = some f) (o sz : Nat) (ho : f.offset = o) (hs : P.cellsOf f.type = sz) {α : Type} {d : Kd α} {g : α → Prop} (hO : Opn enc P W base sp hd f.type d g) : ∃ a, d.K W a ((cs.drop o).take sz) ∧ g a := by
  subst ho hs
  obtain ⟨xs, n, _, _, _, hxl, hall⟩ := DataW.trod_struct ht h
  have hi : i < xs.length := by rw [hxl]; exact (Array.getElem?_eq_some_iff.1 hf).1
  have := hall i f hf
  rw [List.getElem?_eq_getElem hi] at this
  exact hO _ _ _ this
theorem struct_len {t : TypeId} {fs : Array Field} {fuel : Nat} {cs : List Value} {x : DataW H × List MemPlace} (ht : P.underlying t = some (.struct fs)) (h : DataW.trod enc P W base sp hd fuel t cs = some x) : cs.length = P.cellsOf t := by
  obtain ⟨xs, n, _, _, hl, _⟩ := DataW.trod_struct ht h
  exact hl
theorem pair_at {α β : Type} {a : Kd α} {b : Kd β} {x : α} {y : β} {cs : List Value} {o s o' : Nat} (h1 : a.K W x ((cs.drop o).take s)) (ho : o' = o + s) (h2 : b.K W y (cs.drop o')) : (Kd.pair a b).K W (x, y) (cs.drop o) :=
  ⟨_, _, by rw [ho, ← List.drop_drop]; exact (List.take_append_drop s (cs.drop o)).symm, h1, h2⟩
theorem last_at {α : Type} {a : Kd α} {x : α} {cs : List Value} {o s : Nat} (h1 : a.K W x ((cs.drop o).take s)) (hl : cs.length ≤ o + s) : a.K W x (cs.drop o) := by
  rwa [List.take_of_length_le (by rw [List.length_drop]; omega)] at h1

/-! What an argument is. -/
theorem arg_int {t : TypeId} {k : IntKind} {v : Value} {b0 : Nat} {d : DataW H} {p : List MemPlace} (ht : P.underlying t = some (.int k)) (hv : Value.okWide P W .any b0 t v) (h : DataW.Trod enc P W base sp hd t v d p) : ∃ n, v = .int k n ∧ (Lit.int k n).wf = true := by
  obtain ⟨a, rfl, _, _, w⟩ := open_int ht hv h
  exact ⟨a, rfl, w⟩
theorem arg_slice {t e : TypeId} {v : Value} {b0 : Nat} {dd : DataW H} {p : List MemPlace} {α : Type} {d : Kd α} {g : List α → Prop} (ht : P.underlying t = some (.slice e)) (hv : Value.okWide P W .any b0 t v) (h : DataW.Trod enc P W base sp hd t v dd p)
    (hO : Opn enc P W base sp hd t (Kd.slice e d) g) : ∃ A c l, v = .slice A l.length c ∧ l.length ≤ c ∧ Kd.C d W A l.length l ∧ g l := by
  obtain ⟨a, len, cap, rfl⟩ := okWide_slice ht hv
  obtain ⟨fuel, hf⟩ := h
  obtain ⟨l, ⟨A, c, e1, hl, hC⟩, hg⟩ := hO _ _ _ hf
  simp only [Value.cells, List.cons.injEq, and_true] at e1
  exact ⟨A, c, l, e1, hl, hC, hg⟩
theorem arg_struct {t : TypeId} {fs : Array Field} {v : Value} {b0 : Nat} {dd : DataW H} {p : List MemPlace} {α : Type} {d : Kd α} {g : α → Prop} (ht : P.underlying t = some (.struct fs)) (hv : Value.okWide P W .any b0 t v) (h : DataW.Trod enc P W base sp hd t v dd p)
    (hO : Opn enc P W base sp hd t d g) : ∃ a cs, v = .agg cs ∧ d.K W a cs.toList ∧ g a := by
  obtain ⟨cs, rfl, hsz⟩ := okWide_struct ht hv
  obtain ⟨fuel, hf⟩ := h
  obtain ⟨a, hk, hg⟩ := hO _ _ _ hf
  exact ⟨a, cs, rfl, hk, hg⟩
end
end Go.Proofs.Ytnppegmilcocoaa.Opn
