/- A row behind walks: the reference turns it walker by walker, the program adds up first; both come to the same eighths. -/
import Derived.Test.YtnppegmilcocoaaHEight
import Derived.Test.YtnppegmilcocoaaHVisits
import Derived.Test.YtnppegmilcocoaaHValid
import Derived.Test.YtnppegmilcocoaaPaf30
import Derived.Test.YtnppegmilcocoaaPaf40
namespace Go.Proofs.Ytnppegmilcocoaa.Pure
open Go.RowKit Go.Proofs.Ytnppegmilcocoaa.Pa Go.Proofs.YtnppegmilcocoaaW.PrintWords Go.Proofs.YtnppegmilcocoaaW.PrintLast Go.Proofs.Ytnppegmilcocoaa.Com

/-- What is used of a walker that was looked at. -/
def wOk (b : Int) (x : S51) : Prop :=
  ((0 ≤ wrap64 x.f0 ∧ wrap64 x.f0 ≤ 10000) ∧ (1 ≤ wrap64 x.f1 ∧ wrap64 x.f1 ≤ 100) ∧ (0 ≤ wrap64 x.f2 ∧ wrap64 x.f2 ≤ b - 1) ∧ (0 ≤ wrap64 x.f3 ∧ wrap64 x.f3 ≤ 60) ∧ (1 ≤ wrap64 x.f4 ∧ wrap64 x.f4 ≤ 60) ∧ (-7 ≤ wrap64 x.f5 ∧ wrap64 x.f5 ≤ 7)) ∧ (Lit.int .i16 x.f4).wf = true
/-- How often a walk comes to a place. -/
def visAt (b : Int) (x : S51) (i : Nat) : Int := rd (visitsOf b (wrap64 x.f2) (wrap64 x.f3) (wrap64 x.f4)) (i : Int)
/-- How far a place is turned, where each walker comes f times. -/
def turnSum (b : Int) (f : S51 → Int) (j : Nat) : List S51 → Int
  | [] => 0
  | x :: l => f x * visAt b x j * wrap64 x.f5 + turnSum b f j l
theorem vis_both (k : Nat) (b : Int) (x : S51) (hk : 100 < k) (hb : 1 ≤ b ∧ b ≤ 60) (hx : wOk b x) :
    spec_l05Visits.f k b x.f0 x.f1 x.f2 x.f3 x.f4 x.f5 = some (visitsOf b (wrap64 x.f2) (wrap64 x.f3) (wrap64 x.f4)) ∧ impl_Walker_visits.f k x.f0 x.f1 x.f2 x.f3 x.f4 x.f5 b = some (visitsOf b (wrap64 x.f2) (wrap64 x.f3) (wrap64 x.f4)) :=
  visits_is k x.f0 x.f1 x.f2 x.f3 x.f4 x.f5 b hk hb hx.1.2.2.1 hx.1.2.2.2.1 hx.1.2.2.2.2.1 hx.2
/-- The reference's turning of a row by one walker. -/
theorem turned_is (k : Nat) (n : Nat) (F : Nat → Int) (x : S51) (c : Int) (hk : 200 < k) (hn : 1 ≤ n ∧ n ≤ 60) (hx : wOk n x) :
    spec_l05Turned.f k (rowBy n F) x.f0 x.f1 x.f2 x.f3 x.f4 x.f5 c = some (rowBy n (fun j => (F j + c * visAt n x j * wrap64 x.f5) % 8)) := by
  unfold spec_l05Turned.f
  rw [rowBy_length, (vis_both k n x (by omega) (by omega) hx).1]
  simp only [Option.bind_some, List.nil_append, List.length_nil]
  rw [if_pos (by omega)]
  have hv : (visitsOf (n : Int) (wrap64 x.f2) (wrap64 x.f3) (wrap64 x.f4)).length = n := by rw [visitsOf_length]; omega
  refine (set_loop0 (n := n) (L := fun k r i => spec_l05Turned.l0 k c r (visitsOf (n : Int) (wrap64 x.f2) (wrap64 x.f3) (wrap64 x.f4)) i x.f0 x.f1 x.f2 x.f3 x.f4 x.f5) (E := fun _ r => some r) (g := fun j y => (y + c * visAt n x j * wrap64 x.f5) % 8) (by omega) (fun k F => ?_) (fun k F i h0 h1 => ?_) k F (by omega))
  · simp only [spec_l05Turned.l0, rowBy_length]
    rw [if_neg (by omega)]
  · simp only [spec_l05Turned.l0, rowBy_length, hv]
    rw [if_pos h1, if_pos h0, if_pos h1, rowBy_rd h0 h1, eighth8, turn8, visAt, show ((i.toNat : Nat) : Int) = i by omega]
/-- The program's sums by one walker. -/
theorem adds_is (r0 : List Int) (fv : S51 → Option Int) (acc : List Int) (t : Int) (l : List S51) (m : Int) (w : Int) (n : Nat) (hn : 1 ≤ n ∧ n ≤ 60) (x : S51) (k : Nat) (G : Nat → Int) (hk : n < k) :
    impl_walked.l1 k r0 fv (rowBy n G) acc t l m w (visitsOf (n : Int) (wrap64 x.f2) (wrap64 x.f3) (wrap64 x.f4)) ((visitsOf (n : Int) (wrap64 x.f2) (wrap64 x.f3) (wrap64 x.f4)).length : Int) 0 x.f0 x.f1 x.f2 x.f3 x.f4 x.f5
      = impl_walked.l0 (k - n - 1) r0 fv (rowBy n (fun j => wrap64 (G j + wrap64 (wrap64 (t * visAt n x j) * wrap64 x.f5)))) acc l m (wrap64 (w + 1)) := by
  have hv : (visitsOf (n : Int) (wrap64 x.f2) (wrap64 x.f3) (wrap64 x.f4)).length = n := by rw [visitsOf_length]; omega
  rw [hv]
  refine (set_loop0 (n := n) (L := fun k r i => impl_walked.l1 k r0 fv r acc t l m w (visitsOf (n : Int) (wrap64 x.f2) (wrap64 x.f3) (wrap64 x.f4)) n i x.f0 x.f1 x.f2 x.f3 x.f4 x.f5) (E := fun k r => impl_walked.l0 k r0 fv r acc l m (wrap64 (w + 1))) (g := fun j y => wrap64 (y + wrap64 (wrap64 (t * visAt n x j) * wrap64 x.f5))) (by omega) (fun k F => ?_) (fun k F i h0 h1 => ?_) k G hk)
  · simp only [impl_walked.l1]
    rw [if_neg (by omega)]
  · simp only [impl_walked.l1, rowBy_length, hv]
    rw [if_pos h1, if_pos h0, if_pos h1, if_pos h1, rowBy_rd h0 h1, visAt, show ((i.toNat : Nat) : Int) = i by omega]
/-- The program's last loop: the eighths. -/
theorem ends_is (n : Nat) (hn : n ≤ 60) (F G : Nat → Int) : ∀ (d k : Nat) (i : Int) (acc : List Int), 0 ≤ i → i + d = n → d < k → acc.length ≤ i →
    impl_walked.l2 k (rowBy n G) acc (rowBy n F) n i = some (acc ++ (List.range d).map fun j => (F (i.toNat + j) + G (i.toNat + j)) % 8) := by
  intro d
  induction d with
  | zero =>
    intro k i acc h0 hd hk ha
    obtain ⟨k, rfl⟩ : ∃ m, k = m + 1 := ⟨k - 1, by omega⟩
    simp only [impl_walked.l2]
    rw [if_neg (by omega)]
    simp
  | succ d ih =>
    intro k i acc h0 hd hk ha
    obtain ⟨k, rfl⟩ : ∃ m, k = m + 1 := ⟨k - 1, by omega⟩
    simp only [impl_walked.l2, rowBy_length, impl_eighths.f, Option.bind_some]
    rw [if_pos (by omega), if_pos h0, if_pos (by omega), if_pos (by omega), if_pos (by omega), rowBy_rd h0 (by omega), rowBy_rd h0 (by omega), eighth8, w64 (i := i + 1) (by omega) (by omega),
      ih k (i + 1) _ (by omega) (by omega) (by omega) (by simp; omega), List.range_succ_eq_map, List.append_assoc]
    congr 2
    simp only [List.map_cons, List.map_map, List.singleton_append, Nat.add_zero]
    congr 1
    · have h1 := wrap_mod8 (F i.toNat)
      rw [wrap_mod8]
      omega
    · refine List.map_congr_left fun j _ => ?_
      simp only [Function.comp, show (i + 1).toNat + j = i.toNat + (j + 1) by omega]
/-- The program's row behind walks. -/
theorem walked_loop (n : Nat) (hn : 1 ≤ n ∧ n ≤ 60) (F : Nat → Int) (fv : S51 → Option Int) (f : S51 → Int) (l : List S51) (hl : l.length ≤ 8) (hw : ∀ x ∈ l, wOk n x) (hf : ∀ x ∈ l, fv x = some (f x)) :
    ∀ (d k : Nat) (i : Int) (G : Nat → Int), 0 ≤ i → i + d = l.length → d * 70 + 200 < k →
      impl_walked.l0 k (rowBy n F) fv (rowBy n G) [] l l.length i = some (rowBy n (fun j => (F j + G j + turnSum n f j (l.drop i.toNat)) % 8)) := by
  intro d
  induction d with
  | zero =>
    intro k i G h0 hd hk
    obtain ⟨k, rfl⟩ : ∃ m, k = m + 1 := ⟨k - 1, by omega⟩
    simp only [impl_walked.l0]
    rw [if_neg (by omega), rowBy_length, ends_is n (by omega) F G n k 0 [] (by omega) (by omega) (by omega) (by simp), List.drop_eq_nil_of_le (by omega)]
    simp only [List.nil_append, turnSum, Int.add_zero]
    congr 1
    exact List.map_congr_left fun j _ => by rw [show (0 : Int).toNat + j = j by simp]
  | succ d ih =>
    intro k i G h0 hd hk
    obtain ⟨k, rfl⟩ : ∃ m, k = m + 1 := ⟨k - 1, by omega⟩
    have hil : i.toNat < l.length := by omega
    have e : (i + 1).toNat = i.toNat + 1 := by omega
    have hr : rd_T51 l i = l[i.toNat] := by simp [rd_T51, List.getD_eq_getElem?_getD, List.getElem?_eq_getElem hil]
    have hm := List.getElem_mem hil
    simp only [impl_walked.l0, dyn_60.f, rowBy_length]
    rw [if_pos (by omega), if_pos h0, if_pos (by omega), hr, hf _ hm, (vis_both k n l[i.toNat] (by omega) (by omega) (hw _ hm)).2]
    simp only [Option.bind_some]
    rw [adds_is _ _ _ _ _ _ _ n hn l[i.toNat] k G (by omega), w64 (i := i + 1) (by omega) (by omega), ih _ (i + 1) _ (by omega) (by omega) (by omega), List.drop_eq_getElem_cons hil, e]
    congr 1
    refine rowBy_congr fun j _ => ?_
    rw [turnSum]
    have h1 : wrap64 (wrap64 (f l[i.toNat] * visAt n l[i.toNat] j) * wrap64 l[i.toNat].f5) % 8 = (f l[i.toNat] * visAt n l[i.toNat] j * wrap64 l[i.toNat].f5) % 8 := by
      rw [wrap_mod8]
      exact mul_mod8 (wrap_mod8 _) _
    have h2 := wrap_mod8 (G j + wrap64 (wrap64 (f l[i.toNat] * visAt n l[i.toNat] j) * wrap64 l[i.toNat].f5))
    generalize turnSum n f j (List.drop (i.toNat + 1) l) = z at *
    generalize f l[i.toNat] * visAt n l[i.toNat] j * wrap64 l[i.toNat].f5 = y at *
    generalize wrap64 (wrap64 (f l[i.toNat] * visAt n l[i.toNat] j) * wrap64 l[i.toNat].f5) = u at *
    omega
theorem walked_is (k : Nat) (r : List Int) (hn : 1 ≤ r.length ∧ r.length ≤ 60) (fv : S51 → Option Int) (f : S51 → Int) (l : List S51) (hl : l.length ≤ 8) (hw : ∀ x ∈ l, wOk r.length x) (hf : ∀ x ∈ l, fv x = some (f x)) (hk : 1000 < k) :
    impl_walked.f k r l fv = some (rowBy r.length (fun j => (rd r j + turnSum r.length f j l) % 8)) := by
  unfold impl_walked.f
  rw [if_pos (by omega), if_pos (by omega), Int.toNat_natCast, rowBy_zero]
  have := walked_loop r.length hn (fun j => rd r j) fv f l hl hw hf l.length k 0 (fun _ => 0) (by omega) (by omega) (by omega)
  rw [rowBy_eta] at this
  rw [this]
  congr 1
  exact rowBy_congr fun j _ => by simp
end Go.Proofs.Ytnppegmilcocoaa.Pure
