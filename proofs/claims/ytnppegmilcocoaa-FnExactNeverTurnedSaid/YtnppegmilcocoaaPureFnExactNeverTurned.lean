/- For all bottles and walkers: the program's NeverTurned answers what the reference answers, in memory of its own, and the walkers stay as they are. -/
import Derived.Test.YtnppegmilcocoaaHTurn
import Derived.Test.YtnppegmilcocoaaHMarkI
import Derived.Test.YtnppegmilcocoaaHRowW
import Derived.Test.YtnppegmilcocoaaHWalkS
import Derived.Test.YtnppegmilcocoaaPaf3
namespace Go.Proofs.Ytnppegmilcocoaa.Pure
open Go.RowKit Go.Proofs.Ytnppegmilcocoaa.Pa Go.Proofs.YtnppegmilcocoaaW.PrintWords Go.Proofs.YtnppegmilcocoaaW.PrintLast Go.Proofs.Ytnppegmilcocoaa.Com

def cntOf (b : Int) (j : Nat) : List S51 → Int → Int
  | [], c => c
  | x :: l, c => cntOf b j l (wrap64 (c + visAt b x j))
def neverFrom (b : Int) (l : List S51) : Nat → Int → List Int
  | 0, _ => []
  | d + 1, p => if cntOf b p.toNat l 0 = 0 then p :: neverFrom b l d (p + 1) else neverFrom b l d (p + 1)
theorem neverFrom_length (b : Int) (l : List S51) : ∀ (d : Nat) (p : Int), (neverFrom b l d p).length ≤ d
  | 0, _ => by simp [neverFrom]
  | d + 1, p => by
    have := neverFrom_length b l d (p + 1)
    rw [neverFrom]
    split
    · rw [List.length_cons]; omega
    · omega
theorem count_loop (n : Nat) (hn : 1 ≤ n ∧ n ≤ 60) (l : List S51) (hl : l.length ≤ 8) (hw : ∀ x ∈ l, wOk n x) (acc : List Int) (p : Int) (hp : 0 ≤ p ∧ p < n) :
    ∀ (d k : Nat) (i c : Int), 0 ≤ i → i + d = l.length → d + 200 < k →
      spec_NeverTurned.l1 k n l acc p c i = (if cntOf n p.toNat (l.drop i.toNat) c = 0 then (if acc.length < 17592186044416 then spec_NeverTurned.l0 (k - d - 1) n l (acc ++ [p]) (wrap64 (p + 1)) else none) else spec_NeverTurned.l0 (k - d - 1) n l acc (wrap64 (p + 1))) := by
  intro d
  induction d with
  | zero =>
    intro k i c h0 hd hk
    obtain ⟨k, rfl⟩ : ∃ m, k = m + 1 := ⟨k - 1, by omega⟩
    simp only [spec_NeverTurned.l1]
    rw [if_neg (by omega), List.drop_eq_nil_of_le (by omega), cntOf]
    rfl
  | succ d ih =>
    intro k i c h0 hd hk
    obtain ⟨k, rfl⟩ : ∃ m, k = m + 1 := ⟨k - 1, by omega⟩
    have hil : i.toNat < l.length := by omega
    have e : (i + 1).toNat = i.toNat + 1 := by omega
    have hr : rd_T51 l i = l[i.toNat] := by simp [rd_T51, List.getD_eq_getElem?_getD, List.getElem?_eq_getElem hil]
    have hm := List.getElem_mem hil
    have hv : (visitsOf (n : Int) (wrap64 l[i.toNat].f2) (wrap64 l[i.toNat].f3) (wrap64 l[i.toNat].f4)).length = n := by rw [visitsOf_length]; omega
    simp only [spec_NeverTurned.l1]
    rw [if_pos (by omega), if_pos h0, hr, (vis_both k n l[i.toNat] (by omega) (by omega) (hw _ hm)).1]
    simp only [Option.bind_some]
    rw [if_pos hp.1, hv, if_pos hp.2, w64 (i := i + 1) (by omega) (by omega), ih k (i + 1) _ (by omega) (by omega) (by omega), List.drop_eq_getElem_cons hil, e, cntOf, visAt, show ((p.toNat : Nat) : Int) = p by omega, show k + 1 - (d + 1) - 1 = k - d - 1 by omega]
theorem never_loop (n : Nat) (hn : 1 ≤ n ∧ n ≤ 60) (l : List S51) (hl : l.length ≤ 8) (hw : ∀ x ∈ l, wOk n x) :
    ∀ (d k : Nat) (p : Int) (acc : List Int), 0 ≤ p → p + d = n → d * 20 + 300 < k → acc.length ≤ p →
      spec_NeverTurned.l0 k n l acc p = some (acc ++ neverFrom n l d p, 0) := by
  intro d
  induction d with
  | zero =>
    intro k p acc h0 hd hk ha
    obtain ⟨k, rfl⟩ : ∃ m, k = m + 1 := ⟨k - 1, by omega⟩
    simp only [spec_NeverTurned.l0]
    rw [if_neg (by omega), neverFrom, List.append_nil]
  | succ d ih =>
    intro k p acc h0 hd hk ha
    obtain ⟨k, rfl⟩ : ∃ m, k = m + 1 := ⟨k - 1, by omega⟩
    simp only [spec_NeverTurned.l0]
    rw [if_pos (by omega), count_loop n hn l hl hw acc p (by omega) l.length k 0 0 (by omega) (by omega) (by omega), w64 (i := p + 1) (by omega) (by omega), neverFrom]
    simp only [Int.toNat_zero, List.drop_zero]
    by_cases hc : cntOf n p.toNat l 0 = 0
    · rw [if_pos hc, if_pos hc, if_pos (by omega), ih _ (p + 1) _ (by omega) (by omega) (by omega) (by simp; omega), List.append_assoc]
      rfl
    · rw [if_neg hc, if_neg hc, ih _ (p + 1) _ (by omega) (by omega) (by omega) (by omega)]
theorem sums_is (b : Int) (acc : List Int) (l : List S51) (m w : Int) (n : Nat) (hn : 1 ≤ n ∧ n ≤ 60) (x : S51) (k : Nat) (G : Nat → Int) (hk : n < k) :
    impl_NeverTurned.l1 k b (rowBy n G) acc l m w (visitsOf (n : Int) (wrap64 x.f2) (wrap64 x.f3) (wrap64 x.f4)) ((visitsOf (n : Int) (wrap64 x.f2) (wrap64 x.f3) (wrap64 x.f4)).length : Int) 0
      = impl_NeverTurned.l0 (k - n - 1) b (rowBy n (fun j => wrap64 (G j + visAt n x j))) acc l m (wrap64 (w + 1)) := by
  have hv : (visitsOf (n : Int) (wrap64 x.f2) (wrap64 x.f3) (wrap64 x.f4)).length = n := by rw [visitsOf_length]; omega
  rw [hv]
  refine (set_loop0 (n := n) (L := fun k r i => impl_NeverTurned.l1 k b r acc l m w (visitsOf (n : Int) (wrap64 x.f2) (wrap64 x.f3) (wrap64 x.f4)) n i) (E := fun k r => impl_NeverTurned.l0 k b r acc l m (wrap64 (w + 1))) (g := fun j y => wrap64 (y + visAt n x j)) (by omega) (fun k F => ?_) (fun k F i h0 h1 => ?_) k G hk)
  · simp only [impl_NeverTurned.l1]
    rw [if_neg (by omega)]
  · simp only [impl_NeverTurned.l1, rowBy_length, hv]
    rw [if_pos h1, if_pos h0, if_pos h1, if_pos h1, rowBy_rd h0 h1, visAt, show ((i.toNat : Nat) : Int) = i by omega]
theorem zeros_loop (b : Int) (l : List S51) (n : Nat) (hn : n ≤ 60) (G : Nat → Int) (hG : ∀ j, j < n → G j = cntOf b j l 0) : ∀ (d k : Nat) (i : Int) (acc : List Int), 0 ≤ i → i + d = n → d < k → acc.length ≤ i →
    impl_NeverTurned.l2 k acc (rowBy n G) n i = some (acc ++ neverFrom b l d i, 0) := by
  intro d
  induction d with
  | zero =>
    intro k i acc h0 hd hk ha
    obtain ⟨k, rfl⟩ : ∃ m, k = m + 1 := ⟨k - 1, by omega⟩
    simp only [impl_NeverTurned.l2]
    rw [if_neg (by omega), neverFrom, List.append_nil]
  | succ d ih =>
    intro k i acc h0 hd hk ha
    obtain ⟨k, rfl⟩ : ∃ m, k = m + 1 := ⟨k - 1, by omega⟩
    simp only [impl_NeverTurned.l2, rowBy_length]
    rw [if_pos (by omega), if_pos h0, if_pos (by omega), rowBy_rd h0 (by omega), hG _ (by omega), w64 (i := i + 1) (by omega) (by omega), neverFrom]
    by_cases hc : cntOf b i.toNat l 0 = 0
    · rw [if_pos hc, if_pos hc, if_pos (by omega), ih k (i + 1) _ (by omega) (by omega) (by omega) (by simp; omega), List.append_assoc]
      rfl
    · rw [if_neg hc, if_neg hc, ih k (i + 1) _ (by omega) (by omega) (by omega) (by omega)]
theorem neverI_loop (n : Nat) (hn : 1 ≤ n ∧ n ≤ 60) (l : List S51) (hl : l.length ≤ 8) (hw : ∀ x ∈ l, wOk n x) :
    ∀ (d k : Nat) (i : Int) (G : Nat → Int), 0 ≤ i → i + d = l.length → d * 70 + 300 < k → (∀ j, cntOf n j (l.drop i.toNat) (G j) = cntOf n j l 0) →
      impl_NeverTurned.l0 k n (rowBy n G) [] l l.length i = some (neverFrom n l n 0, 0) := by
  intro d
  induction d with
  | zero =>
    intro k i G h0 hd hk hG
    obtain ⟨k, rfl⟩ : ∃ m, k = m + 1 := ⟨k - 1, by omega⟩
    have hdr : l.drop i.toNat = [] := List.drop_eq_nil_of_le (by omega)
    simp only [impl_NeverTurned.l0]
    rw [if_neg (by omega), rowBy_length, zeros_loop n l n (by omega) G (fun j _ => by rw [← hG j, hdr, cntOf]) n k 0 [] (by omega) (by omega) (by omega) (by simp)]
    rfl
  | succ d ih =>
    intro k i G h0 hd hk hG
    obtain ⟨k, rfl⟩ : ∃ m, k = m + 1 := ⟨k - 1, by omega⟩
    have hil : i.toNat < l.length := by omega
    have e : (i + 1).toNat = i.toNat + 1 := by omega
    have hr : rd_T51 l i = l[i.toNat] := by simp [rd_T51, List.getD_eq_getElem?_getD, List.getElem?_eq_getElem hil]
    have hm := List.getElem_mem hil
    simp only [impl_NeverTurned.l0]
    rw [if_pos (by omega), if_pos h0, if_pos (by omega), hr, (vis_both k n l[i.toNat] (by omega) (by omega) (hw _ hm)).2]
    simp only [Option.bind_some]
    rw [sums_is _ _ _ _ _ n hn l[i.toNat] k G (by omega), w64 (i := i + 1) (by omega) (by omega), ih _ (i + 1) _ (by omega) (by omega) (by omega) (fun j => ?_)]
    rw [← hG j, List.drop_eq_getElem_cons hil, e, cntOf]
theorem never_is (b : Int) (ws : List S51) (hw : ∀ x ∈ ws, (Lit.int .i16 x.f4).wf = true) :
    ∃ R : List Int × Int, (∀ k, 3000 < k → spec_NeverTurned.f k b ws = some R) ∧ (∀ k, 3000 < k → impl_NeverTurned.f k b ws = some R) ∧ R.1.length ≤ 1048576 := by
  cases hv : walkersOk b ws with
  | false =>
    refine ⟨([], 1), fun k hk => ?_, fun k hk => ?_, by simp⟩
    · unfold spec_NeverTurned.f
      simp only [Option.bind_some, asked_is k b ws true (by omega), hv]
      rfl
    · unfold impl_NeverTurned.f
      rw [implWalkers_is, hv]
      rfl
  | true =>
    have hb := walkersOk_b hv
    obtain ⟨n, rfl⟩ : ∃ n : Nat, b = n := ⟨b.toNat, by omega⟩
    have hws : ∀ x ∈ ws, wOk n x := fun x hx => ⟨walkersOk_of hv hx, hw x hx⟩
    refine ⟨(neverFrom n ws n 0, 0), fun k hk => ?_, fun k hk => ?_, ?_⟩
    · unfold spec_NeverTurned.f
      simp only [Option.bind_some, asked_is k n ws true (by omega), hv]
      rw [if_pos (show codeIs true true = 0 from rfl), never_loop n (by omega) ws hb.2.2 hws n k 0 [] (by omega) (by omega) (by omega) (by simp)]
      rfl
    · unfold impl_NeverTurned.f
      rw [implWalkers_is, hv, Option.bind_some, if_pos rfl, if_pos (by omega), if_pos (by omega), Int.toNat_natCast, rowBy_zero, neverI_loop n (by omega) ws hb.2.2 hws ws.length k 0 (fun _ => 0) (by omega) (by omega) (by omega) (fun j => rfl)]
    · have := neverFrom_length n ws n 0
      simp only
      omega
theorem FnExactNeverTurned : laws_FnExactNeverTurned.Pure := by
  intro b l _ hl hgl
  refine ⟨3000003, ?_⟩
  unfold laws_FnExactNeverTurned.f
  rw [szWalkerS_is l hl, Option.bind_some]
  by_cases hb : (l.length : Int) > 1048576
  · rw [if_pos hb, if_pos (by omega)]
  rw [if_neg hb, if_neg (by omega)]
  have hnl : l.length ≤ 1048576 := by omega
  have hnm : (l.map conv).length ≤ 1048576 := by simpa using hnl
  have hwf : ∀ x ∈ l.map conv, (Lit.int .i16 x.f4).wf = true := by
    intro x hx
    obtain ⟨y, hy, rfl⟩ := List.mem_map.1 hx
    exact (hgl y hy).2.2.2.2.1
  obtain ⟨R, hs, hi, hr⟩ := never_is b (l.map conv) hwf
  obtain ⟨M, hM⟩ := markW_is 3000002 (l.map conv) 1 hnm (by omega) (by omega)
  simp only [toWalkerS_is 3000003 l hnl (by omega), hs 3000003 (by omega), hi 3000003 (by omega), Option.bind_some, eqInt64S_refl 3000003 R.1 hr (by omega), if_true, bne_self_eq_false]
  simp only [laws_FnExactNeverTurned.j0, Bool.false_eq_true, if_false, toWalkerS_is 3000002 l hnl (by omega), Option.bind_some, eqWalkerS_refl 3000002 (l.map conv) hnm (by omega), if_true, hM, eqInt64S_refl 3000002 R.1 hr (by omega), bne_self_eq_false]
  rw [if_neg (by omega)]
  simp only [laws_FnExactNeverTurned.j1, Bool.false_eq_true, if_false, markI_is 3000001 R.1 hr (by omega), Option.bind_some, heldI_is 3000001 R.1.length hr (by omega)]
  rw [if_neg (by omega)]
  simp only [if_true, toWalkerS_is 3000001 l hnl (by omega), hi 3000001 (by omega), Option.bind_some, eqInt64S_refl 3000001 R.1 hr (by omega), bne_self_eq_false]
  simp only [laws_FnExactNeverTurned.j2, Bool.false_eq_true, if_false, heldI_is 3000000 R.1.length hr (by omega), Option.bind_some, if_true]
  rw [if_neg (by omega)]
end Go.Proofs.Ytnppegmilcocoaa.Pure
