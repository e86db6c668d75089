/- For every row, walkers and days: the program's DaysOf answers what the reference answers, in memory of its own, and what came in stays as it is. -/
import Derived.Test.YtnppegmilcocoaaHBehind
import Derived.Test.YtnppegmilcocoaaHRowW
import Derived.Test.YtnppegmilcocoaaHRow
import Derived.Test.YtnppegmilcocoaaHMark
import Derived.Test.YtnppegmilcocoaaHWalkS
import Derived.Test.YtnppegmilcocoaaHSpan
import Derived.Test.YtnppegmilcocoaaPaf7
namespace Go.Proofs.Ytnppegmilcocoaa.Pure
open Go.RowKit Go.Proofs.Ytnppegmilcocoaa.Pa Go.Proofs.YtnppegmilcocoaaW.PrintWords Go.Proofs.YtnppegmilcocoaaW.PrintLast Go.Proofs.Ytnppegmilcocoaa.Com

theorem days_loop (n : Nat) (hn : 1 ≤ n ∧ n ≤ 60) (f t : Int) (hf : 0 ≤ f) (ht : t ≤ 10000) (l : List S51) (hl : l.length ≤ 8) (hw : ∀ x ∈ l, wOk n x) :
    ∀ (m k : Nat) (d : Int) (F : Nat → Int), f ≤ d → d + m = t + 1 → m + 500 < k → (∀ j, 0 ≤ F j ∧ F j < 8) →
      spec_DaysOf.l0 k l t (rowBy n F) d = some (rowBy n (fun j => (F j + turnSum n (fun x => untilOf t x - untilOf (d - 1) x) j l) % 8), 0) := by
  intro m
  induction m with
  | zero =>
    intro k d F h0 hd hk hF
    obtain ⟨k, rfl⟩ : ∃ m, k = m + 1 := ⟨k - 1, by omega⟩
    simp only [spec_DaysOf.l0]
    rw [if_neg (by omega), show d - 1 = t by omega]
    congr 2
    exact rowBy_congr fun j _ => by
      have := hF j
      simp only [Int.sub_self, turnSum_zero, Int.add_zero]
      rw [Int.emod_eq_of_lt this.1 this.2]
  | succ m ih =>
    intro k d F h0 hd hk hF
    obtain ⟨k, rfl⟩ : ∃ m, k = m + 1 := ⟨k - 1, by omega⟩
    simp only [spec_DaysOf.l0]
    rw [if_pos (by omega), behind_is k n hn d (by omega) l hl hw F (by omega) hF]
    simp only [Option.bind_some]
    rw [w64 (i := d + 1) (by omega) (by omega), ih k (d + 1) _ (by omega) (by omega) (by omega) (fun j => ⟨Int.emod_nonneg _ (by omega), Int.emod_lt_of_pos _ (by omega)⟩)]
    congr 2
    refine rowBy_congr fun j _ => ?_
    rw [Int.emod_add_emod, Int.add_assoc, ← turnSum_add]
    congr 2
    refine turnSum_congr fun x hx => ?_
    have := until_step (hw x hx) (show 0 ≤ d ∧ d ≤ 10000 by omega)
    rw [onOf, ← this, show d + 1 - 1 = d by omega]
    omega
theorem daysOf_is (l : List Int) (ws : List S51) (f t : Int) (hn : l.length ≤ 1048576) (hl : ∀ x ∈ l, 0 ≤ x) (hw : ∀ x ∈ ws, (Lit.int .i16 x.f4).wf = true) :
    ∃ R : List Int × Int, (∀ k, 1048600 < k → spec_DaysOf.f k l ws f t = some R) ∧ (∀ k, 1048600 < k → impl_DaysOf.f k l ws f t = some R) ∧ R.1.length ≤ 1048576 := by
  by_cases hc : spanIs (codeIs (rowOk l && walkersOk l.length ws) (fromTo f t)) f t = 0
  · obtain ⟨hv, hd⟩ := spanIs_zero hc
    obtain ⟨hr, hv⟩ := Bool.and_eq_true_iff.1 hv
    have hlen := rowOk_len hr
    have hb := walkersOk_b hv
    have hws : ∀ x ∈ ws, wOk l.length x := fun x hx => ⟨walkersOk_of hv hx, hw x hx⟩
    refine ⟨(rowBy l.length (fun j => (rd l j + turnSum l.length (fun x => untilOf t x - untilOf (f - 1) x) j ws) % 8), 0), fun k hk => ?_, fun k hk => ?_, by rw [rowBy_length]; exact hn⟩
    · unfold spec_DaysOf.f
      rw [from_is]
      simp only [Option.bind_some]
      rw [l05Row_is k l ws _ hn (by omega), Option.bind_some, span_is, Option.bind_some, if_pos hc]
      simp only [List.nil_append, List.length_nil]
      rw [if_pos (by omega)]
      have := days_loop l.length (by omega) f t hd.1 hd.2.2.1 ws hb.2.2 hws (t + 1 - f).toNat k f (fun j => rd l j) (by omega) (by omega) (by omega) (rd_small hl (rowOk_le hr))
      rw [rowBy_eta] at this
      exact this
    · unfold impl_DaysOf.f
      rw [rowOkI_is, Option.bind_some, spanCode_is k (by omega), Option.bind_some, if_pos hc]
      rw [walked_is k l (by omega) _ (fun x => untilOf t x - untilOf (f - 1) x) ws hb.2.2 hws (fun x hx => by simp only [impl_DaysOf_1.f]; exact between_is l.length f t x (hws x hx) (by omega) (by omega)) (by omega)]
      rfl
  · refine ⟨([], spanIs (codeIs (rowOk l && walkersOk l.length ws) (fromTo f t)) f t), fun k hk => ?_, fun k hk => ?_, by simp⟩
    · unfold spec_DaysOf.f
      rw [from_is]
      simp only [Option.bind_some]
      rw [l05Row_is k l ws _ hn (by omega), Option.bind_some, span_is, Option.bind_some, if_neg hc]
    · unfold impl_DaysOf.f
      rw [rowOkI_is, Option.bind_some, spanCode_is k (by omega), Option.bind_some, if_neg hc]
theorem FnExactDaysOf : laws_FnExactDaysOf.Pure := by
  intro a l f t _ hg hl hgl _ _
  refine ⟨3000003, ?_⟩
  unfold laws_FnExactDaysOf.f
  by_cases ha : (a.length : Int) > 1048576
  · rw [if_pos ha]
  rw [if_neg ha, szWalkerS_is l hl, Option.bind_some]
  by_cases hb : (l.length : Int) > 1048576
  · rw [if_pos hb, if_pos (by omega)]
  rw [if_neg hb, if_neg (by omega)]
  have hna : a.length ≤ 1048576 := by omega
  have hnl : l.length ≤ 1048576 := by omega
  have hnm : (l.map conv).length ≤ 1048576 := by simpa using hnl
  have hwf : ∀ x ∈ l.map conv, (Lit.int .i16 x.f4).wf = true := by
    intro x hx
    obtain ⟨y, hy, rfl⟩ := List.mem_map.1 hx
    exact (hgl y hy).2.2.2.2.1
  obtain ⟨R, hs, hi, hr⟩ := daysOf_is a (l.map conv) f t hna (fun x hx => by exact (wf_u8 (hg x hx)).1) hwf
  obtain ⟨M, hM⟩ := markW_is 3000002 (l.map conv) (1 + (a.length : Int)) hnm (by omega) (by omega)
  simp only [toRow_is 3000003 a hna (by omega), toWalkerS_is 3000003 l hnl (by omega), hs 3000003 (by omega), hi 3000003 (by omega), Option.bind_some, eqRow_is 3000003 R.1 R.1 hr (by omega), decide_true, if_true, bne_self_eq_false]
  simp only [laws_FnExactDaysOf.j0, Bool.false_eq_true, if_false, toRow_is 3000002 a hna (by omega), Option.bind_some, eqRow_is 3000002 a a hna (by omega), decide_true, if_true, toWalkerS_is 3000002 l hnl (by omega), eqWalkerS_refl 3000002 (l.map conv) hnm (by omega), markRow_is 3000002 a hna (by omega), hM, eqRow_is 3000002 R.1 R.1 hr (by omega), bne_self_eq_false]
  rw [if_neg (by omega)]
  simp only [laws_FnExactDaysOf.j1, Bool.false_eq_true, if_false, markRow_is 3000001 R.1 hr (by omega), Option.bind_some, heldRow_is 3000001 R.1.length hr (by omega)]
  rw [if_neg (by omega)]
  simp only [if_true, toRow_is 3000001 a hna (by omega), toWalkerS_is 3000001 l hnl (by omega), hi 3000001 (by omega), Option.bind_some, eqRow_is 3000001 R.1 R.1 hr (by omega), decide_true, bne_self_eq_false]
  simp only [laws_FnExactDaysOf.j2, Bool.false_eq_true, if_false, heldRow_is 3000000 R.1.length hr (by omega), Option.bind_some, if_true]
  rw [if_neg (by omega)]
end Go.Proofs.Ytnppegmilcocoaa.Pure
