/- For every row, walkers and day: the program's RowOn answers what the reference answers, in memory of its own, and what came in stays as it is. -/
import Derived.Test.YtnppegmilcocoaaHUntil
import Derived.Test.YtnppegmilcocoaaHRowW
import Derived.Test.YtnppegmilcocoaaHRow
import Derived.Test.YtnppegmilcocoaaHMark
import Derived.Test.YtnppegmilcocoaaHMarkW
import Derived.Test.YtnppegmilcocoaaHWalkS
import Derived.Test.YtnppegmilcocoaaHOn
import Derived.Test.YtnppegmilcocoaaPaf6
namespace Go.Proofs.Ytnppegmilcocoaa.Pure
open Go.RowKit Go.Proofs.Ytnppegmilcocoaa.Pa Go.Proofs.YtnppegmilcocoaaW.PrintWords Go.Proofs.YtnppegmilcocoaaW.PrintLast Go.Proofs.Ytnppegmilcocoaa.Com

theorem until_is (b d : Int) (x : S51) (hx : wOk b x) (hd : 0 ≤ d + 1 ∧ d ≤ 10000) :
    spec_l05Until.f x.f0 x.f1 x.f2 x.f3 x.f4 x.f5 d = some (untilOf d x) ∧ impl_Walker_until.f x.f0 x.f1 x.f2 x.f3 x.f4 x.f5 d = some (untilOf d x) := by
  obtain ⟨⟨h0, h1, _⟩, _⟩ := hx
  unfold spec_l05Until.f impl_Walker_until.f untilOf
  rw [w64 (i := d - wrap64 x.f0) (by omega) (by omega)]
  by_cases h : d < wrap64 x.f0
  · rw [if_pos (by omega), if_pos h, if_pos h]
    exact ⟨rfl, rfl⟩
  · rw [if_neg (by omega), if_neg (by omega), if_neg h, if_neg h]
    exact ⟨rfl, rfl⟩
theorem whole_loop (n : Nat) (hn : 1 ≤ n ∧ n ≤ 60) (t : Int) (ht : 0 ≤ t + 1 ∧ t ≤ 10000) (l : List S51) (hl : l.length ≤ 8) (hw : ∀ x ∈ l, wOk n x) :
    ∀ (d k : Nat) (i : Int) (F : Nat → Int), 0 ≤ i → i + d = l.length → d + 300 < k → (∀ j, 0 ≤ F j ∧ F j < 8) →
      spec_l05Whole.l0 k l t (rowBy n F) i = some (rowBy n (fun j => (F j + turnSum n (untilOf t) j (l.drop i.toNat)) % 8)) := by
  intro d
  induction d with
  | zero =>
    intro k i F h0 hd hk hF
    obtain ⟨k, rfl⟩ : ∃ m, k = m + 1 := ⟨k - 1, by omega⟩
    simp only [spec_l05Whole.l0]
    rw [if_neg (by omega), List.drop_eq_nil_of_le (by omega)]
    congr 1
    exact rowBy_congr fun j _ => by
      have := hF j
      rw [turnSum, Int.add_zero, Int.emod_eq_of_lt this.1 this.2]
  | succ d ih =>
    intro k i F h0 hd hk hF
    obtain ⟨k, rfl⟩ : ∃ m, k = m + 1 := ⟨k - 1, by omega⟩
    have hil : i.toNat < l.length := by omega
    have e : (i + 1).toNat = i.toNat + 1 := by omega
    have hr : rd_T51 l i = l[i.toNat] := by simp [rd_T51, List.getD_eq_getElem?_getD, List.getElem?_eq_getElem hil]
    have hm := List.getElem_mem hil
    simp only [spec_l05Whole.l0]
    rw [if_pos (by omega), if_pos h0, hr, (until_is n t l[i.toNat] (hw _ hm) ht).1]
    simp only [Option.bind_some]
    rw [turned_is k n F l[i.toNat] _ (by omega) hn (hw _ hm), w64 (i := i + 1) (by omega) (by omega)]
    simp only [Option.bind_some]
    rw [ih k (i + 1) _ (by omega) (by omega) (by omega) (fun j => ⟨Int.emod_nonneg _ (by omega), Int.emod_lt_of_pos _ (by omega)⟩), List.drop_eq_getElem_cons hil, e]
    congr 1
    refine rowBy_congr fun j _ => ?_
    rw [turnSum, Int.emod_add_emod, Int.add_assoc]
theorem rowOn_is (l : List Int) (ws : List S51) (d : Int) (hn : l.length ≤ 1048576) (hl : ∀ x ∈ l, 0 ≤ x) (hw : ∀ x ∈ ws, (Lit.int .i16 x.f4).wf = true) :
    ∃ R : List Int × Int, (∀ k, 1048600 < k → spec_RowOn.f k l ws d = some R) ∧ (∀ k, 1048600 < k → impl_RowOn.f k l ws d = some R) ∧ R.1.length ≤ 1048576 := by
  by_cases hc : codeIs (rowOk l && walkersOk l.length ws) (dayOk d) = 0
  · obtain ⟨hv, hd⟩ := codeIs_zero.1 hc
    obtain ⟨hr, hv⟩ := Bool.and_eq_true_iff.1 hv
    have hd := dayOk_iff.1 hd
    have hlen := rowOk_len hr
    have hb := walkersOk_b hv
    have hws : ∀ x ∈ ws, wOk l.length x := fun x hx => ⟨walkersOk_of hv hx, hw x hx⟩
    refine ⟨(rowBy l.length (fun j => (rd l j + turnSum l.length (untilOf d) j ws) % 8), 0), fun k hk => ?_, fun k hk => ?_, by rw [rowBy_length]; exact hn⟩
    · unfold spec_RowOn.f
      rw [day_is]
      simp only [Option.bind_some]
      rw [l05Row_is k l ws _ hn (by omega), Option.bind_some, if_pos hc]
      unfold spec_l05Whole.f
      simp only [Option.bind_some, List.nil_append, List.length_nil]
      rw [if_pos (by omega)]
      have := whole_loop l.length (by omega) d (by omega) ws hb.2.2 hws ws.length k 0 (fun j => rd l j) (by omega) (by omega) (by omega) (rd_small hl (rowOk_le hr))
      rw [rowBy_eta] at this
      rw [this]
      rfl
    · unfold impl_RowOn.f
      rw [rowOkI_is, Option.bind_some, isDay_is, Option.bind_some, codeOf_is, Option.bind_some, show codeIs (rowOk l && walkersOk l.length ws) ([d].all dayOk) = 0 by simpa using hc, if_pos rfl]
      unfold impl_rowOn.f
      rw [walked_is k l (by omega) _ (untilOf d) ws hb.2.2 hws (fun x hx => by simp only [impl_rowOn_1.f]; exact (until_is l.length d x (hws x hx) (by omega)).2) (by omega)]
      rfl
  · refine ⟨([], codeIs (rowOk l && walkersOk l.length ws) (dayOk d)), fun k hk => ?_, fun k hk => ?_, by simp⟩
    · unfold spec_RowOn.f
      rw [day_is]
      simp only [Option.bind_some]
      rw [l05Row_is k l ws _ hn (by omega), Option.bind_some, if_neg hc]
    · unfold impl_RowOn.f
      rw [rowOkI_is, Option.bind_some, isDay_is, Option.bind_some, codeOf_is, Option.bind_some, show codeIs (rowOk l && walkersOk l.length ws) ([d].all dayOk) = codeIs (rowOk l && walkersOk l.length ws) (dayOk d) by simp, if_neg hc]
theorem FnExactRowOn : laws_FnExactRowOn.Pure := by
  intro a l d _ hg hl hgl _
  refine ⟨3000003, ?_⟩
  unfold laws_FnExactRowOn.f
  by_cases ha : (a.length : Int) > 1048576
  · rw [if_pos ha]
  rw [if_neg ha, szWalkerS_is l hl, Option.bind_some]
  by_cases hb : (l.length : Int) > 1048576
  · rw [if_pos hb, if_pos (by omega)]
  rw [if_neg hb, if_neg (by omega)]
  have hna : a.length ≤ 1048576 := by omega
  have hnl : l.length ≤ 1048576 := by omega
  have hnm : (l.map conv).length ≤ 1048576 := by simpa using hnl
  have hwf : ∀ x ∈ l.map conv, (Lit.int .i16 x.f4).wf = true := by
    intro x hx
    obtain ⟨y, hy, rfl⟩ := List.mem_map.1 hx
    exact (hgl y hy).2.2.2.2.1
  obtain ⟨R, hs, hi, hr⟩ := rowOn_is a (l.map conv) d hna (fun x hx => by exact (wf_u8 (hg x hx)).1) hwf
  obtain ⟨M, hM⟩ := markW_is 3000002 (l.map conv) (1 + (a.length : Int)) hnm (by omega) (by omega)
  simp only [toRow_is 3000003 a hna (by omega), toWalkerS_is 3000003 l hnl (by omega), hs 3000003 (by omega), hi 3000003 (by omega), Option.bind_some, eqRow_is 3000003 R.1 R.1 hr (by omega), decide_true, if_true, bne_self_eq_false]
  simp only [laws_FnExactRowOn.j0, Bool.false_eq_true, if_false, toRow_is 3000002 a hna (by omega), Option.bind_some, eqRow_is 3000002 a a hna (by omega), decide_true, if_true, toWalkerS_is 3000002 l hnl (by omega), eqWalkerS_refl 3000002 (l.map conv) hnm (by omega), markRow_is 3000002 a hna (by omega), hM, eqRow_is 3000002 R.1 R.1 hr (by omega), bne_self_eq_false]
  rw [if_neg (by omega)]
  simp only [laws_FnExactRowOn.j1, Bool.false_eq_true, if_false, markRow_is 3000001 R.1 hr (by omega), Option.bind_some, heldRow_is 3000001 R.1.length hr (by omega)]
  rw [if_neg (by omega)]
  simp only [if_true, toRow_is 3000001 a hna (by omega), toWalkerS_is 3000001 l hnl (by omega), hi 3000001 (by omega), Option.bind_some, eqRow_is 3000001 R.1 R.1 hr (by omega), decide_true, bne_self_eq_false]
  simp only [laws_FnExactRowOn.j2, Bool.false_eq_true, if_false, heldRow_is 3000000 R.1.length hr (by omega), Option.bind_some, if_true]
  rw [if_neg (by omega)]
end Go.Proofs.Ytnppegmilcocoaa.Pure
