/- For every row, walkers and day: the program's DayOf answers what the reference answers, in memory of its own, and what came in stays as it is. -/
import Derived.Test.YtnppegmilcocoaaHBehind
import Derived.Test.YtnppegmilcocoaaHRowW
import Derived.Test.YtnppegmilcocoaaHRow
import Derived.Test.YtnppegmilcocoaaHMark
import Derived.Test.YtnppegmilcocoaaHMarkW
import Derived.Test.YtnppegmilcocoaaHWalkS
import Derived.Test.YtnppegmilcocoaaHOn
import Derived.Test.YtnppegmilcocoaaPaf5
namespace Go.Proofs.Ytnppegmilcocoaa.Pure
open Go.RowKit Go.Proofs.Ytnppegmilcocoaa.Pa Go.Proofs.YtnppegmilcocoaaW.PrintWords Go.Proofs.YtnppegmilcocoaaW.PrintLast Go.Proofs.Ytnppegmilcocoaa.Com

theorem dayOf_is (l : List Int) (ws : List S51) (d : Int) (hn : l.length ≤ 1048576) (hl : ∀ x ∈ l, 0 ≤ x) (hw : ∀ x ∈ ws, (Lit.int .i16 x.f4).wf = true) :
    ∃ R : List Int × Int, (∀ k, 1048600 < k → spec_DayOf.f k l ws d = some R) ∧ (∀ k, 1048600 < k → impl_DayOf.f k l ws d = some R) ∧ R.1.length ≤ 1048576 := by
  by_cases hc : codeIs (rowOk l && walkersOk l.length ws) (dayOk d) = 0
  · obtain ⟨hv, hd⟩ := codeIs_zero.1 hc
    obtain ⟨hr, hv⟩ := Bool.and_eq_true_iff.1 hv
    have hd := dayOk_iff.1 hd
    have hlen := rowOk_len hr
    have hb := walkersOk_b hv
    have hws : ∀ x ∈ ws, wOk l.length x := fun x hx => ⟨walkersOk_of hv hx, hw x hx⟩
    refine ⟨(rowBy l.length (fun j => (rd l j + turnSum l.length (onOf d) j ws) % 8), 0), fun k hk => ?_, fun k hk => ?_, by rw [rowBy_length]; exact hn⟩
    · unfold spec_DayOf.f
      rw [day_is]
      simp only [Option.bind_some]
      rw [l05Row_is k l ws _ hn (by omega), Option.bind_some, if_pos hc]
      have := behind_is k l.length (by omega) d hd ws hb.2.2 hws (fun j => rd l j) (by omega) (rd_small hl (rowOk_le hr))
      rw [rowBy_eta] at this
      rw [this]
      rfl
    · unfold impl_DayOf.f
      rw [rowOkI_is, Option.bind_some, isDay_is, Option.bind_some, codeOf_is, Option.bind_some, show codeIs (rowOk l && walkersOk l.length ws) ([d].all dayOk) = 0 by simpa using hc, if_pos rfl]
      rw [walked_is k l (by omega) _ (onOf d) ws hb.2.2 hws (fun x hx => by simp only [impl_DayOf_1.f]; rw [between_is l.length d d x (hws x hx) hd hd, until_step (hws x hx) hd, onOf]) (by omega)]
      rfl
  · refine ⟨([], codeIs (rowOk l && walkersOk l.length ws) (dayOk d)), fun k hk => ?_, fun k hk => ?_, by simp⟩
    · unfold spec_DayOf.f
      rw [day_is]
      simp only [Option.bind_some]
      rw [l05Row_is k l ws _ hn (by omega), Option.bind_some, if_neg hc]
    · unfold impl_DayOf.f
      rw [rowOkI_is, Option.bind_some, isDay_is, Option.bind_some, codeOf_is, Option.bind_some, show codeIs (rowOk l && walkersOk l.length ws) ([d].all dayOk) = codeIs (rowOk l && walkersOk l.length ws) (dayOk d) by simp, if_neg hc]
theorem FnExactDayOf : laws_FnExactDayOf.Pure := by
  intro a l d _ hg hl hgl _
  refine ⟨3000003, ?_⟩
  unfold laws_FnExactDayOf.f
  by_cases ha : (a.length : Int) > 1048576
  · rw [if_pos ha]
  rw [if_neg ha, szWalkerS_is l hl, Option.bind_some]
  by_cases hb : (l.length : Int) > 1048576
  · rw [if_pos hb, if_pos (by omega)]
  rw [if_neg hb, if_neg (by omega)]
  have hna : a.length ≤ 1048576 := by omega
  have hnl : l.length ≤ 1048576 := by omega
  have hnm : (l.map conv).length ≤ 1048576 := by simpa using hnl
  have hwf : ∀ x ∈ l.map conv, (Lit.int .i16 x.f4).wf = true := by
    intro x hx
    obtain ⟨y, hy, rfl⟩ := List.mem_map.1 hx
    exact (hgl y hy).2.2.2.2.1
  obtain ⟨R, hs, hi, hr⟩ := dayOf_is a (l.map conv) d hna (fun x hx => by exact (wf_u8 (hg x hx)).1) hwf
  obtain ⟨M, hM⟩ := markW_is 3000002 (l.map conv) (1 + (a.length : Int)) hnm (by omega) (by omega)
  simp only [toRow_is 3000003 a hna (by omega), toWalkerS_is 3000003 l hnl (by omega), hs 3000003 (by omega), hi 3000003 (by omega), Option.bind_some, eqRow_is 3000003 R.1 R.1 hr (by omega), decide_true, if_true, bne_self_eq_false]
  simp only [laws_FnExactDayOf.j0, Bool.false_eq_true, if_false, toRow_is 3000002 a hna (by omega), Option.bind_some, eqRow_is 3000002 a a hna (by omega), decide_true, if_true, toWalkerS_is 3000002 l hnl (by omega), eqWalkerS_refl 3000002 (l.map conv) hnm (by omega), markRow_is 3000002 a hna (by omega), hM, eqRow_is 3000002 R.1 R.1 hr (by omega), bne_self_eq_false]
  rw [if_neg (by omega)]
  simp only [laws_FnExactDayOf.j1, Bool.false_eq_true, if_false, markRow_is 3000001 R.1 hr (by omega), Option.bind_some, heldRow_is 3000001 R.1.length hr (by omega)]
  rw [if_neg (by omega)]
  simp only [if_true, toRow_is 3000001 a hna (by omega), toWalkerS_is 3000001 l hnl (by omega), hi 3000001 (by omega), Option.bind_some, eqRow_is 3000001 R.1 R.1 hr (by omega), decide_true, bne_self_eq_false]
  simp only [laws_FnExactDayOf.j2, Bool.false_eq_true, if_false, heldRow_is 3000000 R.1.length hr (by omega), Option.bind_some, if_true]
  rw [if_neg (by omega)]
end Go.Proofs.Ytnppegmilcocoaa.Pure
