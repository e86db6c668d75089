/- For every row, place and turn: the program's TurnBottle answers what the reference answers, in memory of its own, and the row stays as it is. -/
import Derived.Test.YtleeponhjgmioaaHRow
import Derived.Test.YtleeponhjgmioaaHValid
import Derived.Test.YtleeponhjgmioaaHMark
import Derived.Test.YtleeponhjgmioaaWf
import Derived.Test.YtleeponhjgmioaaPaf10
namespace Go.Proofs.Ytleeponhjgmioaa.Pure
open Go.RowKit Go.Proofs.Ytleeponhjgmioaa.Pa Go.Proofs.YtleeponhjgmioaaW.PrintWords Go.Proofs.YtleeponhjgmioaaW.PrintLast Go.Proofs.Ytleeponhjgmioaa.Com

theorem eighth_small : ∀ m : Fin 22, Int.tmod (((m.val : Int) - 7) + 8) 8 = Int.tmod (Int.tmod ((m.val : Int) - 7) 8 + 8) 8 := by decide
theorem eighth_is {n : Int} (h0 : -7 ≤ n) (h1 : n ≤ 14) : Int.tmod (n + 8) 8 = Int.tmod (wrap64 (Int.tmod n 8 + 8)) 8 := by
  have hb := Int.tmod_lt_of_pos n (show (0 : Int) < 8 by omega)
  have hc := Int.lt_tmod_of_pos n (show (0 : Int) < 8 by omega)
  rw [w64 (i := Int.tmod n 8 + 8) (by omega) (by omega)]
  have := eighth_small ⟨(n + 7).toNat, by omega⟩
  simp only [show (((n + 7).toNat : Nat) : Int) - 7 = n by omega] at this
  exact this
theorem rd_mem (l : List Int) (p : Int) (h0 : 0 ≤ p) (h1 : p < l.length) : rd l p ∈ l := by
  have hi : p.toNat < l.length := by omega
  unfold rd
  rw [List.getD_eq_getElem?_getD, List.getElem?_eq_getElem hi]
  exact List.getElem_mem hi
theorem turn_is (l : List Int) (p b : Int) (hn : l.length ≤ 1048576) (hl : ∀ x ∈ l, 0 ≤ x) :
    ∃ R : List Int × Int, (∀ k, 1048600 < k → spec_TurnBottle.f k l p b = some R) ∧ (∀ k, 1048600 < k → impl_TurnBottle.f k l p b = some R) ∧ R.1.length ≤ 1048576 := by
  have hw : ∀ a b c, impl_within.f a b c = some (decide (b ≤ a ∧ a ≤ c)) := impl_within.is
  cases hr : rowOk l with
  | false =>
    refine ⟨([], 1), fun k hk => ?_, fun k hk => ?_, by simp⟩
    · unfold spec_TurnBottle.f
      rw [l05Ok_is k l hn (by omega), hr]
      rfl
    · obtain ⟨k, rfl⟩ : ∃ m, k = m + 1 := ⟨k - 1, by omega⟩
      unfold impl_TurnBottle.f
      rw [implValid_is, hr]
      simp only [hw, Option.bind_some, impl_codeOf.f, impl_TurnBottle.j0]
      split <;> rfl
  | true =>
    have hlen := rowOk_len hr
    have hle := rowOk_le hr
    by_cases hp : 0 ≤ p ∧ p ≤ (l.length : Int) - 1
    · by_cases hb : -7 ≤ b ∧ b ≤ 7
      · have hm := rd_mem l p hp.1 (by omega)
        have h0 := hl _ hm
        have h7 := hle _ hm
        refine ⟨(l.set p.toNat (Int.tmod (rd l p + b + 8) 8 % 256), 0), fun k hk => ?_, fun k hk => ?_, by simpa using hn⟩
        · unfold spec_TurnBottle.f
          rw [l05Ok_is k l hn (by omega), hr, w64 (i := (l.length : Int) - 1) (by omega) (by omega)]
          simp only [l00In_is, Option.bind_some, decide_eq_true hp, decide_eq_true hb, if_true, List.nil_append, List.length_nil]
          rw [if_pos (by omega), if_pos hp.1, if_pos (by omega), w64 (i := rd l p) (by omega) (by omega), w64 (i := rd l p + b) (by omega) (by omega), w64 (by omega) (by omega)]
        · obtain ⟨k, rfl⟩ : ∃ m, k = m + 1 := ⟨k - 1, by omega⟩
          unfold impl_TurnBottle.f
          rw [implValid_is, hr, w64 (i := (l.length : Int) - 1) (by omega) (by omega)]
          simp only [hw, Option.bind_some, decide_eq_true hp, decide_eq_true hb, if_true, impl_codeOf.f, impl_TurnBottle.j0, slices_Clone_impl_Row_uint8.f, impl_eighths.f]
          rw [if_pos (by omega)]
          simp only [Option.bind_some]
          rw [if_pos hp.1, if_pos (by omega), w64 (i := rd l p) (by omega) (by omega), w64 (i := rd l p + b) (by omega) (by omega), ← eighth_is (by omega) (by omega)]
      · refine ⟨([], 2), fun k hk => ?_, fun k hk => ?_, by simp⟩
        · unfold spec_TurnBottle.f
          rw [l05Ok_is k l hn (by omega), hr, w64 (i := (l.length : Int) - 1) (by omega) (by omega)]
          simp only [l00In_is, Option.bind_some, decide_eq_true hp, decide_eq_false hb, if_true, Bool.false_eq_true, if_false]
        · obtain ⟨k, rfl⟩ : ∃ m, k = m + 1 := ⟨k - 1, by omega⟩
          unfold impl_TurnBottle.f
          rw [implValid_is, hr, w64 (i := (l.length : Int) - 1) (by omega) (by omega)]
          simp only [hw, Option.bind_some, decide_eq_true hp, decide_eq_false hb, if_true, impl_codeOf.f, impl_TurnBottle.j0, Bool.false_eq_true, if_false]
          rfl
    · refine ⟨([], 2), fun k hk => ?_, fun k hk => ?_, by simp⟩
      · unfold spec_TurnBottle.f
        rw [l05Ok_is k l hn (by omega), hr, w64 (i := (l.length : Int) - 1) (by omega) (by omega)]
        simp only [l00In_is, Option.bind_some, decide_eq_false hp, if_true, Bool.false_eq_true, if_false]
      · obtain ⟨k, rfl⟩ : ∃ m, k = m + 1 := ⟨k - 1, by omega⟩
        unfold impl_TurnBottle.f
        rw [implValid_is, hr, w64 (i := (l.length : Int) - 1) (by omega) (by omega)]
        simp only [hw, Option.bind_some, decide_eq_false hp, if_true, impl_codeOf.f, impl_TurnBottle.j0, Bool.false_eq_true, if_false]
        rfl
theorem FnExactTurnBottle : laws_FnExactTurnBottle.Pure := by
  intro a p b _ hg _ _
  refine ⟨3000003, ?_⟩
  unfold laws_FnExactTurnBottle.f
  by_cases ha : (a.length : Int) > 1048576
  · rw [if_pos ha]
  rw [if_neg ha]
  have hna : a.length ≤ 1048576 := by omega
  obtain ⟨R, hs, hi, hr⟩ := turn_is a p b hna (fun x hx => by exact (wf_u8 (hg x hx)).1)
  simp only [toRow_is 3000003 a hna (by omega), hs 3000003 (by omega), hi 3000003 (by omega), Option.bind_some, eqRow_is 3000003 R.1 R.1 hr (by omega), decide_true, if_true, bne_self_eq_false]
  simp only [laws_FnExactTurnBottle.j0, Bool.false_eq_true, if_false, toRow_is 3000002 a hna (by omega), Option.bind_some, eqRow_is 3000002 a a hna (by omega), decide_true, if_true, markRow_is 3000002 a hna (by omega), eqRow_is 3000002 R.1 R.1 hr (by omega), bne_self_eq_false]
  rw [if_neg (by omega)]
  simp only [laws_FnExactTurnBottle.j1, Bool.false_eq_true, if_false, markRow_is 3000001 R.1 hr (by omega), Option.bind_some, heldRow_is 3000001 R.1.length hr (by omega)]
  rw [if_neg (by omega)]
  simp only [if_true, toRow_is 3000001 a hna (by omega), hi 3000001 (by omega), Option.bind_some, eqRow_is 3000001 R.1 R.1 hr (by omega), decide_true, bne_self_eq_false]
  simp only [laws_FnExactTurnBottle.j2, Bool.false_eq_true, if_false, heldRow_is 3000000 R.1.length hr (by omega), Option.bind_some, if_true]
  rw [if_neg (by omega)]
end Go.Proofs.Ytleeponhjgmioaa.Pure
