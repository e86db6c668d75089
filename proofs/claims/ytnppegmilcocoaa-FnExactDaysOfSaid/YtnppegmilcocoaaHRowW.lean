/- A row with walkers: both look at them alike. Numbers are written over walkers: how many, and no more is asked. -/
import Derived.Test.YtnppegmilcocoaaHValid
import Derived.Test.YtnppegmilcocoaaHWalk
import Derived.Test.YtnppegmilcocoaaPaf71
import Derived.Test.YtnppegmilcocoaaPaf32
import Derived.Test.YtnppegmilcocoaaPaf14
namespace Go.Proofs.Ytnppegmilcocoaa.Pure
open Go.RowKit Go.Proofs.Ytnppegmilcocoaa.Pa Go.Proofs.YtnppegmilcocoaaW.PrintWords Go.Proofs.YtnppegmilcocoaaW.PrintLast Go.Proofs.Ytnppegmilcocoaa.Com

theorem l05Row_is (k : Nat) (l : List Int) (ws : List S51) (q : Bool) (hn : l.length ≤ 1048576) (hk : 1048577 < k) : spec_l05Row.f k l ws q = some (codeIs (rowOk l && walkersOk l.length ws) q) := by
  unfold spec_l05Row.f
  rw [l05Ok_is k l hn hk]
  cases rowOk l
  · rfl
  · simp only [Option.bind_some, if_true, asked_is k l.length ws q (by omega), Bool.true_and]
theorem rowOkI_is (l : List Int) (ws : List S51) : impl_rowOk.f l ws = some (rowOk l && walkersOk l.length ws) := by
  unfold impl_rowOk.f
  rw [implValid_is]
  cases rowOk l
  · rfl
  · simp only [Option.bind_some, if_true, implWalkers_is, Bool.true_and]
theorem markW_loop : ∀ (d k : Nat) (x : List S51) (c i : Int), 0 ≤ i → i + d = x.length → d < k → 0 ≤ c → c + 6 * d ≤ 1099511627776 → x.length ≤ 1048576 →
    ∃ M, laws_markWalkerS.l0 k x c i = some (c + 6 * d, M) := by
  intro d
  induction d with
  | zero =>
    intro k x c i h0 hd hk hc hcd hx
    obtain ⟨k, rfl⟩ : ∃ m, k = m + 1 := ⟨k - 1, by omega⟩
    refine ⟨x, ?_⟩
    simp only [laws_markWalkerS.l0]
    rw [if_neg (by omega)]
    simp
  | succ d ih =>
    intro k x c i h0 hd hk hc hcd hx
    obtain ⟨k, rfl⟩ : ∃ m, k = m + 1 := ⟨k - 1, by omega⟩
    have e : wrap64 (wrap64 (wrap64 (wrap64 (wrap64 (wrap64 (c + 1) + 1) + 1) + 1) + 1) + 1) = c + 6 := by
      rw [w64 (i := c + 1) (by omega) (by omega), w64 (i := c + 1 + 1) (by omega) (by omega), w64 (i := c + 1 + 1 + 1) (by omega) (by omega), w64 (i := c + 1 + 1 + 1 + 1) (by omega) (by omega), w64 (i := c + 1 + 1 + 1 + 1 + 1) (by omega) (by omega), w64 (by omega) (by omega)]
      omega
    simp only [laws_markWalkerS.l0, Option.bind_some]
    rw [if_pos (by omega), if_pos h0, e, w64 (i := i + 1) (by omega) (by omega)]
    rw [show c + 6 * ((d + 1 : Nat) : Int) = c + 6 + 6 * (d : Int) by omega]
    exact ih k _ (c + 6) (i + 1) (by omega) (by simp only [List.length_set]; omega) (by omega) (by omega) (by omega) (by simpa using hx)
theorem markW_is (k : Nat) (l : List S51) (c : Int) (hn : l.length ≤ 1048576) (hk : 1048577 < k) (hc : 0 ≤ c ∧ c ≤ 1073741824) :
    ∃ M, laws_markWalkerS.f k l c = some (c + 6 * (l.length : Int), M) :=
  markW_loop l.length k l c 0 (by omega) (by omega) (by omega) (by omega) (by omega) hn
end Go.Proofs.Ytnppegmilcocoaa.Pure
