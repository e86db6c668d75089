/- What the printed helpers of the row laws answer, in plain words. -/
import Derived.Test.YtnppegmilcocoaaCom
import Derived.Test.YtnppegmilcocoaaPaf14
namespace Go.Proofs.Ytnppegmilcocoaa.Pure
open Go.RowKit Go.Proofs.Ytnppegmilcocoaa.Pa Go.Proofs.YtnppegmilcocoaaW.PrintWords Go.Proofs.YtnppegmilcocoaaW.PrintLast Go.Proofs.Ytnppegmilcocoaa.Com

theorem toRow_is (k : Nat) (l : List Int) (hn : l.length ≤ 1048576) (hk : 1048577 < k) : laws_toRow.f k l = some l := by
  unfold laws_toRow.f
  rw [if_pos (by omega), if_pos (by omega), copy_loop (L := fun k x i => laws_toRow.l0 k l x i) (a := l) hn (fun k x i => rfl) k 0 (by omega) (by omega) (by omega) _ (by simp)]
  simp
theorem eqRow_is (k : Nat) (a b : List Int) (hn : a.length ≤ 1048576) (hk : 1048577 < k) : laws_eqRow.f k a b = some (decide (a = b)) := by
  unfold laws_eqRow.f
  by_cases hl : (a.length : Int) = b.length
  · rw [if_pos hl, eq_loop (L := fun k i => laws_eqRow.l0 k a b i) (by omega) hn (fun k i => rfl) k 0 (by omega) (by omega) (by omega)]
    simp
  · rw [if_neg hl]
    have : a ≠ b := fun h => hl (by rw [h])
    simp [this]
end Go.Proofs.Ytnppegmilcocoaa.Pure
