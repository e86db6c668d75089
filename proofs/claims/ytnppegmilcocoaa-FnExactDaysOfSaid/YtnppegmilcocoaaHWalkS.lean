/- What the printed helpers of laws over walkers answer, in plain words. -/
import Derived.Test.YtnppegmilcocoaaCom
import Derived.Test.YtnppegmilcocoaaPaf8
namespace Go.Proofs.Ytnppegmilcocoaa.Pure
open Go.RowKit Go.Proofs.Ytnppegmilcocoaa.Pa Go.Proofs.YtnppegmilcocoaaW.PrintWords Go.Proofs.YtnppegmilcocoaaW.PrintLast Go.Proofs.Ytnppegmilcocoaa.Com

def conv (x : S53) : S51 := ⟨x.f0, x.f1, x.f2, x.f3, x.f4, x.f5⟩
theorem toWalkerS_is (k : Nat) (l : List S53) (hn : l.length ≤ 1048576) (hk : 1048577 < k) : laws_toWalkerS.f k l = some (l.map conv) := by
  unfold laws_toWalkerS.f
  rw [if_pos (by omega), if_pos (by omega), map_loop (L := fun k x i => laws_toWalkerS.l0 k l x i) (a := l) z53 conv hn (fun k x i => rfl) k 0 (by omega) (by omega) (by omega) _ (by simp)]
  simp
theorem szWalkerS_is (l : List S53) (hl : l.length ≤ maxLen) : laws_szWalkerS.f l 1048576 = some (if (l.length : Int) > 1048576 then (-1 : Int) else 1048576 - (l.length : Int)) := by
  unfold laws_szWalkerS.f
  unfold maxLen at hl
  rw [w64 (by omega) (by omega)]
  by_cases h : (l.length : Int) > 1048576
  · rw [if_pos (by omega), if_pos h]
  · rw [if_neg (by omega), if_neg h]
theorem eqWalkerS_refl (k : Nat) (l : List S51) (hn : l.length ≤ 1048576) (hk : 1048577 < k) : laws_eqWalkerS.f k l l = some true := by
  unfold laws_eqWalkerS.f
  rw [if_pos rfl]
  refine refl_loop (n := l.length) (L := fun k i => laws_eqWalkerS.l0 k l l i) hn (fun k => ?_) (fun k i h0 h1 => ?_) k (by omega)
  · simp only [laws_eqWalkerS.l0]
    rw [if_neg (by omega)]
  · simp only [laws_eqWalkerS.l0]
    rw [if_pos h1, if_pos h0, if_pos h1]
    simp [laws_eqWalker.f]
end Go.Proofs.Ytnppegmilcocoaa.Pure
