/- What is written over numbers is found again; numbers against themselves. -/
import Derived.Test.YtnppegmilcocoaaCom
import Derived.Test.YtnppegmilcocoaaPaf14
import Derived.Test.YtnppegmilcocoaaPaf12
namespace Go.Proofs.Ytnppegmilcocoaa.Pure
open Go.RowKit Go.Proofs.Ytnppegmilcocoaa.Pa Go.Proofs.YtnppegmilcocoaaW.PrintWords Go.Proofs.YtnppegmilcocoaaW.PrintLast Go.Proofs.Ytnppegmilcocoaa.Com

theorem eqInt64S_refl (k : Nat) (a : List Int) (hn : a.length ≤ 1048576) (hk : 1048577 < k) : laws_eqInt64S.f k a a = some true := by
  unfold laws_eqInt64S.f
  rw [if_pos rfl, eq_loop (L := fun k i => laws_eqInt64S.l0 k a a i) rfl hn (fun k i => rfl) k 0 (by omega) (by omega) (by omega)]
  simp
theorem markI_is (k : Nat) (l : List Int) (hn : l.length ≤ 1048576) (hk : 1048577 < k) :
    laws_markInt64S.f k l 1 = some (1 + (l.length : Int), (List.range l.length).map fun (j : Nat) => 1 + (j : Int)) := by
  unfold laws_markInt64S.f
  rw [mark_loop (v := fun c => c) (L := laws_markInt64S.l0) (fun k x c i => rfl) l.length k l 1 0 (by omega) (by omega) (by omega) (by omega) (by omega) (by omega)]
  simp
theorem heldI_is (k : Nat) (n : Nat) (hn : n ≤ 1048576) (hk : 1048577 < k) :
    laws_heldInt64S.f k ((List.range n).map fun (j : Nat) => 1 + (j : Int)) 1 = some (1 + (n : Int)) := by
  unfold laws_heldInt64S.f
  have hl : ((List.range n).map fun (j : Nat) => 1 + (j : Int)).length = n := by simp
  rw [held_loop (v := fun c => c) (L := fun k c i => laws_heldInt64S.l0 k ((List.range n).map fun (j : Nat) => 1 + (j : Int)) c i) (x := (List.range n).map fun (j : Nat) => 1 + (j : Int)) (fun k c i => rfl) n k 1 0 (by omega) (by omega) (by omega) (by omega) (by omega) (by omega) (fun j hj => by
    rw [Int.zero_add, rd_map_range n _ j hj])]
end Go.Proofs.Ytnppegmilcocoaa.Pure
