/- What is written over a row is found again. -/
import Derived.Test.YtnppegmilcocoaaCom
import Derived.Test.YtnppegmilcocoaaPaf14
namespace Go.Proofs.Ytnppegmilcocoaa.Pure
open Go.RowKit Go.Proofs.Ytnppegmilcocoaa.Pa Go.Proofs.YtnppegmilcocoaaW.PrintWords Go.Proofs.YtnppegmilcocoaaW.PrintLast Go.Proofs.Ytnppegmilcocoaa.Com

theorem markRow_is (k : Nat) (l : List Int) (hn : l.length ≤ 1048576) (hk : 1048577 < k) :
    laws_markRow.f k l 1 = some (1 + (l.length : Int), (List.range l.length).map fun (j : Nat) => (1 + (j : Int)) % 256) := by
  unfold laws_markRow.f
  rw [mark_loop (v := fun c => c % 256) (L := laws_markRow.l0) (fun k x c i => rfl) l.length k l 1 0 (by omega) (by omega) (by omega) (by omega) (by omega) (by omega)]
  simp
theorem heldRow_is (k : Nat) (n : Nat) (hn : n ≤ 1048576) (hk : 1048577 < k) :
    laws_heldRow.f k ((List.range n).map fun (j : Nat) => (1 + (j : Int)) % 256) 1 = some (1 + (n : Int)) := by
  unfold laws_heldRow.f
  have hl : ((List.range n).map fun (j : Nat) => (1 + (j : Int)) % 256).length = n := by simp
  rw [held_loop (v := fun c => c % 256) (L := fun k c i => laws_heldRow.l0 k ((List.range n).map fun (j : Nat) => (1 + (j : Int)) % 256) c i) (x := (List.range n).map fun (j : Nat) => (1 + (j : Int)) % 256) (fun k c i => rfl) n k 1 0 (by omega) (by omega) (by omega) (by omega) (by omega) (by omega) (fun j hj => by
    rw [Int.zero_add, rd_map_range n _ j hj])]
end Go.Proofs.Ytnppegmilcocoaa.Pure
