/- The program's types, as they are read. -/
import Derived.Test.YteaodjahafgbcaaRows
import Derived.Test.YteaodjahafgbcaaG4
import Derived.KernelRfl
namespace Go.Proofs.Yteaodjahafgbcaa.G
open Go 
set_option linter.unusedVariables false
def tbl : List (Nat × Ty) := [(2, (.int .i64)), (3, (.int .i64)), (4, .bool), (5, (.int .u8)), (6, (.int .u8)), (7, (.st (.pair (.int .i64) (.pair (.int .i64) (.pair .bool (.int .u8)))))), (8, (.st (.pair (.int .i64) (.pair (.int .i64) (.pair .bool (.int .u8)))))), (9, .str), (10, .str), (11, .str), (12, (.int .u64)), (21, (.int .i32)), (22, (.row 85 (.st (.pair (.st (.pair (.int .u8) (.int .i16))) (.int .i16))))), (26, (.row 52 (.st (.pair (.st (.pair (.int .u8) (.int .i16))) (.int .i16))))), (30, (.row 22 (.row 85 (.st (.pair (.st (.pair (.int .u8) (.int .i16))) (.int .i16)))))), (32, (.row 26 (.row 52 (.st (.pair (.st (.pair (.int .u8) (.int .i16))) (.int .i16)))))), (33, (.row 26 (.row 52 (.st (.pair (.st (.pair (.int .u8) (.int .i16))) (.int .i16)))))), (34, (.row 2 (.int .i64))), (47, (.int .i16)), (48, (.st (.pair (.int .u8) (.int .i16)))), (49, (.st (.pair (.int .u8) (.int .i16)))), (50, (.st (.pair (.int .u8) (.int .i16)))), (51, (.st (.pair (.st (.pair (.int .u8) (.int .i16))) (.int .i16)))), (52, (.st (.pair (.st (.pair (.int .u8) (.int .i16))) (.int .i16)))), (58, (.row 49 (.st (.pair (.int .u8) (.int .i16))))), (62, (.row 50 (.st (.pair (.int .u8) (.int .i16))))), (69, (.row 5 (.int .u8))), (84, (.st (.pair (.st (.pair (.int .u8) (.int .i16))) (.int .i16)))), (85, (.st (.pair (.st (.pair (.int .u8) (.int .i16))) (.int .i16)))), (105, (.row 34 (.row 2 (.int .i64)))), (112, (.row 115 (.st (.pair (.int .i64) (.pair (.int .i64) (.st (.pair (.st (.pair (.int .u8) (.int .i16))) (.int .i16)))))))), (114, (.st (.pair (.int .i64) (.pair (.int .i64) (.st (.pair (.st (.pair (.int .u8) (.int .i16))) (.int .i16))))))), (115, (.st (.pair (.int .i64) (.pair (.int .i64) (.st (.pair (.st (.pair (.int .u8) (.int .i16))) (.int .i16))))))), (141, (.int .u64)), (142, (.st (.pair (.row 5 (.int .u8)) (.pair (.int .i64) (.int .u64))))), (143, (.st (.pair (.row 5 (.int .u8)) (.pair (.int .i64) (.int .u64))))), (158, (.int .u64)), (166, (.int .u32)), (167, (.int .u8)), (168, (.int .u8)), (171, (.int .i32)), (172, (.int .i32))]
def TT : TyTab := fun t => tbl.lookup t
def smalls : List Nat := [2, 5, 22, 26, 34, 49, 50, 52, 85, 115]
def small : TypeId → Bool := fun e => smalls.contains e
set_option maxRecDepth 100000
theorem tysOk : (tbl.all fun q => tyOk Try.pinned.checked.prog TT q.1 q.2) = true := by kernel_rfl
def depthsOk (l : List (Nat × Ty)) : Bool := l.all fun q => decide (q.2.depth < 10000)
theorem depths : depthsOk tbl = true := by kernel_rfl
theorem guards : (tbl.all fun q => !(q.2.isAgg && Try.pinned.checked.prog.eqGuardType Try.pinned.checked.prog.depth q.1)) = true := by kernel_rfl
theorem smallsOk : (smalls.all fun e => match Try.pinned.checked.prog.info? e with | some i => decide (0 < i.bytes) && (decide (i.bytes ≤ 4096) && decide (i.size ≤ 4096)) | none => false) = true := by kernel_rfl
def zOk (t : Nat) (y : Ty) : Prop := ((Try.pinned.checked.prog.info? t).bind (·.zero)).map (·.cells.toList) = some (cells y y.dflt y.dloc)
theorem zs : ∀ q, q ∈ tbl → zOk q.1 q.2 := by
  intro q hq
  simp only [tbl, List.mem_cons, List.not_mem_nil, or_false] at hq
  rcases hq with rfl | rfl | rfl | rfl | rfl | rfl | rfl | rfl | rfl | rfl | rfl | rfl | rfl | rfl | rfl | rfl | rfl | rfl | rfl | rfl | rfl | rfl | rfl | rfl | rfl | rfl | rfl | rfl | rfl | rfl | rfl | rfl | rfl | rfl | rfl | rfl | rfl | rfl | rfl | rfl | rfl | rfl
  · exact (show zOk 2 (.int .i64) by unfold zOk; kernel_rfl)
  · exact (show zOk 3 (.int .i64) by unfold zOk; kernel_rfl)
  · exact (show zOk 4 .bool by unfold zOk; kernel_rfl)
  · exact (show zOk 5 (.int .u8) by unfold zOk; kernel_rfl)
  · exact (show zOk 6 (.int .u8) by unfold zOk; kernel_rfl)
  · exact (show zOk 7 (.st (.pair (.int .i64) (.pair (.int .i64) (.pair .bool (.int .u8))))) by unfold zOk; kernel_rfl)
  · exact (show zOk 8 (.st (.pair (.int .i64) (.pair (.int .i64) (.pair .bool (.int .u8))))) by unfold zOk; kernel_rfl)
  · exact (show zOk 9 .str by unfold zOk; kernel_rfl)
  · exact (show zOk 10 .str by unfold zOk; kernel_rfl)
  · exact (show zOk 11 .str by unfold zOk; kernel_rfl)
  · exact (show zOk 12 (.int .u64) by unfold zOk; kernel_rfl)
  · exact (show zOk 21 (.int .i32) by unfold zOk; kernel_rfl)
  · exact (show zOk 22 (.row 85 (.st (.pair (.st (.pair (.int .u8) (.int .i16))) (.int .i16)))) by unfold zOk; kernel_rfl)
  · exact (show zOk 26 (.row 52 (.st (.pair (.st (.pair (.int .u8) (.int .i16))) (.int .i16)))) by unfold zOk; kernel_rfl)
  · exact (show zOk 30 (.row 22 (.row 85 (.st (.pair (.st (.pair (.int .u8) (.int .i16))) (.int .i16))))) by unfold zOk; kernel_rfl)
  · exact (show zOk 32 (.row 26 (.row 52 (.st (.pair (.st (.pair (.int .u8) (.int .i16))) (.int .i16))))) by unfold zOk; kernel_rfl)
  · exact (show zOk 33 (.row 26 (.row 52 (.st (.pair (.st (.pair (.int .u8) (.int .i16))) (.int .i16))))) by unfold zOk; kernel_rfl)
  · exact (show zOk 34 (.row 2 (.int .i64)) by unfold zOk; kernel_rfl)
  · exact (show zOk 47 (.int .i16) by unfold zOk; kernel_rfl)
  · exact (show zOk 48 (.st (.pair (.int .u8) (.int .i16))) by unfold zOk; kernel_rfl)
  · exact (show zOk 49 (.st (.pair (.int .u8) (.int .i16))) by unfold zOk; kernel_rfl)
  · exact (show zOk 50 (.st (.pair (.int .u8) (.int .i16))) by unfold zOk; kernel_rfl)
  · exact (show zOk 51 (.st (.pair (.st (.pair (.int .u8) (.int .i16))) (.int .i16))) by unfold zOk; kernel_rfl)
  · exact (show zOk 52 (.st (.pair (.st (.pair (.int .u8) (.int .i16))) (.int .i16))) by unfold zOk; kernel_rfl)
  · exact (show zOk 58 (.row 49 (.st (.pair (.int .u8) (.int .i16)))) by unfold zOk; kernel_rfl)
  · exact (show zOk 62 (.row 50 (.st (.pair (.int .u8) (.int .i16)))) by unfold zOk; kernel_rfl)
  · exact (show zOk 69 (.row 5 (.int .u8)) by unfold zOk; kernel_rfl)
  · exact (show zOk 84 (.st (.pair (.st (.pair (.int .u8) (.int .i16))) (.int .i16))) by unfold zOk; kernel_rfl)
  · exact (show zOk 85 (.st (.pair (.st (.pair (.int .u8) (.int .i16))) (.int .i16))) by unfold zOk; kernel_rfl)
  · exact (show zOk 105 (.row 34 (.row 2 (.int .i64))) by unfold zOk; kernel_rfl)
  · exact (show zOk 112 (.row 115 (.st (.pair (.int .i64) (.pair (.int .i64) (.st (.pair (.st (.pair (.int .u8) (.int .i16))) (.int .i16))))))) by unfold zOk; kernel_rfl)
  · exact (show zOk 114 (.st (.pair (.int .i64) (.pair (.int .i64) (.st (.pair (.st (.pair (.int .u8) (.int .i16))) (.int .i16)))))) by unfold zOk; kernel_rfl)
  · exact (show zOk 115 (.st (.pair (.int .i64) (.pair (.int .i64) (.st (.pair (.st (.pair (.int .u8) (.int .i16))) (.int .i16)))))) by unfold zOk; kernel_rfl)
  · exact (show zOk 141 (.int .u64) by unfold zOk; kernel_rfl)
  · exact (show zOk 142 (.st (.pair (.row 5 (.int .u8)) (.pair (.int .i64) (.int .u64)))) by unfold zOk; kernel_rfl)
  · exact (show zOk 143 (.st (.pair (.row 5 (.int .u8)) (.pair (.int .i64) (.int .u64)))) by unfold zOk; kernel_rfl)
  · exact (show zOk 158 (.int .u64) by unfold zOk; kernel_rfl)
  · exact (show zOk 166 (.int .u32) by unfold zOk; kernel_rfl)
  · exact (show zOk 167 (.int .u8) by unfold zOk; kernel_rfl)
  · exact (show zOk 168 (.int .u8) by unfold zOk; kernel_rfl)
  · exact (show zOk 171 (.int .i32) by unfold zOk; kernel_rfl)
  · exact (show zOk 172 (.int .i32) by unfold zOk; kernel_rfl)
theorem TT_mem {t : Nat} {y : Ty} (h : TT t = some y) : (t, y) ∈ tbl := by
  unfold TT at h
  generalize tbl = l at h ⊢
  induction l with
  | nil => cases h
  | cons q l ih =>
    obtain ⟨k, z⟩ := q
    rw [List.lookup_cons] at h
    split at h
    · rename_i e
      have e : t = k := by simpa using e
      obtain rfl := Option.some.inj h
      subst e
      exact List.mem_cons_self ..
    · exact List.mem_cons_of_mem _ (ih h)
theorem ttok (Tb : FuncId → Option Sig) : TTok Try.pinned.checked.prog ⟨TT, small, Tb, 0, 0⟩ where
  ty := fun t y h => List.all_eq_true.1 tysOk _ (TT_mem h)
  zero := fun t y h => by
    have := zs _ (TT_mem h)
    unfold zOk at this
    obtain ⟨z, hz, hc⟩ := Option.map_eq_some_iff.1 this
    obtain ⟨i, hi, hz⟩ := Option.bind_eq_some_iff.1 hz
    exact ⟨i, z, hi, hz, hc⟩
  shallow := fun t y h => by
    have := List.all_eq_true.1 depths _ (TT_mem h)
    simpa using this
  guard := fun t y h ha => by
    have := List.all_eq_true.1 guards _ (TT_mem h)
    simp only [ha, Bool.true_and, Bool.not_eq_true'] at this
    exact this
  small := fun e h => by
    have hm : e ∈ smalls := by simpa [small] using h
    have := List.all_eq_true.1 smallsOk e hm
    split at this
    · rename_i i hi
      simp only [Bool.and_eq_true, decide_eq_true_eq] at this
      exact ⟨i, hi, this.1, this.2.1, this.2.2⟩
    · cases this
end Go.Proofs.Yteaodjahafgbcaa.G
