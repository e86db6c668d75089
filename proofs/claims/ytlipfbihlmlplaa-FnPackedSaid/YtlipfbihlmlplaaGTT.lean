/- The program's types, as they are read. -/
import Derived.Test.YtlipfbihlmlplaaRows
import Derived.Test.YtlipfbihlmlplaaG4
import Derived.KernelRfl
namespace Go.Proofs.Ytlipfbihlmlplaa.G
open Go
set_option linter.unusedVariables false
def tbl:List (Nat×Ty):=[(2,(.int .i64)),(3,(.int .i64)),(4,.bool),(5,(.int .u8)),(6,(.int .u8)),(7,(.st (.pair (.int .i64) (.pair (.int .i64) (.pair .bool (.int .u8)))))),(8,(.st (.pair (.int .i64) (.pair (.int .i64) (.pair .bool (.int .u8)))))),(9,.str),(10,.str),(11,.str),(12,(.int .u64)),(21,(.int .i32)),(22,(.int .i16)),(23,(.st (.pair (.int .u8) (.int .i16)))),(24,(.st (.pair (.int .u8) (.int .i16)))),(25,(.arr 12 (.st (.pair (.int .u8) (.int .i16))))),(26,(.row 73 (.st (.pair (.int .i8) (.int .i8))))),(29,(.st (.pair (.int .u8) (.int .i16)))),(30,(.arr 12 (.st (.pair (.int .u8) (.int .i16))))),(31,(.arr 12 (.st (.pair (.int .u8) (.int .i16))))),(36,(.row 5 (.int .u8))),(38,(.row 31 (.arr 12 (.st (.pair (.int .u8) (.int .i16)))))),(42,(.row 51 (.st (.pair (.st (.pair (.int .u8) (.int .i16))) (.int .i64))))),(50,(.st (.pair (.st (.pair (.int .u8) (.int .i16))) (.int .i64)))),(51,(.st (.pair (.st (.pair (.int .u8) (.int .i16))) (.int .i64)))),(60,(.row 2 (.int .i64))),(63,(.row 29 (.st (.pair (.int .u8) (.int .i16))))),(71,(.int .i8)),(72,(.st (.pair (.int .i8) (.int .i8)))),(73,(.st (.pair (.int .i8) (.int .i8)))),(121,(.row 3 (.int .i64))),(122,(.st (.pair (.row 31 (.arr 12 (.st (.pair (.int .u8) (.int .i16))))) (.pair (.row 51 (.st (.pair (.st (.pair (.int .u8) (.int .i16))) (.int .i64)))) (.pair (.row 3 (.int .i64)) (.pair (.int .i64) .bool)))))),(123,(.st (.pair (.row 31 (.arr 12 (.st (.pair (.int .u8) (.int .i16))))) (.pair (.row 51 (.st (.pair (.st (.pair (.int .u8) (.int .i16))) (.int .i64)))) (.pair (.row 3 (.int .i64)) (.pair (.int .i64) .bool)))))),(130,(.int .u64)),(131,(.st (.pair (.row 5 (.int .u8)) (.pair (.int .i64) (.int .u64))))),(132,(.st (.pair (.row 5 (.int .u8)) (.pair (.int .i64) (.int .u64))))),(150,(.int .u64)),(157,(.arr 256 (.int .i64))),(162,(.int .i64)),(170,(.int .u32)),(182,(.int .u64)),(201,(.int .u8)),(202,(.int .u8)),(205,(.int .i32)),(206,(.int .i32))]
def TT:TyTab:=fun t=>tbl.lookup t
def smalls:List Nat:=[2,3,5,29,31,51,73]
def small:TypeId→Bool:=fun e=>smalls.contains e
set_option maxRecDepth 100000
theorem tysOk:(tbl.all fun q=>tyOk Try.pinned.checked.prog TT q.1 q.2)=true:=by kernel_rfl
def depthsOk(l:List (Nat×Ty)):Bool:=l.all fun q=>decide (q.2.depth<10000)
theorem depths:depthsOk tbl=true:=by kernel_rfl
theorem guards:(tbl.all fun q=>!(q.2.isAgg&&Try.pinned.checked.prog.eqGuardType Try.pinned.checked.prog.depth q.1))=true:=by kernel_rfl
theorem smallsOk:(smalls.all fun e=>match Try.pinned.checked.prog.info? e with|some i=>decide (0<i.bytes)&&(decide (i.bytes≤4096)&&decide (i.size≤4096))|none=>false)=true:=by kernel_rfl
def zOk(t:Nat)(y:Ty):Prop:=((Try.pinned.checked.prog.info? t).bind (·.zero)).map (·.cells.toList)=some (cells y y.dflt y.dloc)
theorem zs:∀q,q∈tbl→zOk q.1 q.2:=by
 intro q hq
 simp only[tbl,List.mem_cons,List.not_mem_nil,or_false] at hq
 rcases hq with rfl|rfl|rfl|rfl|rfl|rfl|rfl|rfl|rfl|rfl|rfl|rfl|rfl|rfl|rfl|rfl|rfl|rfl|rfl|rfl|rfl|rfl|rfl|rfl|rfl|rfl|rfl|rfl|rfl|rfl|rfl|rfl|rfl|rfl|rfl|rfl|rfl|rfl|rfl|rfl|rfl|rfl|rfl|rfl|rfl
 ·exact (show zOk 2 (.int .i64) by unfold zOk;kernel_rfl)
 ·exact (show zOk 3 (.int .i64) by unfold zOk;kernel_rfl)
 ·exact (show zOk 4 .bool by unfold zOk;kernel_rfl)
 ·exact (show zOk 5 (.int .u8) by unfold zOk;kernel_rfl)
 ·exact (show zOk 6 (.int .u8) by unfold zOk;kernel_rfl)
 ·exact (show zOk 7 (.st (.pair (.int .i64) (.pair (.int .i64) (.pair .bool (.int .u8))))) by unfold zOk;kernel_rfl)
 ·exact (show zOk 8 (.st (.pair (.int .i64) (.pair (.int .i64) (.pair .bool (.int .u8))))) by unfold zOk;kernel_rfl)
 ·exact (show zOk 9 .str by unfold zOk;kernel_rfl)
 ·exact (show zOk 10 .str by unfold zOk;kernel_rfl)
 ·exact (show zOk 11 .str by unfold zOk;kernel_rfl)
 ·exact (show zOk 12 (.int .u64) by unfold zOk;kernel_rfl)
 ·exact (show zOk 21 (.int .i32) by unfold zOk;kernel_rfl)
 ·exact (show zOk 22 (.int .i16) by unfold zOk;kernel_rfl)
 ·exact (show zOk 23 (.st (.pair (.int .u8) (.int .i16))) by unfold zOk;kernel_rfl)
 ·exact (show zOk 24 (.st (.pair (.int .u8) (.int .i16))) by unfold zOk;kernel_rfl)
 ·exact (show zOk 25 (.arr 12 (.st (.pair (.int .u8) (.int .i16)))) by unfold zOk;kernel_rfl)
 ·exact (show zOk 26 (.row 73 (.st (.pair (.int .i8) (.int .i8)))) by unfold zOk;kernel_rfl)
 ·exact (show zOk 29 (.st (.pair (.int .u8) (.int .i16))) by unfold zOk;kernel_rfl)
 ·exact (show zOk 30 (.arr 12 (.st (.pair (.int .u8) (.int .i16)))) by unfold zOk;kernel_rfl)
 ·exact (show zOk 31 (.arr 12 (.st (.pair (.int .u8) (.int .i16)))) by unfold zOk;kernel_rfl)
 ·exact (show zOk 36 (.row 5 (.int .u8)) by unfold zOk;kernel_rfl)
 ·exact (show zOk 38 (.row 31 (.arr 12 (.st (.pair (.int .u8) (.int .i16))))) by unfold zOk;kernel_rfl)
 ·exact (show zOk 42 (.row 51 (.st (.pair (.st (.pair (.int .u8) (.int .i16))) (.int .i64)))) by unfold zOk;kernel_rfl)
 ·exact (show zOk 50 (.st (.pair (.st (.pair (.int .u8) (.int .i16))) (.int .i64))) by unfold zOk;kernel_rfl)
 ·exact (show zOk 51 (.st (.pair (.st (.pair (.int .u8) (.int .i16))) (.int .i64))) by unfold zOk;kernel_rfl)
 ·exact (show zOk 60 (.row 2 (.int .i64)) by unfold zOk;kernel_rfl)
 ·exact (show zOk 63 (.row 29 (.st (.pair (.int .u8) (.int .i16)))) by unfold zOk;kernel_rfl)
 ·exact (show zOk 71 (.int .i8) by unfold zOk;kernel_rfl)
 ·exact (show zOk 72 (.st (.pair (.int .i8) (.int .i8))) by unfold zOk;kernel_rfl)
 ·exact (show zOk 73 (.st (.pair (.int .i8) (.int .i8))) by unfold zOk;kernel_rfl)
 ·exact (show zOk 121 (.row 3 (.int .i64)) by unfold zOk;kernel_rfl)
 ·exact (show zOk 122 (.st (.pair (.row 31 (.arr 12 (.st (.pair (.int .u8) (.int .i16))))) (.pair (.row 51 (.st (.pair (.st (.pair (.int .u8) (.int .i16))) (.int .i64)))) (.pair (.row 3 (.int .i64)) (.pair (.int .i64) .bool))))) by unfold zOk;kernel_rfl)
 ·exact (show zOk 123 (.st (.pair (.row 31 (.arr 12 (.st (.pair (.int .u8) (.int .i16))))) (.pair (.row 51 (.st (.pair (.st (.pair (.int .u8) (.int .i16))) (.int .i64)))) (.pair (.row 3 (.int .i64)) (.pair (.int .i64) .bool))))) by unfold zOk;kernel_rfl)
 ·exact (show zOk 130 (.int .u64) by unfold zOk;kernel_rfl)
 ·exact (show zOk 131 (.st (.pair (.row 5 (.int .u8)) (.pair (.int .i64) (.int .u64)))) by unfold zOk;kernel_rfl)
 ·exact (show zOk 132 (.st (.pair (.row 5 (.int .u8)) (.pair (.int .i64) (.int .u64)))) by unfold zOk;kernel_rfl)
 ·exact (show zOk 150 (.int .u64) by unfold zOk;kernel_rfl)
 ·exact (show zOk 157 (.arr 256 (.int .i64)) by unfold zOk;kernel_rfl)
 ·exact (show zOk 162 (.int .i64) by unfold zOk;kernel_rfl)
 ·exact (show zOk 170 (.int .u32) by unfold zOk;kernel_rfl)
 ·exact (show zOk 182 (.int .u64) by unfold zOk;kernel_rfl)
 ·exact (show zOk 201 (.int .u8) by unfold zOk;kernel_rfl)
 ·exact (show zOk 202 (.int .u8) by unfold zOk;kernel_rfl)
 ·exact (show zOk 205 (.int .i32) by unfold zOk;kernel_rfl)
 ·exact (show zOk 206 (.int .i32) by unfold zOk;kernel_rfl)
theorem TT_mem{t:Nat}{y:Ty}(h:TT t=some y):(t,y)∈tbl:=by
 unfold TT at h
 generalize tbl=l at h ⊢
 induction l with
 |nil=>cases h
 |cons q l ih=>
  obtain⟨k,z⟩:=q
  rw[List.lookup_cons] at h
  split at h
  ·rename_i e
   have e:t=k:=by simpa using e
   obtain rfl:=Option.some.inj h
   subst e
   exact List.mem_cons_self ..
  ·exact List.mem_cons_of_mem _ (ih h)
theorem ttok(Tb:FuncId→Option Sig):TTok Try.pinned.checked.prog ⟨TT,small,Tb,0,0⟩ where
 ty:=fun t y h=>List.all_eq_true.1 tysOk _ (TT_mem h)
 zero:=fun t y h=>by
  have:=zs _ (TT_mem h)
  unfold zOk at this
  obtain⟨z,hz,hc⟩:=Option.map_eq_some_iff.1 this
  obtain⟨i,hi,hz⟩:=Option.bind_eq_some_iff.1 hz
  exact⟨i,z,hi,hz,hc⟩
 shallow:=fun t y h=>by
  have:=List.all_eq_true.1 depths _ (TT_mem h)
  simpa using this
 guard:=fun t y h ha=>by
  have:=List.all_eq_true.1 guards _ (TT_mem h)
  simp only[ha,Bool.true_and,Bool.not_eq_true'] at this
  exact this
 small:=fun e h=>by
  have hm:e∈smalls:=by simpa[small] using h
  have:=List.all_eq_true.1 smallsOk e hm
  split at this
  ·rename_i i hi
   simp only[Bool.and_eq_true,decide_eq_true_eq] at this
   exact⟨i,hi,this.1,this.2.1,this.2.2⟩
  ·cases this
end Go.Proofs.Ytlipfbihlmlplaa.G
