/- The drawers of choices, walked; bottles in order by the library's sort. -/
import Derived.Test.YtlipfbihlmlplaaProg
import Derived.Maps.OwnOps
import Derived.WalkKit
import Derived.Carry
import Derived.KernelRfl
import Derived.Deep.RegionHeld3
import Derived.IntWalk
import Derived.Deep.AppendLies
import Derived.Tactics2
import Derived.Laws.EntriesVeiled
import Derived.Deep.RegionLaw
import Derived.Deep.RegionLawGrows
import Derived.StillTactics
import Derived.Deep.MidRow
import Derived.WalkSpells
import Derived.Laws.Pointers
import Derived.Deep.QuietTactic
import Derived.BigQuiet
import Derived.Great.BuildSlice
import Derived.Maps.AppendAt
import Derived.Shelf.SlSortCmp.NoneTotal
import Derived.Ground.SlsfProg
namespace Go.Proofs
open Go Go.RowKit
set_option linter.unusedVariables false
set_option linter.unusedSimpArgs false
set_option maxRecDepth 100000
theorem step_calls{P:Program}{ops:Array Oper}{o:Oper}{a:Act}{w:World}{K:Act→World→Prop}{Q:Exit→Act→World→Prop}{E:Prop}(hgd:o.guard=none)(x:Operand)(args:Array Operand)(ts:Array TypeId)
  (ho:o.op = .call { callee:=.value x,args:=args,argTypes:=ts }) (F:FuncId) (caps:Array Value) (hx:a.eval x = .func (.func F) #[] caps) (vs:Array Value) (hvs:#[]++args.map a.eval++caps=vs)
  (fn : Go.Func) (f1 : P.funcs[F]? = some fn) (f2 : (fn.name == "runtime.NumGoroutine") = false) (f3 : fn.body.isNone = false) (R : Value → World → Prop) (h : Calls P F vs w fun e w' => ∃ v, e = .returned v ∧ R v w')
  (hk:∀v w',R v w'→K (a.put o.dst v) w'):if Region.wanted o (yielded ops a.tmps)=true then Oper.wp P o a w K Q else E:=by
 have hw:Region.wanted o (yielded ops a.tmps)=true:=by simp[Region.wanted,hgd]
 rw[if_pos hw]
 have hrun:(execOp a.eval o).run P w = .ok (.enter F vs) w:=by
  unfold execOp
  rw[ho]
  simp only[resolve,Deferred.ofValue,hx,Sem.run_bind,Sem.run_pure,Result.andThen_ok,invoke,callFunc,run_program,f1,hvs]
  simp[f2,f3]
 unfold Oper.wp
 rw[hrun]
 refine h.mono fun e w' he=>?_
 obtain⟨v,rfl,hr⟩:=he
 exact hk v w' hr
theorem wpList_load_midG{P:Program}{ops:Array Oper}{rest:List Oper}{op:Oper}{a:Act}{w:World}{Q:Exit→Act→World→Prop}(ty:TypeId)(x:Operand)(ho:op.op = .load ty x)(hw:Region.wanted op (yielded ops a.tmps)=true)
  (b o:Nat) (hx:a.eval x = .pointer (some ⟨b,o,none⟩)) (cs:List Value) (d:TypeDesc) (hc:w.rangeAt b o cs)
  (hu:P.underlying ty=some d) (hd:d.isRow=true) (hi:(P.info? ty).map (·.size)=some cs.length)
  (h:wpList P ops Q rest (a.put op.dst (.agg cs.toArray)) w):wpList P ops Q (op::rest) a w:=
 wpList_step fun K hK=>by rw[if_pos hw];exact wp_load_mid ty x ho b o hx cs d hc hu hd hi (hK _ _ h)
theorem range_of{w:World}{b:Nat}{cs:List Value}{t:TypeId}(h:w.heap[b]? = some (.cells cs.toArray t (0,0))):w.rangeAt b 0 cs:=fun j v hv=>by
 have:w.cell? ⟨b,0+j,none⟩=cs.toArray[0+j]? := by simp[World.cell?,h]
 rw[this,Nat.zero_add]
 simpa using hv
def RdU(w:World)(v:Value)(l:List Int)(bs:Nat):Prop:=∃A cap,v = .slice A l.length cap∧l.length≤cap∧(0<l.length→∃b o,A=some ⟨b,o,none⟩∧b<w.heap.size∧b≠bs∧∀i (h:i<l.length),w.cell? ⟨b,o+i,none⟩=some (.int .u8 l[i]))
structure SrcW(w:World)(bs:Nat)(V:Value)(code:List Int)(pos:Nat)(seed:Int):Prop where
 hs:w.heap[bs]? = some (.cells #[V,.int .i64 (pos:Int),.int .u64 seed] 132 (0,0))
 rd:RdU w V code bs
structure Fr1(w w':World)(bs:Nat):Prop where
 os:w'.os=w.os
 tape:w'.tape=w.tape
 output:w'.output=w.output
 size:w.heap.size≤w'.heap.size
 block:∀k,k<w.heap.size→k≠bs→w'.heap[k]? = w.heap[k]?
theorem Fr1.trans{w w1 w2:World}{bs:Nat}(h:Fr1 w w1 bs)(k:Fr1 w1 w2 bs):Fr1 w w2 bs:=⟨k.os.trans h.os,k.tape.trans h.tape,k.output.trans h.output,Nat.le_trans h.size k.size,fun i hi hn=>(k.block i (Nat.lt_of_lt_of_le hi h.size) hn).trans (h.block i hi hn)⟩
theorem Fr1.drewN{w w1:World}{bs:Nat}(h:Fr1 w w1 bs)(n:Nat):Fr1 w (w1.drewN n) bs:=⟨h.os,h.tape,h.output,h.size,h.block⟩
theorem Fr1.refl(w:World)(bs:Nat):Fr1 w w bs:=⟨rfl,rfl,rfl,Nat.le_refl _,fun _ _ _=>rfl⟩
theorem SrcW.cells{w:World}{bs:Nat}{V:Value}{code:List Int}{pos:Nat}{seed:Int}(h:SrcW w bs V code pos seed):w.cell? ⟨bs,0,none⟩=some V∧w.cell? ⟨bs,1,none⟩=some (.int .i64 (pos:Int))∧w.cell? ⟨bs,2,none⟩=some (.int .u64 seed)∧w.frozen? ⟨bs,1,none⟩=false∧w.frozen? ⟨bs,2,none⟩=false:=by
 refine⟨?_,?_,?_,?_,?_⟩<;>simp[World.cell?,World.frozen?,h.hs]
def Dr.seedY(s b:Int):Int:=IntKind.u64.wrap (IntKind.u64.wrap (IntKind.u64.wrap (s*6364136223846793005)+IntKind.u64.wrap b)+1442695040888963407)
def Dr.seedN(s:Int):Int:=IntKind.u64.wrap (IntKind.u64.wrap (IntKind.u64.wrap (s*6364136223846793005))+1442695040888963407)
def Dr.next(code:List Int)(st:Nat×Int):Int×Nat×Int:=
 if st.1<code.length then (RowKit.wrap64 (code.getD st.1 0),st.1+1,Dr.seedY st.2 (RowKit.wrap64 (code.getD st.1 0)))
 else (RowKit.wrap64 (bits BinOp.and IntKind.u64 (Dr.seedN st.2 / 1099511627776) 255),st.1+1,Dr.seedN st.2)
theorem src_set{w:World}{bs:Nat}{V:Value}{code:List Int}{pos:Nat}{seed:Int}(h:SrcW w bs V code pos seed)(n:Nat)(p2 s2:Int):((((w.drewN n).setCell ⟨bs,1,none⟩ (.int .i64 p2)).setCell ⟨bs,2,none⟩ (.int .u64 s2)).heap[bs]? = some (.cells #[V,.int .i64 p2,.int .u64 s2] 132 (0,0))) ∧
  Fr1 w (((w.drewN n).setCell ⟨bs,1,none⟩ (.int .i64 p2)).setCell ⟨bs,2,none⟩ (.int .u64 s2)) bs:=by
 refine⟨by simp[World.setCell,Array.getElem?_modify,h.hs],rfl,rfl,rfl,by simp[World.setCell],fun k hk hne=>?_⟩
 simp[World.setCell,Array.getElem?_modify,show ¬bs=k from fun q=>hne q.symm]
theorem RdU.fr{w w':World}{V:Value}{code:List Int}{bs:Nat}(h:RdU w V code bs)(hf:Fr1 w w' bs):RdU w' V code bs:=by
 obtain⟨A,cap,e,h1,h2⟩:=h
 refine⟨A,cap,e,h1,fun q=>?_⟩
 obtain⟨b,o,e1,e2,e3,e4⟩:=h2 q
 exact⟨b,o,e1,Nat.lt_of_lt_of_le e2 hf.size,e3,fun i hi=>(World.cell?_of_block (hf.block b e2 e3)).trans (e4 i hi)⟩
set_option maxHeartbeats 4000000 in
theorem Try.next_calls(bs:Nat)(V:Value)(code:List Int)(pos:Nat)(seed:Int)(w:World)(h:SrcW w bs V code pos seed)(hp:pos≤1000000)(hc:code.length≤1000000)(hcode:∀x,x∈code→0≤x∧x≤255):
  Calls Try.prog 110 #[.pointer (some ⟨bs,0,none⟩)] w fun e w'=>e = .returned (.int .i64 (Dr.next code (pos,seed)).1)∧SrcW w' bs V code (Dr.next code (pos,seed)).2.1 (Dr.next code (pos,seed)).2.2∧Fr1 w w' bs:=by
 obtain⟨c0,c1,c2,f1,f2⟩:=h.cells
 obtain⟨A,cap,rfl,r1,r2⟩:=h.rd
 by_cases hlt:pos<code.length
 ·obtain⟨b,o,rfl,hb,hne,hcells⟩:=r2 (by omega)
  have g1:=hcells pos hlt
  go_enter Try.func110,Try.ntmps110
  go_wp2
  go_quiet (fail)
  go_wp2
  go_quiet (fail)
  go_wp2
  go_quiet (fail)
  go_wp2
  go_ret
  have en:Dr.next code (pos,seed)=(RowKit.wrap64 code[pos],pos+1,Dr.seedY seed (RowKit.wrap64 code[pos])):=by
   unfold Dr.next
   have e:code.getD pos 0=code[pos]:=by rw[List.getD_eq_getElem?_getD,List.getElem?_eq_getElem hlt];rfl
   rw[if_pos hlt]
   simp only[e]
  rw[en]
  obtain⟨q1,q2⟩:=src_set h _ ((pos:Int)+1) (Dr.seedY seed (RowKit.wrap64 code[pos]))
  exact⟨rfl,⟨q1,h.rd.fr (q2.drewN _)⟩,q2.drewN _⟩
 ·go_enter Try.func110,Try.ntmps110
  go_wp2
  go_quiet (fail)
  go_wp2
  go_quiet (fail)
  go_wp2
  go_ret
  have en:Dr.next code (pos,seed)=(RowKit.wrap64 (bits BinOp.and IntKind.u64 (Dr.seedN seed / 1099511627776) 255),pos+1,Dr.seedN seed):=by
   unfold Dr.next
   rw[if_neg hlt]
  rw[en]
  obtain⟨q1,q2⟩:=src_set h _ ((pos:Int)+1) (Dr.seedN seed)
  exact⟨rfl,⟨q1,h.rd.fr (q2.drewN _)⟩,q2.drewN _⟩
def Dr.pick(code:List Int)(n:Nat)(st:Nat×Int):Int×Nat×Int:=if n≤1 then (0,st) else ((Dr.next code st).1 % (n:Int),(Dr.next code st).2)
theorem Dr.and_255(a:Int):0≤bits BinOp.and IntKind.u64 a 255∧bits BinOp.and IntKind.u64 a 255≤255:=by
 show 0≤IntKind.u64.wrap (((BitVec.ofInt 64 a &&& BitVec.ofInt 64 255).toNat:Nat):Int)∧IntKind.u64.wrap (((BitVec.ofInt 64 a &&& BitVec.ofInt 64 255).toNat:Nat):Int)≤255
 have h:(BitVec.ofInt 64 a &&& BitVec.ofInt 64 255).toNat≤255:=by
  rw[BitVec.toNat_and]
  exact Nat.and_le_right
 rw[IntKind.wrap_u64]
 omega
theorem Dr.next_bd{code:List Int}(hcode:∀x,x∈code→0≤x∧x≤255)(st:Nat×Int):0≤(Dr.next code st).1∧(Dr.next code st).1≤255∧(Dr.next code st).2.1=st.1+1:=by
 unfold Dr.next
 split
 ·rename_i h
  have e:code.getD st.1 0=code[st.1]:=by rw[List.getD_eq_getElem?_getD,List.getElem?_eq_getElem h];rfl
  have:=hcode _ (List.getElem_mem h)
  refine⟨?_,?_,rfl⟩
  ·show 0≤RowKit.wrap64 (code.getD st.1 0)
   rw[e];unfold RowKit.wrap64;omega
  ·show RowKit.wrap64 (code.getD st.1 0)≤255
   rw[e];unfold RowKit.wrap64;omega
 ·have:=Dr.and_255 (Dr.seedN st.2 / 1099511627776)
  refine⟨?_,?_,rfl⟩
  ·show 0≤RowKit.wrap64 (bits BinOp.and IntKind.u64 (Dr.seedN st.2 / 1099511627776) 255)
   unfold RowKit.wrap64;omega
  ·show RowKit.wrap64 (bits BinOp.and IntKind.u64 (Dr.seedN st.2 / 1099511627776) 255)≤255
   unfold RowKit.wrap64;omega
set_option maxHeartbeats 4000000 in
theorem Try.pick_calls(bs:Nat)(V:Value)(code:List Int)(pos:Nat)(seed:Int)(n:Nat)(w:World)(h:SrcW w bs V code pos seed)(hp:pos≤1000000)(hc:code.length≤1000000)(hcode:∀x,x∈code→0≤x∧x≤255)(hn:n≤200):
  Calls Try.prog 63 #[.pointer (some ⟨bs,0,none⟩),.int .i64 (n:Int)] w fun e w'=>e = .returned (.int .i64 (Dr.pick code n (pos,seed)).1)∧SrcW w' bs V code (Dr.pick code n (pos,seed)).2.1 (Dr.pick code n (pos,seed)).2.2∧Fr1 w w' bs:=by
 unfold Dr.pick
 have hx:=Try.next_calls bs V code pos seed w h hp hc hcode
 obtain⟨b1,b2,b3⟩:=Dr.next_bd hcode (pos,seed)
 by_cases c:n≤1
 ·rw[if_pos c]
  go_enter Try.func63,Try.ntmps63
  go_wp2
  go_ret
  exact⟨rfl,h,Fr1.refl _ _⟩
 ·rw[if_neg c]
  generalize Dr.next code (pos,seed)=q at hx b1 b2 b3
  go_enter Try.func63,Try.ntmps63
  go_wp2_with (go_at_call 110;refine hx.mono ?_;rintro e w1 ⟨rfl,h1,h2⟩)
  go_ret
  exact⟨rfl,h1,h2⟩
theorem Dr.pick_bd{code:List Int}(hcode:∀x,x∈code→0≤x∧x≤255)(n:Nat)(st:Nat×Int):0≤(Dr.pick code n st).1∧(1<n→(Dr.pick code n st).1<n)∧(n≤1→(Dr.pick code n st).1=0)∧(Dr.pick code n st).2.1≤st.1+1:=by
 unfold Dr.pick
 obtain⟨b1,b2,b3⟩:=Dr.next_bd hcode st
 split
 ·exact⟨Int.le_refl _,fun q=>by omega,fun _=>rfl,by show st.1≤st.1+1;omega⟩
 ·rename_i c
  refine⟨Int.emod_nonneg _ (by omega),fun _=>Int.emod_lt_of_pos _ (by omega),fun q=>absurd q c,by show (Dr.next code st).2.1≤_;omega⟩
theorem SrcW.alloc{w:World}{bs:Nat}{V:Value}{code:List Int}{pos:Nat}{seed:Int}(h:SrcW w bs V code pos seed)(o:Obj):SrcW (w.alloc o) bs V code pos seed∧Fr1 w (w.alloc o) bs:=by
 have hb:bs<w.heap.size:=(Array.getElem?_eq_some_iff.1 h.hs).1
 have hf:Fr1 w (w.alloc o) bs:=⟨rfl,rfl,rfl,by simp,fun k hk _=>heap_alloc_old w o hk⟩
 exact⟨⟨(heap_alloc_old w o hb).trans h.hs,h.rd.fr hf⟩,hf⟩
theorem SrcW.lt{w:World}{bs:Nat}{V:Value}{code:List Int}{pos:Nat}{seed:Int}(h:SrcW w bs V code pos seed):bs<w.heap.size:=(Array.getElem?_eq_some_iff.1 h.hs).1
theorem Fr1.set{w w2:World}{bs b:Nat}(h:Fr1 w w2 bs)(hb:w.heap.size≤b)(o:Nat)(v:Value):Fr1 w (w2.setCell ⟨b,o,none⟩ v) bs:=
 ⟨h.os,h.tape,h.output,by simp[World.setCell];exact h.size,fun k hk hne=>by
  rw[show (w2.setCell ⟨b,o,none⟩ v).heap[k]? = w2.heap[k]? from Below.heap_setCell _ _ _ _ (by show k≠b;omega)]
  exact h.block k hk hne⟩
def Dr.one(code:List Int)(st:Nat×Int):(Int×Int)×Nat×Int:=((1+(Dr.pick code 3 st).1,1998+(Dr.pick code 3 (Dr.pick code 3 st).2).1),(Dr.pick code 3 (Dr.pick code 3 st).2).2)
set_option maxHeartbeats 4000000 in
theorem Try.one_calls(bs:Nat)(V:Value)(code:List Int)(pos:Nat)(seed:Int)(w:World)(h:SrcW w bs V code pos seed)(hp:pos≤1000)(hc:code.length≤1000000)(hcode:∀x,x∈code→0≤x∧x≤255):
  Calls Try.prog 111 #[.pointer (some ⟨bs,0,none⟩)] w fun e w'=>e = .returned (.agg #[.int .u8 (Dr.one code (pos,seed)).1.1,.int .i16 (Dr.one code (pos,seed)).1.2])∧SrcW w' bs V code (Dr.one code (pos,seed)).2.1 (Dr.one code (pos,seed)).2.2∧Fr1 w w' bs:=by
 unfold Dr.one
 obtain⟨b1,b2,_,b3⟩:=Dr.pick_bd hcode 3 (pos,seed)
 obtain⟨d1,d2,_,d3⟩:=Dr.pick_bd hcode 3 (Dr.pick code 3 (pos,seed)).2
 have hx:=fun W hW=>Try.pick_calls bs V code pos seed 3 W hW (by omega) hc hcode (by omega)
 have hy:=fun W hW=>Try.pick_calls bs V code (Dr.pick code 3 (pos,seed)).2.1 (Dr.pick code 3 (pos,seed)).2.2 3 W hW (by simp only at b3;omega) hc hcode (by omega)
 generalize e1:Dr.pick code 3 (pos,seed)=q at hx hy b1 b2 b3 d1 d2 d3
 obtain⟨qa,qb,qc⟩:=q
 simp only at hy b1 b2 b3 d1 d2 d3 hx
 generalize e2:Dr.pick code 3 (qb,qc)=r at hy d1 d2 d3
 obtain⟨ra,rb,rc⟩:=r
 simp only at hy d1 d2 d3 ⊢
 go_enter Try.func111,Try.ntmps111
 obtain⟨h0,f0⟩:=h.alloc (.cells #[.int .u8 0,.int .i16 0] 29)
 have hx0:=hx _ h0
 have hz0:=heap_alloc_new w (.cells #[.int .u8 0,.int .i16 0] 29)
 have hlt:=h.lt
 go_wp2_with (first
  |(go_at_call 63;refine hx0.mono ?_;rintro e w1 ⟨rfl,h1,f1⟩)
  |(go_at_call 63;refine (hy w1 h1).mono ?_;rintro e w2 ⟨rfl,h2,f2⟩;have hz:w2.heap[w.heap.size]? = some (.cells #[.int .u8 0,.int .i16 0] 29 (0,0)):=(((f1.trans f2).block _ (by simp) (by omega)).trans hz0);have z0:w2.cell? ⟨w.heap.size,0,none⟩=some (.int .u8 0):=(by simp[World.cell?,hz]);have z1:w2.cell? ⟨w.heap.size,1,none⟩=some (.int .i16 0):=(by simp[World.cell?,hz]);have y0:w2.frozen? ⟨w.heap.size,0,none⟩=false:=(by simp[World.frozen?,hz]);have y1:w2.frozen? ⟨w.heap.size,1,none⟩=false:=(by simp[World.frozen?,hz])))
 refine bodyPost_ret (results_cell_row rfl _ _ w.heap.size 29 #[.int .u8 (1+qa),.int .i16 (1998+ra)] (0,0) _ (by rfl) (by simp[World.setCell,Array.getElem?_modify,hz]) Try.underlying29 rfl (by kernel_rfl)) rfl ?_
 have ff:=((f0.trans (f1.trans f2)).set (Nat.le_refl _) 0 (.int .u8 (1+qa))).set (Nat.le_refl _) 1 (.int .i16 (1998+ra))
 refine⟨rfl,⟨?_,h.rd.fr ff⟩,ff⟩
 have hne:w.heap.size≠bs:=by omega
 simp[World.setCell,Array.getElem?_modify,h2.hs,hne]
def Dr.cellsC(c:List (Int×Int)):List Value:=c.flatMap fun x=>[.int .u8 x.1,.int .i16 x.2]
theorem Dr.cellsC_len:∀c:List (Int×Int),(Dr.cellsC c).length=2*c.length
 |[]=>rfl
 |x::c=>by
  have:=Dr.cellsC_len c
  unfold Dr.cellsC at this ⊢
  rw[List.flatMap_cons,List.length_append,this,List.length_cons]
  simp;omega
theorem Dr.cellsC_set:∀(c:List (Int×Int)) (i:Nat) (x:Int×Int),i<c.length→(Dr.cellsC c).take (2*i)++[.int .u8 x.1,.int .i16 x.2]++(Dr.cellsC c).drop (2*i+2)=Dr.cellsC (c.set i x)
 |y::c,0,x,_=>by
  unfold Dr.cellsC
  simp
 |y::c,i+1,x,h=>by
  have:=Dr.cellsC_set c i x (by simpa using h)
  unfold Dr.cellsC at this ⊢
  rw[List.set_cons_succ,List.flatMap_cons,List.flatMap_cons,←this,show 2*(i+1)=(2*i)+2 by omega,show 2*i+2+2=(2*i+2)+2 by omega]
  simp
theorem Dr.heap_setCells(b:Nat)(t:TypeId)(fr:Nat×Nat):∀(vs:List Value) (o:Nat) (w:World) (cs:List Value),o+vs.length≤cs.length→w.heap[b]? = some (.cells cs.toArray t fr)→(w.setCells b o vs).heap[b]? = some (.cells (cs.take o++vs++cs.drop (o+vs.length)).toArray t fr)
 |[],o,w,cs,_,h=>by simp[World.setCells,h]
 |v::vs,o,w,cs,hl,h=>by
  rw[List.length_cons] at hl
  have h1:(w.setCell ⟨b,o,none⟩ v).heap[b]? = some (.cells (cs.set o v).toArray t fr):=by
   simp[World.setCell,Array.getElem?_modify,h]
  have:=Dr.heap_setCells b t fr vs (o+1) _ (cs.set o v) (by rw[List.length_set];omega) h1
  rw[World.setCells,this]
  congr 3
  have e1:(cs.set o v).take (o+1)=cs.take o++[v]:=by
   rw[List.take_set,List.take_succ_eq_append_getElem (by omega),List.set_append,if_neg (by simp;omega)]
   simp[Nat.min_eq_left (show o≤cs.length by omega)]
  have e2:(cs.set o v).drop (o+1+vs.length)=cs.drop (o+(v::vs).length):=by
   rw[List.drop_set,if_pos (by omega),List.length_cons]
   congr 1
   omega
  rw[e1,e2]
  simp
theorem Dr.heap_setCells_ne(b k:Nat)(hne:k≠b):∀(vs:List Value) (o:Nat) (w:World),(w.setCells b o vs).heap[k]? = w.heap[k]?
 |[],o,w=>rfl
 |v::vs,o,w=>by
  rw[World.setCells,Dr.heap_setCells_ne b k hne vs]
  exact Below.heap_setCell _ _ _ _ hne
theorem Dr.setCells_same(b:Nat):∀(vs:List Value) (o:Nat) (w:World),(w.setCells b o vs).os=w.os∧(w.setCells b o vs).tape=w.tape∧(w.setCells b o vs).output=w.output∧(w.setCells b o vs).heap.size=w.heap.size
 |[],o,w=>⟨rfl,rfl,rfl,rfl⟩
 |v::vs,o,w=>by
  obtain⟨h1,h2,h3,h4⟩:=Dr.setCells_same b vs (o+1) (w.setCell ⟨b,o,none⟩ v)
  rw[World.setCells]
  exact⟨h1,h2,h3,by rw[h4];simp[World.setCell]⟩
theorem Fr1.sets{w w2:World}{bs b:Nat}(h:Fr1 w w2 bs)(hb:w.heap.size≤b)(o:Nat)(vs:List Value):Fr1 w (w2.setCells b o vs) bs:=by
 obtain⟨h1,h2,h3,h4⟩:=Dr.setCells_same b vs o w2
 exact⟨h1.trans h.os,h2.trans h.tape,h3.trans h.output,by rw[h4];exact h.size,fun k hk hne=>(Dr.heap_setCells_ne b k (by omega) vs o w2).trans (h.block k hk hne)⟩
theorem Dr.there_of{w:World}{b:Nat}{cs:List Value}{t:TypeId}(h:w.heap[b]? = some (.cells cs.toArray t (0,0))){o n:Nat}(hl:o+n≤cs.length):w.there b o n:=fun j hj=>by
 have h1:w.cell? ⟨b,o+j,none⟩=cs.toArray[o+j]? := by simp[World.cell?,h]
 have h2:o+j<cs.length:=by omega
 refine⟨?_,by simp[World.frozen?,h]⟩
 rw[h1,List.getElem?_toArray,List.getElem?_eq_getElem h2]
 rfl
def Dr.put(code:List Int)(full:Int)(s:List (Int×Int)×Nat×Int)(i:Nat):List (Int×Int)×Nat×Int:=
 if (Dr.pick code 4 s.2).1<full+1 then (s.1.set i (Dr.one code (Dr.pick code 4 s.2).2).1,(Dr.one code (Dr.pick code 4 s.2).2).2) else (s.1,(Dr.pick code 4 s.2).2)
def Dr.drawn(code:List Int)(st:Nat×Int):List (Int×Int)×Nat×Int:=(List.range 12).foldl (Dr.put code (Dr.pick code 4 st).1) (List.replicate 12 (0,0),(Dr.pick code 4 st).2)
abbrev Dr.Z:Array Value:=#[.int .u8 0,.int .i16 0,.int .u8 0,.int .i16 0,.int .u8 0,.int .i16 0,.int .u8 0,.int .i16 0,.int .u8 0,.int .i16 0,.int .u8 0,.int .i16 0,.int .u8 0,.int .i16 0,.int .u8 0,.int .i16 0,.int .u8 0,.int .i16 0,.int .u8 0,.int .i16 0,.int .u8 0,.int .i16 0,.int .u8 0,.int .i16 0]
theorem Dr.Z_one:Dr.Z.all (·.oneCell')=true:=by simp[Value.oneCell']
theorem Dr.Z_eq:Dr.Z=(Dr.cellsC (List.replicate 12 (0,0))).toArray:=rfl
theorem Fr1.setRow{w w2:World}{bs b:Nat}(h:Fr1 w w2 bs)(hb:w.heap.size≤b)(cs:Array Value):Fr1 w (w2.setRow b cs) bs:=
 ⟨h.os,h.tape,h.output,by rw[setRow_size];exact h.size,fun k hk hne=>(setRow_other w2 b k cs (by omega)).trans (h.block k hk hne)⟩
theorem Dr.one_bd{code:List Int}(hcode:∀x,x∈code→0≤x∧x≤255)(st:Nat×Int):(Dr.one code st).2.1≤st.1+2:=by
 unfold Dr.one
 have h2:=(Dr.pick_bd hcode 3 st).2.2.2
 have h3:=(Dr.pick_bd hcode 3 (Dr.pick code 3 st).2).2.2.2
 generalize Dr.pick code 3 (Dr.pick code 3 st).2=r at h3
 generalize Dr.pick code 3 st=q at h2 h3
 show r.2.1≤_
 omega
theorem Dr.put_bd{code:List Int}(hcode:∀x,x∈code→0≤x∧x≤255)(full:Int)(s:List (Int×Int)×Nat×Int)(i:Nat):(Dr.put code full s i).1.length=s.1.length∧(Dr.put code full s i).2.1≤s.2.1+3:=by
 have h1:=(Dr.pick_bd hcode 4 s.2).2.2.2
 unfold Dr.put
 generalize Dr.pick code 4 s.2=q at h1
 have h4:=Dr.one_bd hcode q.2
 generalize Dr.one code q.2=o at h4
 split
 ·exact⟨List.length_set,by show o.2.1≤_;omega⟩
 ·exact⟨rfl,by show q.2.1≤_;omega⟩
def Dr.putN(code:List Int)(st:Nat×Int)(k:Nat):List (Int×Int)×Nat×Int:=(List.range k).foldl (Dr.put code (Dr.pick code 4 st).1) (List.replicate 12 (0,0),(Dr.pick code 4 st).2)
theorem Dr.putN_succ(code:List Int)(st:Nat×Int)(k:Nat):Dr.putN code st (k+1)=Dr.put code (Dr.pick code 4 st).1 (Dr.putN code st k) k:=by
 unfold Dr.putN
 generalize Dr.pick code 4 st=q
 rw[List.range_succ,List.foldl_append,List.foldl_cons,List.foldl_nil]
theorem Dr.putN_bd{code:List Int}(hcode:∀x,x∈code→0≤x∧x≤255)(st:Nat×Int):∀k,(Dr.putN code st k).1.length=12∧(Dr.putN code st k).2.1≤st.1+1+3*k
 |0=>by
  have h:=(Dr.pick_bd hcode 4 st).2.2.2
  unfold Dr.putN
  rw[List.range_zero,List.foldl_nil]
  generalize Dr.pick code 4 st=q at h
  exact⟨List.length_replicate,by show q.2.1≤_;omega⟩
 |k+1=>by
  obtain⟨h1,h2⟩:=Dr.putN_bd hcode st k
  obtain⟨h3,h4⟩:=Dr.put_bd hcode (Dr.pick code 4 st).1 (Dr.putN code st k) k
  rw[Dr.putN_succ]
  exact⟨h3.trans h1,by omega⟩
theorem Dr.putN_zero(code:List Int)(st:Nat×Int):Dr.putN code st 0=(List.replicate 12 (0,0),(Dr.pick code 4 st).2):=by
 unfold Dr.putN
 rw[List.range_zero,List.foldl_nil]
theorem Dr.drawn_eq(code:List Int)(st:Nat×Int):Dr.drawn code st=Dr.putN code st 12:=by
 unfold Dr.drawn Dr.putN
 rfl
theorem Dr.cells_one(c:List (Int×Int)):(Dr.cellsC c).toArray.all (·.oneCell')=true:=all_oneCell_toArray (fun v hv=>by
 unfold Dr.cellsC at hv
 obtain⟨x,_,hx2⟩:=List.mem_flatMap.1 hv
 rcases List.mem_cons.1 hx2 with e|e
 ·rw[e];rfl
 ·rw[List.mem_singleton.1 e];rfl)
theorem Dr.cells_size{c:List (Int×Int)}(h:c.length=12):(Dr.cellsC c).toArray.size=24:=by rw[List.size_toArray,Dr.cellsC_len,h]
set_option maxHeartbeats 1000000 in
theorem Try.drawn_calls(bs:Nat)(V:Value)(code:List Int)(pos:Nat)(seed:Int)(w:World)(h:SrcW w bs V code pos seed)(hp:pos≤500)(hc:code.length≤1000000)(hcode:∀x,x∈code→0≤x∧x≤255):
  Calls Try.prog 64 #[.pointer (some ⟨bs,0,none⟩)] w fun e w'=>e = .returned (.agg (Dr.cellsC (Dr.drawn code (pos,seed)).1).toArray)∧SrcW w' bs V code (Dr.drawn code (pos,seed)).2.1 (Dr.drawn code (pos,seed)).2.2∧Fr1 w w' bs:=by
 rw[Dr.drawn_eq]
 have hi31:(Try.prog.info? 31).map (·.size)=some Dr.Z.size:=by kernel_rfl
 have hi29:(Try.prog.info? 29).map (·.size)=some 2:=by kernel_rfl
 have hone:=Dr.Z_one
 have hlt:=h.lt
 have hg:((w.alloc (.cells Dr.Z 31)).alloc (.cells Dr.Z 31)).heap[w.heap.size+1]? = some (.cells Dr.Z 31 (0,0)):=by
  have:=heap_alloc_new (w.alloc (.cells Dr.Z 31)) (.cells Dr.Z 31)
  rw[show (w.alloc (.cells Dr.Z 31)).heap.size=w.heap.size+1 from by simp] at this
  exact this
 have hx:∀W,W=((w.alloc (.cells Dr.Z 31)).alloc (.cells Dr.Z 31)).setRow (w.heap.size+1) Dr.Z→Calls Try.prog 63 #[.pointer (some ⟨bs,0,none⟩),.int .i64 4] W fun e w'=>e = .returned (.int .i64 (Dr.pick code 4 (pos,seed)).1)∧SrcW w' bs V code (Dr.putN code (pos,seed) 0).2.1 (Dr.putN code (pos,seed) 0).2.2∧Fr1 w w' bs ∧
   w'.heap[w.heap.size]? = some (.cells Dr.Z 31 (0,0))∧w'.heap[w.heap.size+1]? = some (.cells (Dr.cellsC (Dr.putN code (pos,seed) 0).1).toArray 31 (0,0)):=fun W hW=>by
  obtain⟨h0,f0⟩:=h.alloc (.cells Dr.Z 31)
  obtain⟨h1,f1⟩:=h0.alloc (.cells Dr.Z 31)
  have f2:=(f0.trans f1).setRow (Nat.le_succ w.heap.size) Dr.Z
  rw[←hW] at f2
  have hC:W.heap[w.heap.size+1]? = some (.cells Dr.Z 31 (0,0)):=by rw[hW];exact setRow_heap _ _ _ _ _ _ hg
  have hR:W.heap[w.heap.size]? = some (.cells Dr.Z 31 (0,0)):=by
   rw[hW,setRow_other _ _ _ _ (by omega)]
   exact (heap_alloc_old _ _ (by simp)).trans (heap_alloc_new w _)
  have hS:SrcW W bs V code pos seed:=⟨by rw[hW,setRow_other _ _ _ _ (by omega)];exact h1.hs,h.rd.fr f2⟩
  refine (Try.pick_calls bs V code pos seed 4 W hS (by omega) hc hcode (by omega)).mono fun e w' ⟨q1,q2,q3⟩=>?_
  have hsz:W.heap.size=w.heap.size+2:=by rw[hW,setRow_size];simp
  rw[Dr.putN_zero,←Dr.Z_eq]
  exact⟨q1,q2,f2.trans q3,(q3.block _ (by omega) (by omega)).trans hR,(q3.block _ (by omega) (by omega)).trans hC⟩
 obtain⟨fb1,fb2,_,_⟩:=Dr.pick_bd hcode 4 (pos,seed)
 have fb2:=fb2 (by omega)
 generalize hfull:(Dr.pick code 4 (pos,seed)).1=full at hx fb1 fb2
 go_enter Try.func64,Try.ntmps64
 go_wp2_with (first
  |(refine wpList_store_row rfl 31 _ _ rfl (w.heap.size+1) Dr.Z rfl rfl 31 Dr.Z hg hi31 rfl hone ?_)
  |(go_at_call 63;refine (hx _ rfl).mono ?_;rintro e w4 ⟨rfl,h4,f4,r4,c4⟩))
 go_loopw [5] (fun i wr=>∃k:Nat,k≤12∧i = .int .i64 k∧SrcW wr bs V code (Dr.putN code (pos,seed) k).2.1 (Dr.putN code (pos,seed) k).2.2∧Fr1 w wr bs∧wr.heap[w.heap.size]? = some (.cells Dr.Z 31 (0,0))∧wr.heap[w.heap.size+1]? = some (.cells (Dr.cellsC (Dr.putN code (pos,seed) k).1).toArray 31 (0,0)))
  (fun i _=>12-(intOf i).toNat)
 case atStart=>exact⟨0,Nat.zero_le _,rfl,h4,f4,r4,c4⟩
 case round=>
  obtain⟨k,hk,rfl,h5,f5,r5,c5⟩:=hrel
  by_cases hltk:k<12
  ·have hb5:=Dr.putN_bd hcode (pos,seed) k
   have hs5:=Dr.putN_succ code (pos,seed) k
   rw[hfull] at hs5
   generalize Dr.putN code (pos,seed) k=s at h5 c5 hb5 hs5
   obtain⟨c,pk,sk⟩:=s
   simp only at h5 c5 hb5
   obtain⟨hb5,hp5⟩:=hb5
   have hy:=Try.pick_calls bs V code pk sk 4 wr h5 (by omega) hc hcode (by omega)
   obtain⟨g1,_,_,g4⟩:=Dr.pick_bd hcode 4 (pk,sk)
   unfold Dr.put at hs5
   simp only at hs5 g4
   generalize Dr.pick code 4 (pk,sk)=q at hy g1 g4 hs5
   obtain⟨qa,qb,qc⟩:=q
   simp only at hy g1 g4 hs5
   by_cases cq:qa<full+1
   ·rw[if_pos cq] at hs5
    have hz:=fun W hW=>Try.one_calls bs V code qb qc W hW (by omega) hc hcode
    generalize Dr.one code (qb,qc)=o at hz hs5
    obtain⟨⟨oa,ob⟩,oc,od⟩:=o
    simp only at hz hs5
    go_wp2_with (first
     |(go_at_call 63;refine hy.mono ?_;rintro e w6 ⟨rfl,h6,f6⟩)
     |(go_at_call 111;refine (hz w6 h6).mono ?_;rintro e w7 ⟨rfl,h7,f7⟩;have f57:=f6.trans f7;have hszr:w.heap.size+2≤wr.heap.size:=(Array.getElem?_eq_some_iff.1 c5).1;have c7:=(f57.block (w.heap.size+1) (by omega) (by omega)).trans c5;have r7:=(f57.block w.heap.size (by omega) (by omega)).trans r5;have ht7:=Dr.there_of c7 (o:=k*2) (n:=2) (by rw[Dr.cellsC_len];omega);have hone2:(#[Value.int .u8 oa,.int .i16 ob]:Array Value).all (·.oneCell')=true:=(by simp[Value.oneCell']))
     |(refine wpList_store_mid rfl 29 _ _ rfl (w.heap.size+1) (k*2) #[.int .u8 oa,.int .i16 ob] rfl rfl ht7 hi29 hone2 ?_))
    go_roundw
    case rel=>
     have fF:=(f5.trans f57).sets (b:=w.heap.size+1) (Nat.le_succ _) (k*2) [.int .u8 oa,.int .i16 ob]
     refine⟨k+1,by omega,by go_num,?_,fF,?_,?_⟩
     ·rw[hs5]
      exact⟨(Dr.heap_setCells_ne _ _ (by omega) _ _ _).trans h7.hs,h.rd.fr fF⟩
     ·exact (Dr.heap_setCells_ne _ _ (by omega) _ _ _).trans r7
     ·rw[hs5]
      have hset:=Dr.heap_setCells (w.heap.size+1) 31 (0,0) [.int .u8 oa,.int .i16 ob] (k*2) w7 (Dr.cellsC c) (by rw[Dr.cellsC_len];simp;omega) c7
      have e2:=Dr.cellsC_set c k (oa,ob) (by omega)
      rw[show 2*k=k*2 from Nat.mul_comm _ _] at e2
      rw[←e2]
      exact hset
    case measure=>simp[intOf]<;>omega
   ·rw[if_neg cq] at hs5
    go_wp2_with (first
     |(go_at_call 63;refine hy.mono ?_;rintro e w6 ⟨rfl,h6,f6⟩))
    go_roundw
    case rel=>
     have hszr:w.heap.size+2≤wr.heap.size:=(Array.getElem?_eq_some_iff.1 c5).1
     refine⟨k+1,by omega,by go_num,?_,f5.trans f6,(f6.block _ (by omega) (by omega)).trans r5,?_⟩
     ·rw[hs5];exact h6
     ·rw[hs5];exact (f6.block _ (by omega) (by omega)).trans c5
    case measure=>simp[intOf]<;>omega
  ·have hk2:k=12:=by omega
   subst hk2
   have hb5:=(Dr.putN_bd hcode (pos,seed) 12).1
   generalize hs:Dr.putN code (pos,seed) 12=s at h5 c5 hb5
   have hca:(Dr.cellsC s.1).length=24:=by rw[Dr.cellsC_len,hb5]
   have hic:(Try.prog.info? 31).map (·.size)=some (Dr.cellsC s.1).length:=by rw[hca];kernel_rfl
   go_wp2_with (first
    |(refine wpList_load_midG 31 _ rfl ?_ (w.heap.size+1) 0 rfl (Dr.cellsC s.1) _ (range_of c5) Try.underlying31 rfl hic ?_)
    |(refine wpList_store_row rfl 31 _ _ rfl w.heap.size (Dr.cellsC s.1).toArray rfl rfl 31 Dr.Z r5 (by rw[Dr.cells_size hb5];kernel_rfl) (show Dr.Z.size=_ from (Dr.cells_size hb5).symm) (Dr.cells_one s.1) ?_))
   have fF:=f5.setRow (b:=w.heap.size) (Nat.le_refl _) (Dr.cellsC s.1).toArray
   refine bodyPost_ret (results_cell_row rfl _ _ w.heap.size 31 (Dr.cellsC s.1).toArray (0,0) _ (by rfl) (setRow_heap _ _ _ _ _ _ r5) Try.underlying31 rfl (by rw[Dr.cells_size hb5];kernel_rfl)) rfl ?_
   rw[hs]
   exact⟨rfl,⟨(setRow_other _ _ _ _ (by omega)).trans h5.hs,h.rd.fr fF⟩,fF⟩
def RdB(w:World)(v:Value)(l:List Int):Prop:=∃A cap,v = .slice A l.length cap∧l.length≤cap∧(0<l.length→∃b o,A=some ⟨b,o,none⟩∧b<w.heap.size∧∀i (h:i<l.length),w.cell? ⟨b,o+i,none⟩=some (.int .u8 l[i]))
theorem RdB.below{w w':World}{v:Value}{l:List Int}(h:RdB w v l)(hb:Below w.heap.size w w'):RdB w' v l:=by
 obtain⟨A,cap,e,h1,h2⟩:=h
 refine⟨A,cap,e,h1,fun q=>?_⟩
 obtain⟨b,o,e1,e2,e3⟩:=h2 q
 exact⟨b,o,e1,Nat.lt_of_lt_of_le e2 hb.size,fun i hi=>(Below.cell hb (p:=⟨b,o+i,none⟩) e2).trans (e3 i hi)⟩
theorem RdB.rdU{w:World}{v:Value}{l:List Int}(h:RdB w v l):RdU w v l w.heap.size:=by
 obtain⟨A,cap,e,h1,h2⟩:=h
 refine⟨A,cap,e,h1,fun q=>?_⟩
 obtain⟨b,o,e1,e2,e3⟩:=h2 q
 exact⟨b,o,e1,e2,by omega,e3⟩
theorem Fr1.below{w w':World}{bs:Nat}(h:Fr1 w w' bs)(hb:w.heap.size≤bs):Below w.heap.size w w':=⟨h.os,h.tape,h.output,h.size,fun k hk=>h.block k hk (by omega)⟩
theorem Dr.below_trans{w w1 w2:World}(h1:Below w.heap.size w w1)(h2:Below w1.heap.size w1 w2):Below w.heap.size w w2:=
 ⟨h2.os.trans h1.os,h2.tape.trans h1.tape,h2.output.trans h1.output,Nat.le_trans h1.size h2.size,fun q hq=>(h2.block q (Nat.lt_of_lt_of_le hq h1.size)).trans (h1.block q hq)⟩
theorem Dr.below_setRow{w0 w:World}{g:Nat}(hb:Below w0.heap.size w0 w)(hg:w0.heap.size≤g)(cs:Array Value):Below w0.heap.size w0 (w.setRow g cs):=
 ⟨hb.os,hb.tape,hb.output,by rw[setRow_size];exact hb.size,fun k hk=>(setRow_other _ _ _ _ (by omega)).trans (hb.block k hk)⟩
theorem Try.from0_calls(V:Value)(code:List Int)(w:World)(h:RdB w V code):Calls Try.prog 62 #[V] w fun e w'=>e = .returned (.pointer (some ⟨w.heap.size,0,none⟩))∧SrcW w' w.heap.size V code 0 0∧Fr1 w w' w.heap.size∧w'.heap.size=w.heap.size+1:=by
 obtain⟨A,cap,rfl,h1,h2⟩:=id h
 go_enter Try.func62,Try.ntmps62
 go_wp2
 go_ret
 have hf:Fr1 w (w.alloc (.cells #[.slice A code.length cap,.int .i64 0,.int .u64 0] 132)) w.heap.size:=⟨rfl,rfl,rfl,by simp,fun k hk _=>heap_alloc_old w _ hk⟩
 exact⟨rfl,⟨heap_alloc_new w _,h.rdU.fr hf⟩,hf,by simp⟩
set_option maxHeartbeats 1000000 in
theorem Try.crate_calls(V:Value)(code:List Int)(w:World)(h:RdB w V code)(hc:code.length≤1000000)(hcode:∀x,x∈code→0≤x∧x≤255):
  Calls Try.prog 30 #[V] w fun e w'=>e = .returned (.agg (Dr.cellsC (Dr.drawn code (0,0)).1).toArray)∧Below w.heap.size w w':=by
 have hb0:=(Below.refl _ w).alloc (Nat.le_refl _) (.cells Dr.Z 31)
 have hx:=Try.from0_calls V code (w.alloc (.cells Dr.Z 31)) (h.below hb0)
 rw[show (w.alloc (.cells Dr.Z 31)).heap.size=w.heap.size+1 from by simp] at hx
 have hz:=heap_alloc_new w (.cells Dr.Z 31)
 have hlen:=(Dr.putN_bd hcode (0,0) 12).1
 rw[←Dr.drawn_eq] at hlen
 have hy:=fun W hW=>Try.drawn_calls (w.heap.size+1) V code 0 0 W hW (by omega) hc hcode
 generalize Dr.drawn code (0,0)=s at hy hlen
 go_enter Try.func30,Try.ntmps30
 go_wp2_with (first
  |(go_at_call 62;refine hx.mono ?_;rintro e w1 ⟨rfl,h1,f1,z1⟩)
  |(go_at_call 64;refine (hy w1 h1).mono ?_;rintro e w2 ⟨rfl,h2,f2⟩;have r2:=((f1.trans f2).block w.heap.size (by simp) (by omega)).trans hz)
  |(refine wpList_store_row rfl 31 _ _ rfl w.heap.size (Dr.cellsC s.1).toArray rfl rfl 31 Dr.Z r2 (by rw[Dr.cells_size hlen];kernel_rfl) (show Dr.Z.size=_ from (Dr.cells_size hlen).symm) (Dr.cells_one s.1) ?_))
 refine bodyPost_ret (results_cell_row rfl _ _ w.heap.size 31 (Dr.cellsC s.1).toArray (0,0) _ (by rfl) (setRow_heap _ _ _ _ _ _ r2) Try.underlying31 rfl (by rw[Dr.cells_size hlen];kernel_rfl)) rfl ?_
 have hb:=Dr.below_setRow (Dr.below_trans hb0 ((f1.trans f2).below (by simp))) (Nat.le_refl _) (Dr.cellsC s.1).toArray
 exact⟨rfl,hb⟩
theorem Dr.cells_one1(c:List (Int×Int)):∀v∈Dr.cellsC c,v.oneCell'=true:=fun v hv=>by
 unfold Dr.cellsC at hv
 obtain⟨x,_,hx2⟩:=List.mem_flatMap.1 hv
 rcases List.mem_cons.1 hx2 with e|e
 ·rw[e];rfl
 ·rw[List.mem_singleton.1 e];rfl
theorem Dr.both_of{w:World}{b:Nat}{cs:List Value}{t:TypeId}(h:w.heap[b]? = some (.cells cs.toArray t (0,0)))(hl:cs.length=24):w.rangeAt b 0 cs∧w.there b 0 24:=⟨range_of h,Dr.there_of h (by omega)⟩
theorem step_load_row{P:Program}{ops:Array Oper}{o:Oper}{a:Act}{w:World}{K:Act→World→Prop}{Q:Exit→Act→World→Prop}{E:Prop}(hgd:o.guard=none)(ty:TypeId)(x:Operand)(ho:o.op = .load ty x)
  (b:Nat) (hx:a.eval x = .pointer (some ⟨b,0,none⟩)) (cs:List Value) (d:TypeDesc) (hc:w.rangeAt b 0 cs) (hu:P.underlying ty=some d) (hd:d.isRow=true) (hi:(P.info? ty).map (·.size)=some cs.length)
  (h:K (a.put o.dst (.agg cs.toArray)) w):if Region.wanted o (yielded ops a.tmps)=true then Oper.wp P o a w K Q else E:=by
 have hw:Region.wanted o (yielded ops a.tmps)=true:=by simp[Region.wanted,hgd]
 rw[if_pos hw]
 exact wp_load_mid ty x ho b 0 hx cs d hc hu hd hi h
theorem step_store_row{P:Program}{ops:Array Oper}{o:Oper}{a:Act}{w:World}{K:Act→World→Prop}{Q:Exit→Act→World→Prop}{E:Prop}(hgd:o.guard=none)(ty:TypeId)(x y:Operand)(ho:o.op = .store ty x y)
  (g:Nat) (cells:Array Value) (hx:a.eval x = .pointer (some ⟨g,0,none⟩)) (hy:a.eval y = .agg cells) (t:TypeId) (old:Array Value) (hg:w.heap[g]? = some (.cells old t (0,0))) (hi:(P.info? ty).map (·.size)=some cells.size)
  (hold:old.size=cells.size) (h1:cells.all (·.oneCell')=true) (h:K (a.put o.dst undef) (w.setRow g cells)):if Region.wanted o (yielded ops a.tmps)=true then Oper.wp P o a w K Q else E:=by
 have hw:Region.wanted o (yielded ops a.tmps)=true:=by simp[Region.wanted,hgd]
 rw[if_pos hw]
 exact wp_store_row ty x y ho g cells hx hy t old hg hi hold h1 h
theorem wpAny_store_row{P:Program}{md:Region.Mode}{ops:Array Oper}{Q:Exit→Act→World→Prop}{fuel:Nat}{listed:Array Bool}{a:Act}{w:World}{i:Nat}{o:Oper}(hr:Region.ready md ops listed=[i])(ho:ops[i]? = some o)(hgd:o.guard=none)(ty:TypeId)(x y:Operand)(hop:o.op = .store ty x y)
  (g:Nat) (cells:Array Value) (hx:a.eval x = .pointer (some ⟨g,0,none⟩)) (hy:a.eval y = .agg cells) (t:TypeId) (old:Array Value) (hg:w.heap[g]? = some (.cells old t (0,0))) (hi:(P.info? ty).map (·.size)=some cells.size)
  (hold:old.size=cells.size) (h1:cells.all (·.oneCell')=true) (h:wpAny P md ops Q fuel (listed.setIfInBounds i true) (a.put o.dst undef) (w.setRow g cells)):wpAny P md ops Q (fuel+1) listed a w:=
 wpAny_ready hr (by simp) (AllReady.cons ho (fun K hK=>step_store_row hgd ty x y hop g cells hx hy t old hg hi hold h1 (hK _ _ h)) AllReady.nil)
theorem wpAny_load_row{P:Program}{md:Region.Mode}{ops:Array Oper}{Q:Exit→Act→World→Prop}{fuel:Nat}{listed:Array Bool}{a:Act}{w:World}{i:Nat}{o:Oper}(hr:Region.ready md ops listed=[i])(ho:ops[i]? = some o)(hgd:o.guard=none)(ty:TypeId)(x:Operand)(hop:o.op = .load ty x)
  (b:Nat) (hx:a.eval x = .pointer (some ⟨b,0,none⟩)) (cs:List Value) (d:TypeDesc) (hc:w.rangeAt b 0 cs) (hu:P.underlying ty=some d) (hd:d.isRow=true) (hi:(P.info? ty).map (·.size)=some cs.length)
  (h:wpAny P md ops Q fuel (listed.setIfInBounds i true) (a.put o.dst (.agg cs.toArray)) w):wpAny P md ops Q (fuel+1) listed a w:=
 wpAny_ready hr (by simp) (AllReady.cons ho (fun K hK=>step_load_row hgd ty x hop b hx cs d hc hu hd hi (hK _ _ h)) AllReady.nil)
theorem Dr.below_fr{w wr w7:World}{bs:Nat}(h:Below w.heap.size w wr)(hf:Fr1 wr w7 bs)(hb:w.heap.size≤bs):Below w.heap.size w w7:=
 ⟨hf.os.trans h.os,hf.tape.trans h.tape,hf.output.trans h.output,Nat.le_trans h.size hf.size,fun k hk=>(hf.block k (Nat.lt_of_lt_of_le hk h.size) (by omega)).trans (h.block k hk)⟩
theorem RdB.rdU2{w w':World}{v:Value}{l:List Int}{bs:Nat}(h:RdB w v l)(hb:Below w.heap.size w w')(hbs:w.heap.size≤bs):RdU w' v l bs:=by
 obtain⟨A,cap,e,h1,h2⟩:=h
 refine⟨A,cap,e,h1,fun q=>?_⟩
 obtain⟨b,o,e1,e2,e3⟩:=h2 q
 exact⟨b,o,e1,Nat.lt_of_lt_of_le e2 hb.size,by omega,fun i hi=>(Below.cell hb (p:=⟨b,o+i,none⟩) e2).trans (e3 i hi)⟩
def Dr.swapD(c:List (Int×Int))(i k:Nat):List (Int×Int):=(c.set i (c.getD k (0,0))).set k (c.getD i (0,0))
def Dr.step(code:List Int)(s:List (Int×Int)×Nat×Int):List (Int×Int)×Nat×Int:=
 (Dr.swapD s.1 (Dr.pick code 12 s.2).1.toNat (Dr.pick code 12 (Dr.pick code 12 s.2).2).1.toNat,(Dr.pick code 12 (Dr.pick code 12 s.2).2).2)
def Dr.steps(code:List Int):Nat→List (Int×Int)×Nat×Int→List (Int×Int)×Nat×Int
 |0,s=>s
 |n+1,s=>Dr.step code (Dr.steps code n s)
def Dr.swapped(code:List Int)(c:List (Int×Int)):List (Int×Int):=(Dr.steps code (Dr.pick code 4 (0,0)).1.toNat (c,(Dr.pick code 4 (0,0)).2)).1
theorem Dr.swapD_len(c:List (Int×Int))(i k:Nat):(Dr.swapD c i k).length=c.length:=by unfold Dr.swapD;rw[List.length_set,List.length_set]
theorem Dr.step_bd{code:List Int}(hcode:∀x,x∈code→0≤x∧x≤255)(s:List (Int×Int)×Nat×Int):(Dr.step code s).1.length=s.1.length∧(Dr.step code s).2.1≤s.2.1+2:=by
 unfold Dr.step
 have h2:=(Dr.pick_bd hcode 12 s.2).2.2.2
 have h3:=(Dr.pick_bd hcode 12 (Dr.pick code 12 s.2).2).2.2.2
 generalize Dr.pick code 12 (Dr.pick code 12 s.2).2=r at h3
 generalize Dr.pick code 12 s.2=q at h2 h3
 exact⟨Dr.swapD_len _ _ _,by show r.2.1≤_;omega⟩
theorem Dr.steps_bd{code:List Int}(hcode:∀x,x∈code→0≤x∧x≤255)(s:List (Int×Int)×Nat×Int):∀n,(Dr.steps code n s).1.length=s.1.length∧(Dr.steps code n s).2.1≤s.2.1+2*n
 |0=>by unfold Dr.steps;exact⟨rfl,Nat.le_refl _⟩
 |n+1=>by
  obtain⟨h1,h2⟩:=Dr.steps_bd hcode s n
  obtain⟨h3,h4⟩:=Dr.step_bd hcode (Dr.steps code n s)
  unfold Dr.steps
  exact⟨h3.trans h1,by omega⟩
set_option maxHeartbeats 1000000 in
theorem Try.swapped_calls(V:Value)(code:List Int)(c:List (Int×Int))(w:World)(h:RdB w V code)(hc:code.length≤1000000)(hcode:∀x,x∈code→0≤x∧x≤255)(hl:c.length=12)
  (hS:∀w' c (i k:Nat),c.length=12→i<12→k<12→Calls Try.prog 55 #[.agg (Dr.cellsC c).toArray,.agg #[.int .i8 (i:Int),.int .i8 (k:Int)]] w' fun e w''=>e = .returned (.agg (Dr.cellsC (Dr.swapD c i k)).toArray)∧Below w'.heap.size w' w''):
  Calls Try.prog 35 #[V,.agg (Dr.cellsC c).toArray] w fun e w'=>e = .returned (.agg (Dr.cellsC (Dr.swapped code c)).toArray)∧Below w.heap.size w w':=by
 have hb0:=((Below.refl _ w).alloc (Nat.le_refl _) (.cells (Dr.cellsC c).toArray 31)).alloc (by simp) (.cells Dr.Z 31)
 have hx:=Try.from0_calls V code ((w.alloc (.cells (Dr.cellsC c).toArray 31)).alloc (.cells Dr.Z 31)) (h.below hb0)
 rw[show ((w.alloc (.cells (Dr.cellsC c).toArray 31)).alloc (.cells Dr.Z 31)).heap.size=w.heap.size+2 from by simp] at hx
 have e1:((w.alloc (.cells (Dr.cellsC c).toArray 31)).alloc (.cells Dr.Z 31)).heap[w.heap.size]? = some (.cells (Dr.cellsC c).toArray 31 (0,0)):=(heap_alloc_old _ _ (by simp)).trans (heap_alloc_new w _)
 have e2:((w.alloc (.cells (Dr.cellsC c).toArray 31)).alloc (.cells Dr.Z 31)).heap[w.heap.size+1]? = some (.cells Dr.Z 31 (0,0)):=by have:=heap_alloc_new (w.alloc (.cells (Dr.cellsC c).toArray 31)) (.cells Dr.Z 31);simpa using this
 have es:((w.alloc (.cells (Dr.cellsC c).toArray 31)).alloc (.cells Dr.Z 31)).heap.size=w.heap.size+2:=by simp
 obtain⟨p1,p2,_,p4⟩:=Dr.pick_bd hcode 4 (0,0)
 have p2:=p2 (by omega)
 have hy:=fun W hW=>Try.pick_calls (w.heap.size+2) V code 0 0 4 W hW (by omega) hc hcode (by omega)
 unfold Dr.swapped
 have hbd:=fun n=>Dr.steps_bd hcode (c,(Dr.pick code 4 (0,0)).2) n
 generalize Dr.pick code 4 (0,0)=q at hy p1 p2 p4 hbd
 obtain⟨q0,q1,q2⟩:=q
 simp only at hy p1 p2 p4 hbd ⊢
 go_enter Try.func35,Try.ntmps35
 go_wp2_with (first
  |(go_at_call 62;refine hx.mono ?_;rintro e w1 ⟨rfl,h1,f1,z1⟩)
  |(go_at_call 63;refine (hy w1 h1).mono ?_;rintro e w2 ⟨rfl,h2,f2⟩))
 go_loopw [6] (fun i wr=>∃n:Nat,(n:Int)≤q0∧i = .int .i64 (q0-n)∧SrcW wr (w.heap.size+2) V code (Dr.steps code n (c,q1,q2)).2.1 (Dr.steps code n (c,q1,q2)).2.2∧Below w.heap.size w wr∧wr.heap[w.heap.size+1]? = some (.cells Dr.Z 31 (0,0))∧wr.heap[w.heap.size]? = some (.cells (Dr.cellsC (Dr.steps code n (c,q1,q2)).1).toArray 31 (0,0)))
  (fun i _=>(intOf i).toNat)
 case atStart=>
  have f12:=f1.trans f2
  refine⟨0,by omega,by simp,?_,?_,?_,?_⟩
  ·unfold Dr.steps;exact h2
  ·exact Dr.below_trans hb0 (f12.below (by rw[es];omega))
  ·exact (f12.block _ (by omega) (by omega)).trans e2
  ·unfold Dr.steps;exact (f12.block _ (by omega) (by omega)).trans e1
 case round=>
  obtain⟨n,hn,rfl,h5,f5,r5,c5⟩:=hrel
  by_cases hlt:(n:Int)<q0
  ·have hb5:=hbd n
   generalize hs:Dr.steps code n (c,q1,q2)=s at h5 c5 hb5
   obtain⟨cs,pk,sk⟩:=s
   simp only at h5 c5 hb5
   obtain⟨hb5,hp5⟩:=hb5
   have hz:=Try.pick_calls (w.heap.size+2) V code pk sk 12 wr h5 (by omega) hc hcode (by omega)
   obtain⟨g1,g2,_,g4⟩:=Dr.pick_bd hcode 12 (pk,sk)
   have g2:=g2 (by omega)
   have hst:Dr.steps code (n+1) (c,q1,q2)=Dr.step code (cs,pk,sk):=by rw[←hs];rfl
   unfold Dr.step at hst
   simp only at hst
   generalize Dr.pick code 12 (pk,sk)=u at hz g1 g2 g4 hst
   obtain⟨u0,u1,u2⟩:=u
   simp only at hz g1 g2 g4 hst
   have hv:=fun W hW=>Try.pick_calls (w.heap.size+2) V code u1 u2 12 W hW (by omega) hc hcode (by omega)
   obtain⟨m1,m2,_,m4⟩:=Dr.pick_bd hcode 12 (u1,u2)
   have m2:=m2 (by omega)
   generalize Dr.pick code 12 (u1,u2)=v at hv m1 m2 m4 hst
   obtain⟨v0,v1,v2⟩:=v
   simp only at hv m1 m2 m4 hst
   have hszr:w.heap.size+2≤wr.heap.size:=(Array.getElem?_eq_some_iff.1 r5).1
   have hca:(Dr.cellsC cs).length=24:=by rw[Dr.cellsC_len];omega
   have hic:(Try.prog.info? 31).map (·.size)=some (Dr.cellsC cs).length:=by rw[hca];kernel_rfl
   obtain⟨un,rfl⟩:=Int.eq_ofNat_of_zero_le g1
   obtain⟨vn,rfl⟩:=Int.eq_ofNat_of_zero_le m1
   have hsw:∀W,Calls Try.prog 55 #[.agg (Dr.cellsC cs).toArray,.agg #[.int .i8 (IntKind.i8.wrap (un:Int)),.int .i8 (IntKind.i8.wrap (vn:Int))]] W fun e w''=>e = .returned (.agg (Dr.cellsC (Dr.swapD cs un vn)).toArray)∧Below W.heap.size W w'':=fun W=>by
    rw[show IntKind.i8.wrap (un:Int)=(un:Int) from IntWalk.i8_in _ ⟨by omega,by omega⟩,show IntKind.i8.wrap (vn:Int)=(vn:Int) from IntWalk.i8_in _ ⟨by omega,by omega⟩]
    exact hS W cs un vn (by omega) (by omega) (by omega)
   go_wp2_with (first
     |(go_at_call 63;refine hz.mono ?_;rintro e w6 ⟨rfl,h6,f6⟩))
   have h6d:SrcW w6.drew (w.heap.size+2) V code u1 u2:=⟨h6.hs,h6.rd⟩
   have f6d:Fr1 wr w6.drew (w.heap.size+2):=⟨f6.os,f6.tape,f6.output,f6.size,f6.block⟩
   have z6:wr.heap.size≤w6.drew.heap.size:=f6d.size
   have c6:=(f6d.block w.heap.size (by omega) (by omega)).trans c5
   have r6:=(f6d.block (w.heap.size+1) (by omega) (by omega)).trans r5
   have c6r:w6.drew.rangeAt w.heap.size 0 (Dr.cellsC cs):=range_of c6
   have hsl:(Dr.swapD cs un vn).length=12:=(Dr.swapD_len _ _ _).trans (by omega)
   have hu31:=Try.underlying31
   refine wp_region_any (by kernel_rfl) ?_
   change wpAny _ _ _ _ _ _ _ (World.drew _)
   refine wpAny_take (i:=1) (v:=.int .i64 (un:Int)) rfl (by kernel_rfl) (by kernel_rfl) (by kernel_rfl) (fun _ _ _ h=>h) (Or.inl ⟨by rfl,by intro W;go_simp⟩) ?_
   refine wpAny_take (i:=2) (v:=.int .i8 (IntKind.i8.wrap (un:Int))) rfl (by kernel_rfl) (by kernel_rfl) (by kernel_rfl) (fun _ _ _ h=>h) (Or.inl ⟨by rfl,by intro W;go_simp⟩) ?_
   refine wpAny_take (i:=3) (v:=.pointer (some ⟨w.heap.size+2,0,none⟩)) rfl (by kernel_rfl) (by kernel_rfl) (by kernel_rfl) (fun _ _ _ h=>h) (Or.inl ⟨by rfl,by intro W;go_simp⟩) ?_
   refine wpAny_ready (rs:=[0,4]) (by kernel_rfl) (by simp) ?_
   refine AllReady.cons rfl (fun K hK=>?_) (AllReady.cons rfl (fun K hK=>?_) AllReady.nil)
   ·
    refine step_load_row (by rfl) 31 _ (by rfl) w.heap.size (by rfl) (Dr.cellsC cs) _ (c6r) hu31 rfl hic ?_
    refine hK _ _ ?_
    clear hK K
    refine wpAny_ready (rs:=[4]) (by kernel_rfl) (by simp) ?_
    refine AllReady.cons rfl (fun K hK=>?_) AllReady.nil
    refine step_calls (by rfl) _ _ _ (by rfl) 63 #[] (by simp[Act.eval,Act.put]) #[.pointer (some ⟨w.heap.size+2,0,none⟩),.int .i64 12] (by simp[Act.eval,Act.put]) _ Try.func63 (by kernel_rfl) (by kernel_rfl) (fun v w7=>v = .int .i64 (vn:Int)∧SrcW w7 (w.heap.size+2) V code v1 v2∧Fr1 w6.drew w7 (w.heap.size+2)) ((hv _ h6d).mono fun e w7 ⟨q1,q2,q3⟩=>⟨_,q1,rfl,q2,q3⟩) ?_
    rintro v w7 ⟨rfl,h7,f7⟩
    have c7:=(f7.block w.heap.size (by omega) (by omega)).trans c6
    refine hK _ _ ?_
    clear hK K
    refine wpAny_take (i:=5) (v:=.int .i8 (IntKind.i8.wrap (vn:Int))) rfl (by kernel_rfl) (by kernel_rfl) (by kernel_rfl) (fun _ _ _ h=>h) (Or.inl ⟨by rfl,by intro W;go_simp⟩) ?_
    refine wpAny_take (i:=6) (v:=.agg #[.int .i8 (IntKind.i8.wrap (un:Int)),.int .i8 (IntKind.i8.wrap (vn:Int))]) rfl (by kernel_rfl) (by kernel_rfl) (by kernel_rfl) (fun _ _ _ h=>h) (Or.inl ⟨by rfl,by intro W;go_simp⟩) ?_
    refine wpAny_ready (rs:=[7]) (by kernel_rfl) (by simp) ?_
    refine AllReady.cons rfl (fun K hK=>?_) AllReady.nil
    refine step_calls (by rfl) _ _ _ (by rfl) 55 #[] (by simp[Act.eval,Act.put]) #[.agg (Dr.cellsC cs).toArray,.agg #[.int .i8 (IntKind.i8.wrap (un:Int)),.int .i8 (IntKind.i8.wrap (vn:Int))]] (by simp[Act.eval,Act.put]) _ Try.func55 (by kernel_rfl) (by kernel_rfl) (fun v w8=>v = .agg (Dr.cellsC (Dr.swapD cs un vn)).toArray∧Below w7.heap.size w7 w8) ((hsw w7).mono fun e w8 ⟨q1,q2⟩=>⟨_,q1,rfl,q2⟩) ?_
    rintro v w8 ⟨rfl,f8⟩
    have c8:=(f8.block w.heap.size (Array.getElem?_eq_some_iff.1 c7).1).trans c7
    refine hK _ _ ?_
    clear hK K
    refine wpAny_store_row (i:=8) (by kernel_rfl) rfl rfl 31 (.tmp 3) (.tmp 25) rfl w.heap.size (Dr.cellsC (Dr.swapD cs un vn)).toArray (by simp[Act.eval,Act.put]) (by simp[Act.eval,Act.put]) 31 (Dr.cellsC cs).toArray c8 (by rw[Dr.cells_size hsl];kernel_rfl) (by rw[Dr.cells_size hsl,List.size_toArray,hca]) (Dr.cells_one _) ?_
    refine wpAny_done (by kernel_rfl) ?_ _
    simp only[Act.put,List.getElem_toArray,List.getElem_cons_zero,List.getElem_cons_succ,List.setIfInBounds_toArray,List.set_cons_zero,List.set_cons_succ]
    go_wp2
    go_roundw
    case rel=>
     have hst2:Dr.steps code (n+1) (c,q1,q2)=(Dr.swapD cs un vn,v1,v2):=hst
     have z8:w.heap.size+2<w7.heap.size:=h7.lt
     have hb8:Below w.heap.size w (w8.setRow w.heap.size (Dr.cellsC (Dr.swapD cs un vn)).toArray):=Dr.below_setRow (Dr.below_trans (Dr.below_fr f5 (f6d.trans f7) (by omega)) f8) (Nat.le_refl _) _
     refine⟨n+1,by omega,by congr 1;omega,?_,hb8,?_,?_⟩
     ·rw[hst2]
      exact⟨(setRow_other _ _ _ _ (by omega)).trans ((f8.block _ z8).trans h7.hs),h.rdU2 hb8 (by omega)⟩
     ·exact (setRow_other _ _ _ _ (by omega)).trans ((f8.block _ (by omega)).trans ((f7.block _ (by omega) (by omega)).trans r6))
     ·rw[hst2]
      exact setRow_heap _ _ _ _ _ _ c8
    case measure=>simp[intOf];omega
   ·
    refine step_calls (by rfl) _ _ _ (by rfl) 63 #[] (by simp[Act.eval,Act.put]) #[.pointer (some ⟨w.heap.size+2,0,none⟩),.int .i64 12] (by simp[Act.eval,Act.put]) _ Try.func63 (by kernel_rfl) (by kernel_rfl) (fun v w7=>v = .int .i64 (vn:Int)∧SrcW w7 (w.heap.size+2) V code v1 v2∧Fr1 w6.drew w7 (w.heap.size+2)) ((hv _ h6d).mono fun e w7 ⟨q1,q2,q3⟩=>⟨_,q1,rfl,q2,q3⟩) ?_
    rintro v w7 ⟨rfl,h7,f7⟩
    have c7:=(f7.block w.heap.size (by omega) (by omega)).trans c6
    refine hK _ _ ?_
    clear hK K
    refine wpAny_take (i:=5) (v:=.int .i8 (IntKind.i8.wrap (vn:Int))) rfl (by kernel_rfl) (by kernel_rfl) (by kernel_rfl) (fun _ _ _ h=>h) (Or.inl ⟨by rfl,by intro W;go_simp⟩) ?_
    refine wpAny_take (i:=6) (v:=.agg #[.int .i8 (IntKind.i8.wrap (un:Int)),.int .i8 (IntKind.i8.wrap (vn:Int))]) rfl (by kernel_rfl) (by kernel_rfl) (by kernel_rfl) (fun _ _ _ h=>h) (Or.inl ⟨by rfl,by intro W;go_simp⟩) ?_
    refine wpAny_load_row (i:=0) (by kernel_rfl) rfl rfl 31 (.tmp 3) rfl w.heap.size (by simp[Act.eval,Act.put]) (Dr.cellsC cs) _ (range_of c7) hu31 rfl hic ?_
    refine wpAny_ready (rs:=[7]) (by kernel_rfl) (by simp) ?_
    refine AllReady.cons rfl (fun K hK=>?_) AllReady.nil
    refine step_calls (by rfl) _ _ _ (by rfl) 55 #[] (by simp[Act.eval,Act.put]) #[.agg (Dr.cellsC cs).toArray,.agg #[.int .i8 (IntKind.i8.wrap (un:Int)),.int .i8 (IntKind.i8.wrap (vn:Int))]] (by simp[Act.eval,Act.put]) _ Try.func55 (by kernel_rfl) (by kernel_rfl) (fun v w8=>v = .agg (Dr.cellsC (Dr.swapD cs un vn)).toArray∧Below w7.heap.size w7 w8) ((hsw w7).mono fun e w8 ⟨q1,q2⟩=>⟨_,q1,rfl,q2⟩) ?_
    rintro v w8 ⟨rfl,f8⟩
    have c8:=(f8.block w.heap.size (Array.getElem?_eq_some_iff.1 c7).1).trans c7
    refine hK _ _ ?_
    clear hK K
    refine wpAny_store_row (i:=8) (by kernel_rfl) rfl rfl 31 (.tmp 3) (.tmp 25) rfl w.heap.size (Dr.cellsC (Dr.swapD cs un vn)).toArray (by simp[Act.eval,Act.put]) (by simp[Act.eval,Act.put]) 31 (Dr.cellsC cs).toArray c8 (by rw[Dr.cells_size hsl];kernel_rfl) (by rw[Dr.cells_size hsl,List.size_toArray,hca]) (Dr.cells_one _) ?_
    refine wpAny_done (by kernel_rfl) ?_ _
    simp only[Act.put,List.getElem_toArray,List.getElem_cons_zero,List.getElem_cons_succ,List.setIfInBounds_toArray,List.set_cons_zero,List.set_cons_succ]
    go_wp2
    go_roundw
    case rel=>
     have hst2:Dr.steps code (n+1) (c,q1,q2)=(Dr.swapD cs un vn,v1,v2):=hst
     have z8:w.heap.size+2<w7.heap.size:=h7.lt
     have hb8:Below w.heap.size w (w8.setRow w.heap.size (Dr.cellsC (Dr.swapD cs un vn)).toArray):=Dr.below_setRow (Dr.below_trans (Dr.below_fr f5 (f6d.trans f7) (by omega)) f8) (Nat.le_refl _) _
     refine⟨n+1,by omega,by congr 1;omega,?_,hb8,?_,?_⟩
     ·rw[hst2]
      exact⟨(setRow_other _ _ _ _ (by omega)).trans ((f8.block _ z8).trans h7.hs),h.rdU2 hb8 (by omega)⟩
     ·exact (setRow_other _ _ _ _ (by omega)).trans ((f8.block _ (by omega)).trans ((f7.block _ (by omega) (by omega)).trans r6))
     ·rw[hst2]
      exact setRow_heap _ _ _ _ _ _ c8
    case measure=>simp[intOf];omega
  ·have hq2:q0=(n:Int):=by omega
   have hq:q0.toNat=n:=by omega
   have hb5:=(hbd n).1
   generalize hs:Dr.steps code n (c,q1,q2)=s at h5 c5 hb5
   have hl5:s.1.length=12:=hb5.trans hl
   have hic:(Try.prog.info? 31).map (·.size)=some (Dr.cellsC s.1).length:=by rw[Dr.cellsC_len,hl5];kernel_rfl
   go_wp2_with (first
    |(refine wpList_load_midG 31 _ rfl ?_ w.heap.size 0 rfl (Dr.cellsC s.1) _ (range_of c5) Try.underlying31 rfl hic ?_)
    |(refine wpList_store_row rfl 31 _ _ rfl (w.heap.size+1) (Dr.cellsC s.1).toArray rfl rfl 31 Dr.Z r5 (by rw[Dr.cells_size hl5];kernel_rfl) (show Dr.Z.size=_ from (Dr.cells_size hl5).symm) (Dr.cells_one s.1) ?_))
   refine bodyPost_ret (results_cell_row rfl _ _ (w.heap.size+1) 31 (Dr.cellsC s.1).toArray (0,0) _ (by rfl) (setRow_heap _ _ _ _ _ _ r5) Try.underlying31 rfl (by rw[Dr.cells_size hl5];kernel_rfl)) rfl ?_
   exact⟨rfl,Dr.below_setRow f5 (by omega) _⟩
def Dr.stackN(code:List Int)(st:Nat×Int):Nat→List (List (Int×Int))×Nat×Int
 |0=>([],st)
 |n+1=>((Dr.stackN code st n).1++[(Dr.drawn code (Dr.stackN code st n).2).1],(Dr.drawn code (Dr.stackN code st n).2).2)
def Dr.stackD(code:List Int):List (List (Int×Int)):=(Dr.stackN code (Dr.pick code 5 (0,0)).2 (Dr.pick code 5 (0,0)).1.toNat).1
def Dr.cellsS(s:List (List (Int×Int))):List Value:=s.flatMap Dr.cellsC
theorem Dr.drawn_bd{code:List Int}(hcode:∀x,x∈code→0≤x∧x≤255)(st:Nat×Int):(Dr.drawn code st).1.length=12∧(Dr.drawn code st).2.1≤st.1+37:=by
 have h:=Dr.putN_bd hcode st 12
 rw[←Dr.drawn_eq] at h
 exact⟨h.1,by omega⟩
theorem Dr.stackN_bd{code:List Int}(hcode:∀x,x∈code→0≤x∧x≤255)(st:Nat×Int):∀n,(Dr.stackN code st n).1.length=n∧(∀c,c∈(Dr.stackN code st n).1→c.length=12)∧(Dr.stackN code st n).2.1≤st.1+37*n
 |0=>⟨rfl,(fun c hc=>nomatch hc),Nat.le_refl _⟩
 |n+1=>by
  obtain⟨h1,h2,h3⟩:=Dr.stackN_bd hcode st n
  obtain⟨d1,d2⟩:=Dr.drawn_bd hcode (Dr.stackN code st n).2
  unfold Dr.stackN
  refine⟨by simp only;rw[List.length_append,h1];rfl,fun c hc=>?_,by simp only;omega⟩
  rcases List.mem_append.1 hc with q|q
  ·exact h2 c q
  ·rw[List.mem_singleton.1 q];exact d1
theorem Try.info31:(Try.prog.info? 31).map (fun i=>(i.zero,i.size,i.bytes))=some (some (.agg Dr.Z),24,48):=by kernel_rfl
theorem Dr.own_fr{w w':World}{base bs:Nat}{e:TypeId}{size n:Nat}{v:Value}{xs:List Value}(h:w.ownsRow base e size v n xs)(hf:Fr1 w w' bs)(hb:bs<base):w'.ownsRow base e size v n xs:=by
 refine⟨h.1,?_⟩
 rcases h.2 with q|⟨g,cap,cur,rfl,q2,q3,q4⟩
 ·exact .inl q
 ·exact .inr ⟨g,cap,cur,rfl,q2,(hf.block g (Array.getElem?_eq_some_iff.1 q3).1 (by omega)).trans q3,q4⟩
theorem Dr.fill_one{cs:List Value}(h:cs.length=24):Instr.fill (fun i=>some (i*24,24)) ((Array.range (1*24)).map ((Value.agg Dr.Z).cells[· % (Value.agg Dr.Z).cells.size]!)) [(0,Value.agg cs.toArray)]=some cs.toArray:=by
 have:=Great.fill_whole (s:=24) (by omega) [Value.agg cs.toArray] ((Array.range (1*24)).map ((Value.agg Dr.Z).cells[· % (Value.agg Dr.Z).cells.size]!)) (fun v hv=>by rw[List.mem_singleton.1 hv];show cs.toArray.size=24;simpa using h) (by simp)
 simpa[Value.cells] using this
theorem Dr.own_slice{w:World}{B s:Nat}{e:TypeId}{v:Value}{n:Nat}{xs:List Value}(h:w.ownsRow B e s v n xs):∃A c,v = .slice A n c:=by
 rcases h.2 with⟨rfl,q⟩|⟨g,cap,cur,rfl,_⟩
 ·exact⟨none,0,by rw[q]⟩
 ·exact⟨_,cap,rfl⟩
theorem Dr.own_le{w:World}{B C:Nat}{e:TypeId}{s n:Nat}{v:Value}{xs:List Value}(h:w.ownsRow C e s v n xs)(hb:B≤C):w.ownsRow B e s v n xs:=by
 refine⟨h.1,?_⟩
 rcases h.2 with q|⟨g,cap,cur,rfl,q2,q3⟩
 ·exact .inl q
 ·exact .inr ⟨g,cap,cur,rfl,Nat.le_trans hb q2,q3⟩
set_option maxHeartbeats 1000000 in
theorem Try.stack_calls(V:Value)(code:List Int)(w:World)(h:RdB w V code)(hc:code.length≤1000000)(hcode:∀x,x∈code→0≤x∧x≤255):
  Calls Try.prog 14 #[V] w fun e w'=>∃bv,e = .returned bv∧w'.ownsRow w.heap.size 31 24 bv (Dr.stackD code).length (Dr.cellsS (Dr.stackD code))∧Below w.heap.size w w':=by
 have hx:=Try.from0_calls V code w h
 obtain⟨p1,p2,_,p4⟩:=Dr.pick_bd hcode 5 (0,0)
 have p2:=p2 (by omega)
 have hy:=fun W hW=>Try.pick_calls w.heap.size V code 0 0 5 W hW (by omega) hc hcode (by omega)
 unfold Dr.stackD
 have hbd:=fun n=>Dr.stackN_bd hcode (Dr.pick code 5 (0,0)).2 n
 generalize Dr.pick code 5 (0,0)=q at hy p1 p2 p4 hbd
 obtain⟨q0,q1,q2⟩:=q
 simp only at hy p1 p2 p4 hbd ⊢
 go_enter Try.func14,Try.ntmps14
 go_wp2_with (first
  |(go_at_call 62;refine hx.mono ?_;rintro e w1 ⟨rfl,h1,f1,z1⟩;obtain⟨h1a,f1a⟩:=h1.alloc (.cells #[] 31))
  |(go_at_call 63;refine (hy _ h1a).mono ?_;rintro e w2 ⟨rfl,h2,f2⟩))
 have own0:(w1.alloc (.cells #[] 31)).ownsRow (w.heap.size+1) 31 24 (.slice (some ⟨w.heap.size+1,0,none⟩) 0 0) 0 []:=by
  have:=World.ownsRow_made (e:=31) (size:=24) w1 #[] 0 (Nat.le_refl _) (by unfold maxLen;omega) (by simp)
  rw[z1] at this
  exact this
 obtain⟨i0,hi,hz0,hz1,hz2⟩:=info_parts Try.info31
 have f12:=(f1.trans f1a).trans f2
 go_loopw [4,5] (fun v i wr=>∃n:Nat,(n:Int)≤q0∧i = .int .i64 (q0-n)∧SrcW wr w.heap.size V code (Dr.stackN code (q1,q2) n).2.1 (Dr.stackN code (q1,q2) n).2.2∧Fr1 w wr w.heap.size∧wr.ownsRow (w.heap.size+1) 31 24 v n (Dr.cellsS (Dr.stackN code (q1,q2) n).1))
  (fun v i _=>(intOf i).toNat)
 case atStart=>exact⟨0,by omega,by simp,h2,f12,Dr.own_fr own0 f2 (by omega)⟩
 case round=>
  obtain⟨n,hn,rfl,h5,f5,o5⟩:=hrel
  by_cases hlt:(n:Int)<q0
  ·obtain⟨hb1,hb2,hb3⟩:=hbd n
   have hst:Dr.stackN code (q1,q2) (n+1)=((Dr.stackN code (q1,q2) n).1++[(Dr.drawn code (Dr.stackN code (q1,q2) n).2).1],(Dr.drawn code (Dr.stackN code (q1,q2) n).2).2):=rfl
   generalize Dr.stackN code (q1,q2) n=s at *
   obtain⟨cs,pk,sk⟩:=s
   simp only at *
   have hd:=Try.drawn_calls w.heap.size V code pk sk wr h5 (by omega) hc hcode
   obtain⟨d1,d2⟩:=Dr.drawn_bd hcode (pk,sk)
   generalize Dr.drawn code (pk,sk)=u at *
   obtain⟨uc,up,us⟩:=u
   simp only at *
   have hca:(Dr.cellsC uc).length=24:=by rw[Dr.cellsC_len];omega
   obtain⟨A5,c5,rfl⟩:=Dr.own_slice o5
   have hbs:w.heap.size+1≤wr.heap.size:=h5.lt
   have hui:Try.prog.underlying 38=some (.slice 31):=Try.underlying38
   have hA1:¬1*i0.size>2 ^ 24:=by rw[hz1];omega
   have hA2:¬1*i0.size=0:=by rw[hz1];omega
   have hA3:Instr.fill (fun i=>some (i*i0.size,i0.size)) ((Array.range (1*i0.size)).map ((Value.agg Dr.Z).cells[· % (Value.agg Dr.Z).cells.size]!)) [(0,Value.agg (Dr.cellsC uc).toArray)]=some (Dr.cellsC uc).toArray:=by rw[hz1];exact Dr.fill_one hca
   go_wp2_with (first
    |(go_at_call 64;refine hd.mono ?_;rintro e w6 ⟨rfl,h6,f6⟩;have hb6:w.heap.size+1≤(w6.alloc (.cells (Dr.cellsC uc).toArray 31)).heap.size:=Nat.le_trans (Nat.le_trans hbs f6.size) (by simp))
    |(refine wpList_buildSlice rfl 38 31 1 _ rfl (Dr.cellsC uc).toArray i0 _ hui hi hz0 hA1 hA2 ((congrArg _ (by simp[Act.eval])).trans hA3) ?_)
    |(at_builtin;refine wpList_append_own _ rfl _ _ 38 rfl (w.heap.size+1) 31 i0 _ 24 48 hui hi hz0 hz1 hz2 rfl (by omega) _ n _ rfl ((Dr.own_fr o5 f6 (by omega)).alloc _) ⟨w6.heap.size,0,none⟩ 1 1 (Dr.cellsC uc) rfl (by rw[hca]) (World.news_of_block (cs:=(Dr.cellsC uc).toArray) (t:=31) (fr:=(0,0)) (heap_alloc_new w6 _)) (Dr.cells_one1 uc) (by unfold maxLen;omega) (by omega) hb6 ?_;intro v7 w7 hown7 hgrow7 _))
   go_roundw
   case rel=>
    obtain⟨h6a,f6a⟩:=h6.alloc (.cells (Dr.cellsC uc).toArray 31)
    have f7x:∀k,k<(w6.alloc (.cells (Dr.cellsC uc).toArray 31)).heap.size→k<w.heap.size+1→w7.heap[k]? = (w6.alloc (.cells (Dr.cellsC uc).toArray 31)).heap[k]? := fun k hk hlt2=>hgrow7.block k hk (fun q=>by
     have:=(o5.lt k q.symm).1
     omega)
    have f56:=(f5.trans f6).trans f6a
    have f7:Fr1 w w7 w.heap.size:=⟨hgrow7.os.trans f56.os,hgrow7.tape.trans f56.tape,hgrow7.output.trans f56.output,Nat.le_trans f56.size hgrow7.size,fun k hk hne=>(f7x k (Nat.lt_of_lt_of_le hk f56.size) (by omega)).trans (f56.block k hk hne)⟩
    refine⟨n+1,by omega,by congr 1;omega,?_,f7,?_⟩
    ·rw[hst]
     have hbl:w.heap.size<(w6.alloc (.cells (Dr.cellsC uc).toArray 31)).heap.size:=h6a.lt
     exact⟨(f7x w.heap.size hbl (by omega)).trans h6a.hs,h.rdU2 (f7.below (Nat.le_refl _)) (Nat.le_refl _)⟩
    ·rw[hst]
     simp only
     have ee:Dr.cellsS (cs++[uc])=Dr.cellsS cs++Dr.cellsC uc:=by unfold Dr.cellsS;rw[List.flatMap_append];simp
     rw[ee]
     exact hown7
   case measure=>simp[intOf];omega
  ·have hq2:q0=(n:Int):=by omega
   have hq:q0.toNat=n:=by omega
   obtain⟨hb1,hb2,hb3⟩:=hbd n
   go_wp2
   go_ret
   refine⟨_,rfl,?_,f5.below (Nat.le_refl _)⟩
   simp only[Int.toNat_natCast,hb1]
   exact Dr.own_le o5 (by omega)
def cmpI(x y:Int):Int:=if x<y then -1 else if y<x then 1 else 0
theorem Try.cmp116(x y:Int)(w:World):Calls Try.prog 116 #[.int .u8 x,.int .u8 y] w fun e w'=>e = .returned (.int .i64 (cmpI x y))∧∃q,w'=w.drewN q:=by
 unfold cmpI
 go_enter Try.func116,Try.ntmps116
 go_wp2
 all_goals (go_ret;exact⟨rfl,0,rfl⟩)
theorem Try.cmp117(x y:Int)(w:World):Calls Try.prog 117 #[.int .i16 x,.int .i16 y] w fun e w'=>e = .returned (.int .i64 (cmpI x y))∧∃q,w'=w.drewN q:=by
 unfold cmpI
 go_enter Try.func117,Try.ntmps117
 go_wp2
 all_goals (go_ret;exact⟨rfl,0,rfl⟩)
theorem Try.cmp115(x y r:Int)(b o cap:Nat)(w:World)(hr:(if x=0 then y else x)=r)(h0:w.cell? ⟨b,o,none⟩=some (.int .i64 x))(h1:w.cell? ⟨b,o+1,none⟩=some (.int .i64 y)):Calls Try.prog 115 #[.slice (some ⟨b,o,none⟩) 2 cap] w fun e w'=>e = .returned (.int .i64 r)∧∃q,w'=w.drewN q:=by
 go_enter Try.func115,Try.ntmps115
 go_wp2
 go_loopw [8] (fun i wi=>∃j:Nat,j≤2∧i = .int .i64 j∧wi=w∧(1≤j→x=0)∧(2≤j→y=0)) (fun i _=>2-(intOf i).toNat)
 case atStart=>exact⟨0,by omega,rfl,rfl,fun q=>by omega,fun q=>by omega⟩
 case round=>
  obtain⟨j,hj,rfl,rfl,hx,hy⟩:=hrel
  match j,hj with
  |0,_=>
   by_cases c:x=0
   ·have cb:(x != 0)=false:=by simpa using c
    go_wp2
    go_roundw
    case rel=>exact⟨1,by omega,rfl,trivial,fun _=>c,fun q=>by omega⟩
    case measure=>simp[intOf]
   ·have cb:(x != 0)=true:=by simpa using c
    rw[if_neg c] at hr
    subst hr
    go_wp2
    go_ret
    exact⟨rfl,0,rfl⟩
  |1,_=>
   have hx:=hx (by omega)
   rw[if_pos hx] at hr
   subst hr
   by_cases c:y=0
   ·have cb:(y != 0)=false:=by simpa using c
    go_wp2
    go_roundw
    case rel=>exact⟨2,by omega,rfl,trivial,fun _=>hx,fun _=>c⟩
    case measure=>simp[intOf]
   ·have cb:(y != 0)=true:=by simpa using c
    go_wp2
    go_ret
    exact⟨rfl,0,rfl⟩
  |2,_=>
   have hx:=hx (by omega)
   have hy:=hy (by omega)
   rw[if_pos hx,hy] at hr
   subst hr
   go_wp2
   go_ret
   exact⟨rfl,0,rfl⟩
theorem cell_new2(W:World)(A B:Value)(t:TypeId){b:Nat}(hb:W.heap.size=b):(W.alloc (.cells #[A,B] t)).cell? ⟨b,0,none⟩=some A∧(W.alloc (.cells #[A,B] t)).cell? ⟨b,0+1,none⟩=some B:=by
 subst hb
 have h0:=World.news_of_block (cs:=#[A,B]) (t:=t) (fr:=(0,0)) (heap_alloc_new W _) 0 A rfl
 have h1:=World.news_of_block (cs:=#[A,B]) (t:=t) (fr:=(0,0)) (heap_alloc_new W _) 1 B rfl
 exact⟨h0,h1⟩
theorem grown_of2{w w':World}(h:Below w.heap.size w w')(hd:w.drawn≤w'.drawn):∃q os',w'=Go.Sort.grow (w.drewN q) os':=by
 refine⟨w'.drawn-w.drawn,w'.heap.extract w.heap.size w'.heap.size,?_⟩
 obtain⟨h1,h2,h3,h4,h5⟩:=h
 have e:w'.heap=w.heap++w'.heap.extract w.heap.size w'.heap.size:=by
  refine Array.ext_getElem? fun k=>?_
  by_cases c:k<w.heap.size
  ·rw[Array.getElem?_append_left c,h5 k c]
  ·rw[Array.getElem?_append_right (by omega)]
   simp only[Array.getElem?_extract]
   by_cases c2:k<w'.heap.size
   ·rw[if_pos (by omega)]
    congr 1
    omega
   ·rw[if_neg (by omega),Array.getElem?_eq_none (by omega)]
 obtain⟨hp,tp,dr,os,ou⟩:=w'
 obtain⟨hp',tp',dr',os',ou'⟩:=w
 simp only at h1 h2 h3 hd e
 subst h1 h2 h3
 unfold Go.Sort.grow World.drewN
 simp only
 rw[←e,show dr'+(dr-dr')=dr by omega]
set_option maxHeartbeats 1000000 in
theorem Try.cmp77(k1 y1 k2 y2:Int)(w:World):Calls Try.prog 77 #[.agg #[.int .u8 k1,.int .i16 y1],.agg #[.int .u8 k2,.int .i16 y2]] w fun e w'=>e = .returned (.int .i64 (if cmpI k1 k2=0 then cmpI y1 y2 else cmpI k1 k2))∧∃q os',w'=Go.Sort.grow (w.drewN q) os':=by
 generalize hA:cmpI k1 k2=A
 generalize hB:cmpI y1 y2=B
 generalize hR:(if A=0 then B else A)=R
 have h116:=fun w=>Try.cmp116 k1 k2 w
 have h117:=fun w=>Try.cmp117 y1 y2 w
 rw[hA] at h116
 rw[hB] at h117
 go_enter Try.func77,Try.ntmps77
 go_wp2
 go_region_held3 (fun w'=>w'.cell? ⟨w.heap.size,0,none⟩=some (.int .u8 k1)∧w'.cell? ⟨w.heap.size,1,none⟩=some (.int .i16 y1)∧w'.cell? ⟨w.heap.size+1,0,none⟩=some (.int .u8 k2)∧w'.cell? ⟨w.heap.size+1,1,none⟩=some (.int .i16 y2))
  (first|go_keep)
  (first|(go_at_call 116;refine (h116 _).mono ?_;rintro e w1 ⟨rfl,q1,rfl⟩)|(go_at_call 117;refine (h117 _).mono ?_;rintro e w2 ⟨rfl,q2,rfl⟩)|(go_at_call 115;refine (Try.cmp115 A B R _ 0 2 _ hR (cell_new2 _ _ _ _ (by simp)).1 (cell_new2 _ _ _ _ (by simp)).2).mono ?_;rintro e w3 ⟨rfl,q3,rfl⟩))
 go_wp2
 go_ret
 refine⟨rfl,grown_of2 ?_ (by show w.drawn≤w.drawn+(1+q1+q2)+q3;omega)⟩
 have b2:=((Below.refl _ w).alloc (Nat.le_refl _) (.cells #[.int .u8 k1,.int .i16 y1] 29)).alloc (by simp) (.cells #[.int .u8 k2,.int .i16 y2] 29)
 have b3:Below w.heap.size w (((w.alloc (.cells #[.int .u8 k1,.int .i16 y1] 29)).alloc (.cells #[.int .u8 k2,.int .i16 y2] 29)).drewN (1+q1+q2)):=⟨b2.os,b2.tape,b2.output,b2.size,b2.block⟩
 have b4:=b3.alloc b3.size (.cells #[.int .i64 A,.int .i64 B] 3)
 exact⟨b4.os,b4.tape,b4.output,b4.size,b4.block⟩
end Go.Proofs
namespace Go.Proofs
open Go.Shelf
def Try.sortB_ren:Go.Shelf.Ren:=⟨fun|6=>112|15=>137|14=>136|28=>155|29=>156|20=>147|21=>148|22=>149|23=>150|24=>151|25=>152|26=>153|27=>154|46=>168|47=>169|48=>170|49=>171|50=>172|57=>177|n=>n,fun|22=>63|24=>29|25=>104|3=>3|39=>150|0=>0|53=>170|55=>130|4=>4|46=>163|45=>162|50=>167|5=>5|9=>9|66=>182|70=>186|76=>190|77=>191|n=>n,fun|n=>n⟩
theorem Try.sortB:Go.Proofs.SlLaysF0.n6 Try.prog Try.sortB_ren:={
 mixed:=by kernel_rfl
 f6:=⟨Try.f112.name,by decide,Try.func112.trans (congrArg some (by kernel_rfl))⟩
 f14:=⟨Try.f136.name,by decide,Try.func136.trans (congrArg some (by kernel_rfl))⟩
 f15:=Try.func137.trans (congrArg some (by kernel_rfl))
 f20:=⟨Try.f147.name,by decide,Try.func147.trans (congrArg some (by kernel_rfl))⟩
 f21:=⟨Try.f148.name,by decide,Try.func148.trans (congrArg some (by kernel_rfl))⟩
 f22:=⟨Try.f149.name,by decide,Try.func149.trans (congrArg some (by kernel_rfl))⟩
 f23:=⟨Try.f150.name,by decide,Try.func150.trans (congrArg some (by kernel_rfl))⟩
 f24:=⟨Try.f151.name,by decide,Try.func151.trans (congrArg some (by kernel_rfl))⟩
 f25:=⟨Try.f152.name,by decide,Try.func152.trans (congrArg some (by kernel_rfl))⟩
 f26:=⟨Try.f153.name,by decide,Try.func153.trans (congrArg some (by kernel_rfl))⟩
 f27:=⟨Try.f154.name,by decide,Try.func154.trans (congrArg some (by kernel_rfl))⟩
 f28:=Try.func155.trans (congrArg some (by kernel_rfl))
 f29:=Try.func156.trans (congrArg some (by kernel_rfl))
 f46:=⟨Try.f168.name,by decide,Try.func168.trans (congrArg some (by kernel_rfl))⟩
 f47:=Try.func169.trans (congrArg some (by kernel_rfl))
 f48:=Try.func170.trans (congrArg some (by kernel_rfl))
 f49:=⟨Try.f171.name,by decide,Try.func171.trans (congrArg some (by kernel_rfl))⟩
 f50:=⟨Try.f172.name,by decide,Try.func172.trans (congrArg some (by kernel_rfl))⟩
 f57:=⟨Try.f177.name,by decide,Try.func177.trans (congrArg some (by kernel_rfl))⟩
 t0:=Try.underlying0
 a0:=Try.isAgg0
 z0:=Try.sizeOf0
 v0:=Try.zeroValue0
 t3:=Try.underlying3
 a3:=Try.isAgg3
 z3:=Try.sizeOf3
 v3:=Try.zeroValue3
 t4:=Try.underlying4
 a4:=Try.isAgg4
 z4:=Try.sizeOf4
 v4:=Try.zeroValue4
 t5:=Try.underlying5
 a5:=Try.isAgg5
 z5:=Try.sizeOf5
 v5:=Try.zeroValue5
 t9:=Try.underlying9
 a9:=Try.isAgg9
 z9:=Try.sizeOf9
 v9:=Try.zeroValue9
 t22:=Try.underlying63
 a22:=Try.isAgg63
 z22:=Try.sizeOf63
 v22:=Try.zeroValue63
 t25:=Try.underlying104
 a25:=Try.isAgg104
 z25:=Try.sizeOf104
 v25:=Try.zeroValue104
 t39:=Try.underlying150
 a39:=Try.isAgg150
 z39:=Try.sizeOf150
 v39:=Try.zeroValue150
 t45:=Try.underlying162
 a45:=Try.isAgg162
 z45:=Try.sizeOf162
 v45:=Try.zeroValue162
 t46:=Try.underlying163
 a46:=Try.isAgg163
 z46:=Try.sizeOf163
 v46:=Try.zeroValue163
 t50:=Try.underlying167
 a50:=Try.isAgg167
 z50:=Try.sizeOf167
 v50:=Try.zeroValue167
 t53:=Try.underlying170
 a53:=Try.isAgg170
 z53:=Try.sizeOf170
 v53:=Try.zeroValue170
 t55:=Try.underlying130
 a55:=Try.isAgg130
 z55:=Try.sizeOf130
 v55:=Try.zeroValue130
 t66:=Try.underlying182
 a66:=Try.isAgg182
 z66:=Try.sizeOf182
 v66:=Try.zeroValue182
 t70:=Try.underlying186
 a70:=Try.isAgg186
 z70:=Try.sizeOf186
 v70:=Try.zeroValue186
 t76:=Try.underlying190
 a76:=Try.isAgg190
 z76:=Try.sizeOf190
 v76:=Try.zeroValue190
 t77:=Try.underlying191
 a77:=Try.isAgg191
 z77:=Try.sizeOf191
 v77:=Try.zeroValue191 }
end Go.Proofs
