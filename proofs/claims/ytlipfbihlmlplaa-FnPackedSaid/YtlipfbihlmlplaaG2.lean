/- A reading of Go's operations over plain values, and its proof against the model: part 2. -/
import Derived.Lib.SliceRun
import Derived.Laws.Tables
import Derived.Test.YtlipfbihlmlplaaG1
namespace Go.Proofs.Ytlipfbihlmlplaa.G
open Go Go.RowKit
set_option linter.unusedVariables false
set_option linter.unusedSimpArgs false
theorem rowAt_new(w:World)(arr:Array Value)(e:TypeId){sz n cap:Nat}{cs:List Value}(h1:n≤cap)(h2:∀(j:Nat) (v:Value),cs[j]? = some v→arr[j]? = some v)(h3:cap*sz≤arr.size):
  RowAt (w.alloc (.cells arr e)) true sz ⟨some ⟨w.heap.size,0,none⟩,cap⟩ n cs where
 le:=h1
 at_:=fun _=>⟨w.heap.size,0,rfl,by simp,fun j v hv=>by rw[Nat.zero_add,cell_of_row _ _ j arr e (0,0) (heap_alloc_new w _)];exact h2 j v hv⟩
 own:=fun _ _=>⟨w.heap.size,0,arr,e,rfl,heap_alloc_new w _,by rw[Nat.zero_add];exact h3⟩
theorem run_newRow{P:Program}(w:World)(e:TypeId)(cs:Array Value):(newRow e cs).run P w = .ok ⟨w.heap.size,0,none⟩ (w.alloc (.cells cs e)):=rfl
theorem fr_alloc(w:World)(o:Obj):Fr [] w (w.alloc o):=⟨rfl,TD.refl w,rfl,by simp,fun k hk _=>heap_alloc_old w o hk⟩
theorem memH_dflt{w:World}{own:Bool}:∀(t:Ty) (h:Option (List Stp)),memH w own t h t.dflt t.dloc∧blks own t h t.dflt t.dloc=[]
 |.int _,_=>⟨trivial,rfl⟩
 |.bool,_=>⟨trivial,rfl⟩
 |.str,_=>⟨trivial,rfl⟩
 |.pair a b,h=>⟨⟨(memH_dflt a _).1,(memH_dflt b _).1⟩,by simp only[blks];rw[show (Ty.pair a b).dflt.1=a.dflt from rfl,show (Ty.pair a b).dflt.2=b.dflt from rfl,show (Ty.pair a b).dloc.1=a.dloc from rfl,show (Ty.pair a b).dloc.2=b.dloc from rfl,(memH_dflt (w:=w) (own:=own) a _).2,(memH_dflt (w:=w) (own:=own) b _).2];rfl⟩
 |.st t,h=>memH_dflt t h
 |.arr n t,h=>by
  have e:∀i,List.getD (Ty.arr n t).dflt i t.dflt=t.dflt:=fun i=>getD_dflt
  refine⟨⟨by simp[Ty.dflt],fun i hi=>?_⟩,?_⟩
  ·rw[e];exact (memH_dflt t _).1
  ·simp only[blks]
   rw[List.flatMap_eq_nil_iff]
   intro i _
   rw[e];exact (memH_dflt (w:=w) (own:=own) t _).2
 |.row e t,h=>⟨.inr ⟨⟨Nat.le_refl _,fun hn=>by simp[Ty.dflt] at hn,fun _ hc=>by simp[Ty.dloc] at hc⟩,fun i hi=>by simp[Ty.dflt] at hi⟩,by simp[blks,Ty.dflt,hdrBlk,Ty.dloc]⟩
section
variable {P:Program} {E:Env} {m:Nat} {w0:World} {MB:Out} {s:St} {g:Gh} {a:Act} {w:World} {α:Type}
theorem newOk_dn{e:Eff}{objs:List (Option Ob)}{dn dn2:Nat}(h:newOk e objs dn dn2=true){x:Option Ob}(hx:(dn,x)∈e.upd):dn<objs.length∧obAt objs dn=none:=by
 unfold newOk at h
 have:=List.all_eq_true.1 h _ hx
 simp at this
 exact⟨this.2,this.1⟩
theorem R.fresh1(h:R m w0 MB s g a w)(dn:Nat)(e:TypeId)(t:Ty)(l:List t.den)(cap:Nat)(locs:Nat→t.loc)(arr:Array Value)(sv:SV)(dst:Option Tmp)(v:Value)
  (hdn:dn<s.objs.length∧obAt s.objs dn=none) (h1:l.length≤cap) (h2:∀(j:Nat) (u:Value),(rowCells t l locs)[j]? = some u→arr[j]? = some u) (h3:cap*t.size≤arr.size)
  (h4:∀i,i<l.length→memH w true t none (l.getD i t.dflt) (locs i)∧blks true t none (l.getD i t.dflt) (locs i)=[])
  (hv:∀objs' g',datAt objs' dn=some ⟨e,t,l,true,true,none⟩→g'.G dn t=(⟨some ⟨w.heap.size,0,none⟩,cap⟩,locs)→SRel objs' g' sv v):
  ∃g',R m w0 MB (Eff.on { v:=sv,upd:=[(dn,some (.dat ⟨e,t,l,true,true,none⟩))] } dst s) g' (a.put dst v) (w.alloc (.cells arr e)):=by
 have hf:=fr_alloc w (.cells arr e)
 refine⟨_,h.renew [] dn ⟨e,t,l,true,true,none⟩ (⟨some ⟨w.heap.size,0,none⟩,cap⟩,locs) (w.alloc (.cells arr e)) sv dst v (fun k hk=>by cases hk) hdn.1 (.inl hdn.2) ⟨rfl,rfl,rfl⟩ (.inl hf)
  (fun b hb _=>hf.block b hb (by simp)) ?_ ?_ ?_ ?_⟩
 ·refine .inr ⟨rowAt_new w arr e h1 h2 h3,fun i hi=>?_⟩
  refine memH_frame hf.size _ _ _ _ (h4 i hi).1 (fun k hk=>?_)
  rw[show sub none (.idx i)=none from rfl] at hk
  rw[(h4 i hi).2] at hk
  cases hk
 all_goals
  have eb:blks true (.row e t) none l (⟨some ⟨w.heap.size,0,none⟩,cap⟩,locs)=hdrBlk true ⟨some ⟨w.heap.size,0,none⟩,cap⟩ l.length:=by
   simp only[blks,lent,Bool.false_eq_true,if_false]
   rw[List.append_right_eq_self.2]
   rw[List.flatMap_eq_nil_iff]
   intro i hi
   exact (h4 i (List.mem_range.1 hi)).2
 ·show (blks true (.row e t) none l _).Nodup
  rw[eb]
  unfold hdrBlk
  simp only
  split<;>simp
 ·intro b hb
  replace hb:b∈blks true (.row e t) none l (⟨some ⟨w.heap.size,0,none⟩,cap⟩,locs):=hb
  rw[eb] at hb
  unfold hdrBlk at hb
  simp only at hb
  split at hb
  ·left;simp at hb;omega
  ·cases hb
 ·refine hv _ _ ?_ (Gh.put_same _ _ _ _)
  rw[←datAt_ob]
  show obAt (s.objs.set dn _) dn=_
  rw[obAt_set _ _ _ _ hdn.1,if_pos rfl]
theorem ptr_new{objs:List (Option Ob)}{g:Gh}{dn:Nat}{e:TypeId}{t:Ty}{x:t.den}{b cap:Nat}{locs:Nat→t.loc}(hd:datAt objs dn=some ⟨e,t,[x],true,true,none⟩)(hg:g.G dn t=(⟨some ⟨b,0,none⟩,cap⟩,locs)):
  SRel objs g (.ptr dn [.idx 0] false) (.pointer (some ⟨b,0,none⟩)):=by
 refine .inl ⟨_,⟨t,x,locs 0,b,0⟩,hd,?_,by simp,rfl,fun _=>by show crosses t []=false;cases t<;>rfl⟩
 unfold rootPL
 simp only[hg,getPL]
 rw[if_pos (by simp)]
 simp only[Nat.zero_mul,Nat.zero_add]
 rfl
theorem sl_new{objs:List (Option Ob)}{g:Gh}{dn:Nat}{e:TypeId}{t:Ty}{l:List t.den}{b cap:Nat}{locs:Nat→t.loc}(hd:datAt objs dn=some ⟨e,t,l,true,true,none⟩)(hg:g.G dn t=(⟨some ⟨b,0,none⟩,cap⟩,locs))(hc:l.length≤cap):
  SRel objs g (.sl dn [] none) (.slice (some ⟨b,0,none⟩) l.length cap):=by
 refine⟨_,_,_,_,_,hd,fun _=>rfl,getPL_nil _ _ _ _ _,rfl,some ⟨b,0,none⟩,cap,rfl,by simp[Win.off,Win.lenN],hc,fun _=>⟨b,0,by rw[hg],by simp[Win.off]⟩,fun _=>⟨by rw[hg];simp[Win.off],fun _=>⟨b,0,by rw[hg],by simp[Win.off]⟩⟩⟩
theorem rowCells_one(t:Ty)(x:t.den)(locs:Nat→t.loc):rowCells t [x] locs=cells t x (locs 0):=by
 simp[rowCells,List.range_succ]
theorem alloc_holds(T:TTok P E)(h:R m w0 MB s g a w){o:Oper}{t:TypeId}(ho:o.op = .alloc t){dn dn2:Nat}{K:Eff→Option α}{r:α}
  (hK:effAlloc E dn t K=some r):∃e,K e=some r∧(newOk e s.objs dn dn2=true→Holds P m w0 MB s g o a w e):=by
 unfold effAlloc at hK
 split at hK
 ·rename_i u ht
  refine⟨_,hK,fun hn=>?_⟩
  have hdn:=newOk_dn hn (x:=some (.dat ⟨t,u,[u.dflt],true,true,none⟩)) (by simp)
  obtain⟨i,z,hi,hz,hc⟩:=T.zero t u ht
  have hsz:z.cells.size=u.size:=by rw[←Array.length_toList,hc,cells_length]
  obtain⟨g',hg'⟩:=h.fresh1 dn t u [u.dflt] 1 (fun _=>u.dloc) z.cells (.ptr dn [.idx 0] false) o.dst (.pointer (some ⟨w.heap.size,0,none⟩)) hdn (by simp)
   (fun j v hv=>by rw[rowCells_one,←hc,Array.getElem?_toList] at hv;exact hv) (by omega) (fun i hi=>by
    have:i=0:=by simpa using hi
    subst this
    exact memH_dflt u none) (fun objs' g' hd hg=>ptr_new hd hg)
  exact does_run (w':=w.alloc (.cells z.cells t)) (by unfold execOp;rw[ho];simp only[Instr.alloc,zeroValue,typeInfo,Sem.run_bind,run_program,Result.andThen_ok,hi,hz,Sem.run_pure,newVar,run_newRow]) ⟨g',hg'⟩
 ·cases hK
theorem toV_cells{t:Ty}(hf:t.flat=true)(hp:∀a b,t≠.pair a b)(x:t.den):(toV t x).cells.toList=encV t x:=by
 cases t with
 |pair a b=>exact absurd rfl (hp a b)
 |row e u=>cases hf
 |_=>simp[toV,Ty.isAgg,Value.cells,encV,cells]
theorem box_holds(T:TTok P E)(h:R m w0 MB s g a w){o:Oper}{t:TypeId}{x:Operand}(ho:o.op = .box t x){dn dn2:Nat}{K:Eff→Option α}{r:α}
  (hK:effBox E s.objs dn t (evalO s.slots x) K=some r):∃e,K e=some r∧(newOk e s.objs dn dn2=true→Holds P m w0 MB s g o a w e):=by
 have hx:=h.eval x
 revert hK hx
 generalize evalO s.slots x=sx
 intro hK hx
 have run:∀{v:Value},a.eval x=v→(execOp a.eval o).run P w = .ok (.value (.pointer (some ⟨w.heap.size,0,none⟩))) (w.alloc (.cells v.cells t)):=fun hv=>by
  unfold execOp;rw[ho];simp only[Instr.box,hv,newVar,Sem.run_bind,run_newRow,Result.andThen_ok,Sem.run_pure]
 unfold effBox at hK
 split at hK
 ·rename_i u y
  split at hK
  ·rename_i ht
   refine⟨_,hK,fun hn=>?_⟩
   have hdn:=newOk_dn hn (x:=some (.dat ⟨t,u,[y],true,true,none⟩)) (by simp)
   obtain⟨hf,hok,hv⟩:=hx
   have hc:=toV_cells hf (fun c d e=>T.nopair (e▸ht)) y
   have hsz:(toV u y).cells.size=u.size:=by rw[←Array.length_toList,hc];exact cells_length _ _ _
   obtain⟨g',hg'⟩:=h.fresh1 dn t u [y] 1 (fun _=>u.dloc) (toV u y).cells (.ptr dn [.idx 0] false) o.dst (.pointer (some ⟨w.heap.size,0,none⟩)) hdn (by simp)
    (fun j v hv=>by rw[rowCells_one] at hv;rw[←Array.getElem?_toList,hc];exact hv) (by omega) (fun i hi=>by
     have:i=0:=by simpa using hi
     subst this
     exact⟨memH_of_ok u hf _ _ _ hok,blks_flat u hf _ _ _⟩) (fun objs' g' hd hg=>ptr_new hd hg)
   exact does_run (run hv) ⟨g',hg'⟩
  ·cases hK
 ·rename_i n wn
  split at hK
  ·rename_i d hd
   split at hK
   ·rename_i hwr
    refine⟨_,hK,fun hn=>?_⟩
    have hdn:=newOk_dn hn (x:=some (.bx t n wn)) (by simp)
    obtain⟨d',Q,sz,hd',tot,g1,g2,g3,g4,A,c,e1,e2⟩:=hx
    have hx:SlRel s.objs g n [] wn (a.eval x):=⟨d',Q,sz,hd',tot,g1,g2,g3,g4,A,c,e1,e2⟩
    have hcs:(a.eval x).cells = #[a.eval x]:=by rw[e1];rfl
    refine does_run (run rfl) ?_
    rw[hcs]
    have hob:∀k,obAt (s.objs.set dn (some (.bx t n wn))) k=if k=dn then some (.bx t n wn) else obAt s.objs k:=fun k=>obAt_set _ _ _ _ hdn.1
    have hne:∀k x,obAt s.objs k=some x→k≠dn:=fun k x hk e=>by rw[e,hdn.2] at hk;cases hk
    have hold:∀k x,obAt (s.objs.set dn (some (.bx t n wn))) k=some x→(k=dn∧x = .bx t n wn)∨(k≠dn∧obAt s.objs k=some x):=fun k x hk=>by
     rw[hob k] at hk
     split at hk
     ·exact .inl ⟨‹_›,(Option.some.inj hk).symm⟩
     ·exact .inr ⟨‹_›,hk⟩
    have hstay:∀k x,obAt s.objs k=some x→obAt (s.objs.set dn (some (.bx t n wn))) k=some x:=fun k x hk=>by rw[hob k,if_neg (hne k x hk)];exact hk
    have hf:=fr_alloc w (.cells #[a.eval x] t)
    have hG:∀k:Nat,({ g with B:=fun k=>if k=dn then (w.heap.size,0) else g.B k }:Gh).G k=g.G k:=fun _=>rfl
    refine⟨{ g with B:=fun k=>if k=dn then (w.heap.size,0) else g.B k },h.step { v:=.ptr dn [.idx 0] false,upd:=[(dn,some (.bx t n wn))] } o.dst _ _ _ (fun sv u hr hh=>?_) ?_ ?_ ?_ ?_ ?_ ?_ (fun k d0 hk hf0=>⟨d0,datAt_ob.1 (hstay k _ (datAt_ob.2 hk)),rfl,rfl,rfl,hf0,rfl,rfl⟩)⟩
    ·refine SRel.keep (g:=g) (g':={ g with B:=fun k=>if k=dn then (w.heap.size,0) else g.B k }) (fun k x' hk _ _=>⟨hstay k x' hk,rfl,?_⟩) (fun k d0 _ _ hl=>by cases hl) (fun _ _ _ _ _ hl=>by cases hl) hr hh
     simp[hne k x' hk]
    ·exact .inr ⟨t,n,wn,by show obAt (s.objs.set dn _) dn=_;rw[hob dn,if_pos rfl],rfl,by simp⟩
    ·intro k d0 hk
     rcases hold k _ (datAt_ob.2 hk) with⟨_,e⟩|⟨q1,q2⟩
     ·cases e
     ·exact memH_frame hf.size _ _ _ _ (h.dat k d0 (datAt_ob.1 q2)) (fun b hb=>hf.block b (blks_lt _ _ _ _ (h.dat k d0 (datAt_ob.1 q2)) b hb) (by simp))
    ·intro k e' k2 wn' hk
     rcases hold k _ hk with⟨rfl,e⟩|⟨q1,q2⟩
     ·cases e
      refine⟨d,a.eval x,datAt_ob.1 (hstay _ _ (datAt_ob.2 hd)),hwr,?_,hx.keep (fun d2 hd2=>⟨datAt_ob.1 (hstay _ _ (datAt_ob.2 hd2)),rfl⟩)⟩
      simp only[if_true]
      rw[cell_of_row _ _ 0 #[a.eval x] t (0,0) (heap_alloc_new w _)]
      rfl
     ·obtain⟨d1,u,p1,p2,p3,p4⟩:=h.bx k e' k2 wn' q2
      refine⟨d1,u,datAt_ob.1 (hstay _ _ (datAt_ob.2 p1)),p2,?_,p4.keep (fun d2 hd2=>⟨datAt_ob.1 (hstay _ _ (datAt_ob.2 hd2)),rfl⟩)⟩
      simp only[if_neg q1]
      exact (World.cell?_of_block (w:=w) (hf.block _ (World.block_lt_of_cell? w _ p3) (by simp))).trans p3
    ·intro k d0 hk hw
     rcases hold k _ (datAt_ob.2 hk) with⟨_,e⟩|⟨q1,q2⟩
     ·cases e
     ·obtain⟨s1,s2⟩:=h.sep k d0 (datAt_ob.1 q2) hw
      refine⟨s1,fun k' x' hne' hx' b hb1 hb2=>?_⟩
      rcases hold k' x' hx' with⟨rfl,rfl⟩|⟨q3,q4⟩
      ·simp[blksO] at hb2
       have:=blks_lt _ _ _ _ (h.dat k d0 (datAt_ob.1 q2)) b hb1
       omega
      ·refine s2 k' x' hne' q4 b hb1 ?_
       cases x' with
       |dat d2=>exact hb2
       |bx _ _ _=>simpa[blksO,q3] using hb2
    ·intro k d0 hk hw b hb
     rcases hold k _ (datAt_ob.2 hk) with⟨_,e⟩|⟨q1,q2⟩
     ·cases e
     ·exact h.fresh k d0 (datAt_ob.1 q2) hw b hb
    ·exact h.frame.trans ⟨hf.os,hf.tape,hf.output,hf.size,fun k hk _=>hf.block k hk (by simp)⟩
   ·cases hK
  ·cases hK
 ·cases hK
def splice(cs:List Value)(o:Nat)(vs:List Value):List Value:=cs.take o++vs++cs.drop (o+vs.length)
theorem splice_length{cs vs:List Value}{o:Nat}(h:o+vs.length≤cs.length):(splice cs o vs).length=cs.length:=by
 simp[splice];omega
theorem splice_get{cs vs:List Value}{o:Nat}(h:o+vs.length≤cs.length)(j:Nat):(splice cs o vs)[j]? = if o≤j∧j<o+vs.length then vs[j-o]? else cs[j]? := by
 unfold splice
 have ht:(cs.take o).length=o:=by simp;omega
 rcases Nat.lt_or_ge j o with h1|h1
 ·rw[List.append_assoc,List.getElem?_append_left (by omega),List.getElem?_take,if_pos h1,if_neg (by omega)]
 ·rw[List.append_assoc,List.getElem?_append_right (by omega),ht]
  rcases Nat.lt_or_ge j (o+vs.length) with h2|h2
  ·rw[List.getElem?_append_left (by omega),if_pos ⟨h1,h2⟩]
  ·rw[List.getElem?_append_right (by omega),List.getElem?_drop,if_neg (by omega)]
   congr 1
   omega
theorem fold_set(vs:List Value):∀(k off:Nat) (cells:Array Value),off+k+vs.length≤cells.size →
  ((vs.zipIdx k).foldl (fun cs (p:Value×Nat)=>cs.setIfInBounds (off+p.2) p.1) cells).toList=splice cells.toList (off+k) vs:=by
 induction vs with
 |nil=>intro k off cells h;simp[splice]
 |cons v vs ih=>
  intro k off cells h
  simp only[List.length_cons] at h
  rw[List.zipIdx_cons,List.foldl_cons,ih (k+1) off _ (by simp;omega)]
  apply List.ext_getElem?
  intro j
  rw[splice_get (by simp only[Array.length_toList,Array.size_setIfInBounds];omega),splice_get (by simp only[Array.length_toList,List.length_cons];omega)]
  simp only[Array.toList_setIfInBounds,List.length_cons]
  rw[List.getElem?_set]
  by_cases h1:j=off+k
  ·subst h1
   have hlt:off+k<cells.toList.length:=by rw[Array.length_toList];omega
   rw[if_neg (by omega),if_pos rfl,if_pos hlt,if_pos (by omega)]
   simp
  ·by_cases h2:off+(k+1)≤j∧j<off+(k+1)+vs.length
   ·rw[if_pos h2,if_pos (by omega)]
    rw[show j-(off+k)=(j-(off+(k+1)))+1 by omega,List.getElem?_cons_succ]
   ·rw[if_neg h2,if_neg (Ne.symm h1),if_neg (by omega)]
theorem fill_cons{place:Nat→Option (Nat×Nat)}{cells:Array Value}{i off size:Nat}{v:Value}{rest:List (Nat×Value)}(hp:place i=some (off,size))(hs:v.cells.size=size)(hb:off+size≤cells.size):
  ∃cells',Instr.fill place cells ((i,v)::rest)=Instr.fill place cells' rest∧cells'.size=cells.size∧cells'.toList=splice cells.toList off v.cells.toList:=by
 refine⟨v.cells.zipIdx.foldl (fun cs (c,j)=>cs.setIfInBounds (off+j) c) cells,?_,?_,?_⟩
 ·rw[Instr.fill]
  simp only[hp]
  rw[if_neg (by simp;omega)]
 all_goals
  have e:(v.cells.zipIdx.foldl (fun cs (c,j)=>cs.setIfInBounds (off+j) c) cells).toList=splice cells.toList off v.cells.toList:=by
   rw[←Array.foldl_toList,Array.toList_zipIdx]
   have:=fold_set v.cells.toList 0 off cells (by simp;omega)
   simpa using this
 ·rw[←Array.length_toList,e,splice_length (by simp;omega),Array.length_toList]
 ·exact e
theorem flatMap_splice(f:Nat→List Value)(k:Nat)(h:∀i,(f i).length=k)(z:List Value)(hz:z.length=k)(i:Nat):∀n,i<n→(List.range n).flatMap (fun j=>if j=i then z else f j)=splice ((List.range n).flatMap f) (i*k) z
 |0,hi=>by omega
 |n+1,hi=>by
  rw[List.range_succ,List.flatMap_append,List.flatMap_append]
  have hl:=flatMap_range_length f k h n
  simp only[List.flatMap_cons,List.flatMap_nil,List.append_nil]
  rcases Nat.lt_or_ge i n with hlt|hge
  ·rw[flatMap_splice f k h z hz i n hlt,if_neg (by omega)]
   have hle:i*k+k≤n*k:=by rw[←Nat.succ_mul];exact Nat.mul_le_mul_right _ hlt
   unfold splice
   rw[List.take_append_of_le_length (by omega),List.drop_append_of_le_length (by omega)]
   simp
  ·obtain rfl:i=n:=by omega
   rw[if_pos rfl]
   have e:(List.range i).flatMap (fun j=>if j=i then z else f j)=(List.range i).flatMap f:=flatMap_congr_range (fun j hj=>if_neg (by omega))
   rw[e]
   unfold splice
   rw[←hl,List.take_left,←hl] at *
   rw[List.drop_eq_nil_of_le (by simp[h,hz]),List.append_nil]
theorem rowCells_set{t:Ty}{l:List t.den}{i:Nat}{y:t.den}{L:t.loc}(hi:i<l.length):rowCells t (l.set i y) (fun _=>L)=splice (rowCells t l (fun _=>L)) (i*t.size) (cells t y L):=by
 unfold rowCells
 rw[List.length_set,←flatMap_splice _ t.size (fun i=>cells_length t _ _) _ (cells_length t _ _) i l.length hi]
 refine flatMap_congr_range (fun j hj=>?_)
 by_cases e:j=i
 ·subst e;rw[if_pos rfl,getD_set_self hi]
 ·rw[if_neg e,getD_set_ne (Ne.symm e)]
theorem litFlat_holds(h:R m w0 MB s g a w)(u:Ty)(hf:u.flat=true)(hnp:∀c d,u≠.pair c d)(n:Nat):∀(ps:List (Nat×Operand)) (l l':List u.den) (arr:Array Value),
  litFlat u l (ps.map fun q=>(q.1,evalO s.slots q.2))=some l'→(∀q∈ps,q.1<n)→l.length=n→(∀i,i<n→okV u (l.getD i u.dflt))→arr.toList=rowCells u l (fun _=>u.dloc) →
  ∃arr',Instr.fill (fun i=>some (i*u.size,u.size)) arr (ps.map fun q=>(q.1,a.eval q.2))=some arr'∧arr'.toList=rowCells u l' (fun _=>u.dloc)∧l'.length=n∧(∀i,i<n→okV u (l'.getD i u.dflt))
 |[],l,l',arr,hl,_,hn,ho,ha=>by
  simp[litFlat] at hl
  subst hl
  exact⟨arr,rfl,ha,hn,ho⟩
 |(i,x)::ps,l,l',arr,hl,hb,hn,ho,ha=>by
  have hx:=h.eval x
  simp only[List.map_cons] at hl ⊢
  unfold litFlat at hl
  split at hl
  ·rename_i hq;cases hq
  ·rename_i i' u' y r hq
   simp only[List.cons.injEq,Prod.mk.injEq] at hq
   obtain⟨⟨rfl,h2⟩,rfl⟩:=hq
   split at hl
   ·rename_i e
    subst e
    rw[h2] at hx
    have hi:i<n:=hb (i,x) (by simp)
    have hc:=toV_cells hf hnp y
    have hcv:(a.eval x).cells.toList=encV u' y:=by rw[hx.2.2];exact hc
    have hlen:arr.size=n*u'.size:=by rw[←Array.length_toList,ha,rowCells_length,hn]
    have hle:i*u'.size+u'.size≤n*u'.size:=by rw[←Nat.succ_mul];exact Nat.mul_le_mul_right _ hi
    obtain⟨arr',e1,e2,e3⟩:=fill_cons (place:=fun i=>some (i*u'.size,u'.size)) (cells:=arr) (i:=i) (v:=a.eval x) (rest:=ps.map fun q=>(q.1,a.eval q.2)) rfl (by rw[←Array.length_toList,hcv];exact cells_length _ _ _) (by omega)
    rw[e1]
    refine litFlat_holds h u' hf hnp n ps _ l' arr' hl (fun q hq=>hb q (by simp[hq])) (by rw[List.length_set];exact hn) (fun j hj=>?_) ?_
    ·by_cases e:j=i
     ·subst e;rw[getD_set_self (by omega)];exact hx.2.1
     ·rw[getD_set_ne (Ne.symm e)];exact ho j hj
    ·rw[e3,ha,hcv,rowCells_set (by omega)]
     rfl
   ·cases hl
  ·cases hl
theorem range_mod(z:Array Value):∀n,((Array.range (n*z.size)).map (z[· % z.size]!)).toList=(List.range n).flatMap fun _=>z.toList
 |0=>by simp
 |n+1=>by
  have ih:=range_mod z n
  simp only[Array.toList_map,Array.toList_range] at ih ⊢
  rw[Nat.succ_mul,List.range_add,List.map_append,ih,List.range_succ,List.flatMap_append]
  congr 1
  simp only[List.flatMap_cons,List.flatMap_nil,List.append_nil,List.map_map]
  apply List.ext_getElem?
  intro j
  rw[List.getElem?_map]
  rcases Nat.lt_or_ge j z.size with hj|hj
  ·rw[List.getElem?_range hj]
   have:(n*z.size+j) % z.size=j:=by rw[Nat.mul_comm,Nat.mul_add_mod,Nat.mod_eq_of_lt hj]
   simp[this,hj]
  ·rw[List.getElem?_eq_none (by simpa using hj),List.getElem?_eq_none (by simpa using hj)]
   rfl
theorem rowCells_rep(u:Ty)(n:Nat):rowCells u (List.replicate n u.dflt) (fun _=>u.dloc)=(List.range n).flatMap fun _=>cells u u.dflt u.dloc:=by
 unfold rowCells
 rw[List.length_replicate]
 exact flatMap_congr_range (fun i _=>by rw[getD_dflt])
end
end Go.Proofs.Ytlipfbihlmlplaa.G
namespace Go.Proofs.Ytlipfbihlmlplaa.G
open Go Go.RowKit
set_option linter.unusedVariables false
set_option linter.unusedSimpArgs false
section
variable {P:Program} {E:Env} {m:Nat} {w0:World} {MB:Out} {s:St} {g:Gh} {a:Act} {w:World} {α:Type}
theorem map_parts(ps:Array (Nat×Operand))(f:Operand→Value):(ps.map fun (i,x)=>(i,f x)).toList=ps.toList.map fun q=>(q.1,f q.2):=by simp
theorem run_buildSlice(T:TTok P E){t e:TypeId}{u:Ty}{n:Nat}(hu:P.underlying t=some (.slice e))(he:E.TT e=some u)(hs:n*u.size≤2 ^ 24){z:Value}{i:TypeInfo}(hi:P.info? e=some i)(hz:i.zero=some z)
  (parts:Array (Nat×Value)) (arr arr':Array Value) (h0:arr=(Array.range (n*u.size)).map (z.cells[· % z.cells.size]!)) (hzs:z.cells.size=u.size) (hf:Instr.fill (fun i=>some (i*u.size,u.size)) arr parts.toList=some arr'):
  (Instr.buildSlice t n parts).run P w = .ok (.slice (some ⟨w.heap.size,0,none⟩) n n) (w.alloc (.cells arr' e)):=by
 have h24:¬(n*u.size>2 ^ 24):=by omega
 simp only[Instr.buildSlice,Sem.run_bind,run_underlying hu,Result.andThen_ok,T.szof he,if_neg h24]
 by_cases hn:n*u.size=0
 ·have e0:arr = #[]:=by rw[h0,hn];simp
  have e1:(Array.range (n*u.size)).map (#[][· % (#[]:Array Value).size]!)=arr:=by rw[hn,e0];simp
  simp only[if_pos hn,Sem.run_bind,Sem.run_pure,Result.andThen_ok,e1,hf,run_newRow]
 ·simp only[if_neg hn,zeroValue,typeInfo,Sem.run_bind,run_program,Result.andThen_ok,hi,hz,Sem.run_pure,←h0,hf,run_newRow]
theorem zero_list(T:TTok P E){e:TypeId}{u:Ty}(he:E.TT e=some u):∃i z,P.info? e=some i∧i.zero=some z∧z.cells.size=u.size∧∀n,((Array.range (n*u.size)).map (z.cells[· % z.cells.size]!)).toList=rowCells u (List.replicate n u.dflt) (fun _=>u.dloc):=by
 obtain⟨i,z,hi,hz,hc⟩:=T.zero e u he
 have hs:z.cells.size=u.size:=by rw[←Array.length_toList,hc,cells_length]
 refine⟨i,z,hi,hz,hs,fun n=>?_⟩
 rw[rowCells_rep,←hs,range_mod,hc]
theorem take_row(h:R m w0 MB s g a w){n:Nat}{d:Dat}{v:Value}(hv:SlRel s.objs g n [] none v)(hd:datAt s.objs n=some d)(hh:d.hole=none)(hw:d.wr=true):
  ∃A c,v = .slice A d.l.length c∧(let L:(Ty.row d.e d.t).loc:=(⟨A,c⟩,(g.G n d.t).2);memH w true (.row d.e d.t) none d.l L∧(blks true (.row d.e d.t) none d.l L).Nodup∧∀k,k∈blks true (.row d.e d.t) none d.l L→k∈blksD g n d):=by
 obtain⟨d',Q,sz,hd',tot,g1,g2,g3,g4,A,c,e1,e2,e3,e4,e5⟩:=hv
 rw[hd] at g1
 obtain rfl:=Option.some.inj g1
 unfold rootPL at g3
 rw[getPL_nil] at g3
 obtain rfl:=Option.some.inj g3
 simp only[hdrP,Option.some.injEq,Prod.mk.injEq] at g4
 obtain⟨rfl,rfl,rfl⟩:=g4
 have hm:=h.dat n d hd
 have hs:=(h.sep n d hd hw).1
 unfold blksD at hs
 rw[hh,hw] at hm hs
 have hm:=hm.resolve_left (by simp[lent])
 simp only[blks,lent,Bool.false_eq_true,if_false] at hs
 obtain⟨k1,k2⟩:=e5 hw
 have hsub:∀k,k∈hdrBlk true ⟨A,c⟩ d.l.length→k∈hdrBlk true (g.G n d.t).1 d.l.length:=by
  intro k hk
  unfold hdrBlk at hk ⊢
  simp only at hk
  split at hk
  ·rename_i ad
   split at hk
   ·rename_i hc
    obtain rfl:=List.mem_singleton.1 hk
    have hc0:0<c:=by
     rcases hc with⟨_,q⟩|q
     ·exact q
     ·simp only[Win.lenN] at e3;omega
    obtain⟨b,o,q1,q2⟩:=k2 hc0
    obtain rfl:=Option.some.inj q2
    simp only[Win.off,Nat.zero_add] at k1
    simp only[q1]
    have hcc:0<(g.G n d.t).1.cap:=by omega
    simp[hcc]
   ·cases hk
  ·cases hk
 refine⟨A,c,e1,.inr ⟨⟨e3,fun hn=>?_,fun _ hc=>?_⟩,hm.2⟩,?_,?_⟩
 ·obtain⟨b,o,q1,q2⟩:=e4 hn
  obtain⟨b',o',q3,q4,q5⟩:=hm.1.at_ hn
  rw[q1] at q3
  obtain⟨rfl,rfl⟩:b=b'∧o=o':=by simpa using q3
  exact⟨b,o,by rw[q2];simp[Win.off],q4,q5⟩
 ·obtain⟨b,o,q1,q2⟩:=k2 hc
  have hcap:0<(g.G n d.t).1.cap:=by simp only[Win.off,Nat.zero_add] at k1;simp only at hc;omega
  obtain⟨b',o',arr,e',q3,q4,q5⟩:=hm.1.own rfl hcap
  rw[q1] at q3
  obtain⟨rfl,rfl⟩:b=b'∧o=o':=by simpa using q3
  refine⟨b,o,arr,e',by rw[q2];simp[Win.off],q4,?_⟩
  simp only[Win.off,Nat.zero_add] at k1
  exact Nat.le_trans (Nat.add_le_add_left (Nat.mul_le_mul_right _ k1) _) q5
 ·simp only[blks,lent,Bool.false_eq_true,if_false]
  rw[List.nodup_append] at hs ⊢
  refine⟨?_,hs.2.1,fun k hk b hb=>hs.2.2 k (hsub k hk) b hb⟩
  unfold hdrBlk
  simp only
  split
  ·split<;>simp
  ·simp
 ·intro k hk
  unfold blksD
  rw[hh,hw]
  simp only[blks,lent,Bool.false_eq_true,if_false] at hk ⊢
  rcases List.mem_append.1 hk with hk|hk
  ·exact List.mem_append_left _ (hsub k hk)
  ·exact List.mem_append_right _ hk
theorem takeOver_holds(h:R m w0 MB s g a w){x:SV}{v:Value}(hx:SRel s.objs g x v){e:TypeId}{t:Ty}{c:List t.den}{ks:List Nat}(ht:takeOver s.objs x e t=some (c,ks)):
  ∃L:(Ty.row e t).loc,[v]=cells (.row e t) c L∧memH w true (.row e t) none c L∧(blks true (.row e t) none c L).Nodup∧(∀k,k∈ks→∃dk,datAt s.objs k=some dk∧dk.wr=true∧dk.fresh=true) ∧
   (∀b,b∈blks true (.row e t) none c L→∃k dk,k∈ks∧datAt s.objs k=some dk∧b∈blksD g k dk)∧namesOf s.objs x=ks:=by
 unfold takeOver at ht
 split at ht
 ·simp only[Option.some.injEq,Prod.mk.injEq] at ht
  obtain⟨rfl,rfl⟩:=ht
  have hv:v = .slice none 0 0:=hx
  exact⟨(⟨none,0⟩,fun _=>t.dloc),by rw[hv];rfl,(memH_dflt (.row e t) none).1,by rw[show blks true (.row e t) none ([]:List t.den) (⟨none,0⟩,fun _=>t.dloc)=[] from (memH_dflt (w:=w) (.row e t) none).2];exact List.nodup_nil,(fun k hk=>by cases hk),(fun b hb=>by rw[show blks true (.row e t) none ([]:List t.den) (⟨none,0⟩,fun _=>t.dloc)=[] from (memH_dflt (w:=w) (.row e t) none).2] at hb;cases hb),rfl⟩
 ·rename_i n
  split at ht
  ·rename_i d hd
   split at ht
   ·rename_i hh hwf
    simp only[Bool.and_eq_true] at hwf
    split at ht
    ·rename_i e1
     subst e1
     split at ht
     ·rename_i e2
      subst e2
      simp only[Option.some.injEq,Prod.mk.injEq] at ht
      obtain⟨rfl,rfl⟩:=ht
      obtain⟨A,cc,q1,q2,q3,q4⟩:=take_row h hx hd hh hwf.1
      exact⟨_,by rw[q1];rfl,q2,q3,fun k hk=>by obtain rfl:=List.mem_singleton.1 hk;exact⟨d,hd,hwf.1,hwf.2⟩,fun b hb=>⟨n,d,by simp,hd,q4 b hb⟩,rfl⟩
     ·cases ht
    ·cases ht
   ·cases ht
  ·cases ht
 ·cases ht
theorem lit_holds(T:TTok P E)(h:R m w0 MB s g a w){o:Oper}{t:TypeId}{n:Nat}{ps:Array (Nat×Operand)}(ho:o.op = .buildSlice t n ps){dn dn2:Nat}{K:Eff→Option α}{r:α}
  (hK:effLit E s.objs dn t n (ps.toList.map fun q=>(q.1,evalO s.slots q.2)) K=some r):∃e,K e=some r∧(newOk e s.objs dn dn2=true→Holds P m w0 MB s g o a w e):=by
 have run:∀{e:TypeId} {u:Ty} {z:Value} {i:TypeInfo} (hu:P.underlying t=some (.slice e)) (he:E.TT e=some u) (hs:n*u.size≤2 ^ 24) (hi:P.info? e=some i) (hz:i.zero=some z) (arr':Array Value)
   (hzs:z.cells.size=u.size) (hf:Instr.fill (fun i=>some (i*u.size,u.size)) ((Array.range (n*u.size)).map (z.cells[· % z.cells.size]!)) (ps.toList.map fun q=>(q.1,a.eval q.2))=some arr'),
   (execOp a.eval o).run P w = .ok (.value (.slice (some ⟨w.heap.size,0,none⟩) n n)) (w.alloc (.cells arr' e)):=fun hu he hs hi hz arr' hzs hf=>by
  unfold execOp
  rw[ho]
  simp only[Sem.run_bind,run_buildSlice T hu he hs hi hz _ _ arr' rfl hzs (by rw[map_parts];exact hf),Result.andThen_ok,Sem.run_pure]
 unfold effLit at hK
 split at hK
 ·rename_i e u ht
  obtain⟨hu,he⟩:=T.row ht
  obtain⟨i,z,hi,hz,hzs,hzl⟩:=zero_list T he
  have hsz:∀{b:Bool},(decide (n≤4096)&&E.small e)=b→b=true→n*u.size≤2 ^ 24:=by
   intro b hb hb2
   subst hb2
   simp only[Bool.and_eq_true,decide_eq_true_eq] at hb
   obtain⟨i',hi',_,_,h4⟩:=T.small e hb.2
   obtain⟨i2,hi2,hs2,_⟩:=T.size he
   rw[hi'] at hi2
   obtain rfl:=Option.some.inj hi2
   rw[hs2] at h4
   calc n*u.size≤4096*4096:=Nat.mul_le_mul hb.1 h4
    _=2 ^ 24:=by decide
  split at hK
  ·rename_i hf hsm
   have hs:=hsz hsm rfl
   have hnp:∀c d,u≠.pair c d:=fun c d e=>T.nopair (e▸he)
   split at hK
   ·rename_i l hl hall
    refine⟨_,hK,fun hn=>?_⟩
    have hdn:=newOk_dn hn (x:=some (.dat ⟨e,u,l,true,true,none⟩)) (by simp)
    have hall':∀q∈ps.toList,q.1<n:=fun q hq=>by
     have:=List.all_eq_true.1 hall (q.1,evalO s.slots q.2) (List.mem_map.2 ⟨q,hq,rfl⟩)
     simpa using this
    obtain⟨arr',e1,e2,e3,e4⟩:=litFlat_holds h u hf hnp n ps.toList (List.replicate n u.dflt) l ((Array.range (n*u.size)).map (z.cells[· % z.cells.size]!)) hl hall' (by simp) (fun j hj=>by rw[getD_dflt];exact dflt_ok u) (hzl n)
    obtain⟨g',hg'⟩:=h.fresh1 dn e u l n (fun _=>u.dloc) arr' (.sl dn [] none) o.dst (.slice (some ⟨w.heap.size,0,none⟩) n n) hdn (by omega)
     (fun j v hv=>by rw[←e2,Array.getElem?_toList] at hv;exact hv) (by rw[←Array.length_toList,e2,rowCells_length,e3];exact Nat.le_refl _)
     (fun j hj=>⟨memH_of_ok u hf _ _ _ (e4 j (by omega)),blks_flat u hf _ _ _⟩) (fun objs' g' hd hg=>by
      have:=sl_new (cap:=n) hd hg (by omega)
      rw[e3] at this
      exact this)
    exact does_run (run hu he hs hi hz arr' hzs e1) ⟨g',hg'⟩
   ·cases hK
  ·rename_i hf hsm
   have hs:=hsz hsm rfl
   split at hK
   ·rename_i _ e' u' x hps
    split at hK
    ·rename_i c ks htk
     refine⟨_,hK,fun hn=>?_⟩
     have hdn:=newOk_dn hn (x:=some (.dat ⟨e,.row e' u',[c],true,true,none⟩)) (by simp)
     obtain⟨q,hq⟩:∃q,ps.toList=[(0,q)]:=by
      cases hl:ps.toList with
      |nil=>rw[hl] at hps;cases hps
      |cons p r=>
       rw[hl] at hps
       simp only[List.map_cons,List.cons.injEq,List.map_eq_nil_iff,Prod.mk.injEq] at hps
       obtain⟨⟨h1,h2⟩,rfl⟩:=hps
       exact⟨p.2,by rw[←h1]⟩
     have hxq:x=evalO s.slots q:=by
      rw[hq] at hps
      simpa using hps.symm
     have hx:=h.eval q
     rw[←hxq] at hx
     obtain⟨L,q1,q2,q3,q4,q5,q6⟩:=takeOver_holds h hx htk
     have hone:(a.eval q).cells.toList=[a.eval q]:=by
      have:a.eval q = .slice L.1.A c.length L.1.cap:=by simpa[cells] using q1
      rw[this];rfl
     obtain⟨arr',e1,e2,e3⟩:=fill_cons (place:=fun i=>some (i*(Ty.row e' u').size,(Ty.row e' u').size)) (cells:=(Array.range (1*(Ty.row e' u').size)).map (z.cells[· % z.cells.size]!)) (i:=0) (v:=a.eval q) (rest:=[]) rfl (by rw[←Array.length_toList,hone];rfl) (by simp[Ty.size])
     have hrow:rowCells (.row e' u') [c] (fun _=>L)=[a.eval q]:=by rw[rowCells_one];exact q1.symm
     have hf:=fr_alloc w (.cells arr' e)
     have hlt:∀b,b∈blks true (.row e' u') none c L→b<w.heap.size:=blks_lt _ _ _ _ q2
     have harr:arr'.toList=[a.eval q]:=by
      rw[e3,hone]
      unfold splice
      simp[Ty.size]
     have eb:blks true (.row e (.row e' u')) none [c] (⟨some ⟨w.heap.size,0,none⟩,1⟩,fun _=>L)=w.heap.size::blks true (.row e' u') none c L:=by
      rw[blks]
      simp only[lent,Bool.false_eq_true,if_false,hdrBlk,List.length_singleton]
      rw[if_pos (.inr (by omega))]
      simp[List.range_succ,sub]
     refine does_run (run hu he (by simp[Ty.size]) hi hz arr' hzs (by rw[hq];exact e1.trans rfl)) ⟨_,h.renew ks dn ⟨e,.row e' u',[c],true,true,none⟩ (⟨some ⟨w.heap.size,0,none⟩,1⟩,fun _=>L) _ _ o.dst _ q4 hdn.1 (.inl hdn.2) ⟨rfl,rfl,rfl⟩ (.inl hf) (fun b hb _=>hf.block b hb (by simp)) ?_ ?_ ?_ ?_⟩
     ·refine .inr ⟨rowAt_new w arr' e (by simp) (fun j v hv=>?_) (by rw[←Array.length_toList,harr];simp[Ty.size]),fun i hi=>?_⟩
      ·rw[hrow] at hv
       rw[←Array.getElem?_toList,harr];exact hv
      ·have hi0:i=0:=by simpa using hi
       subst hi0
       exact memH_frame hf.size _ _ _ _ q2 (fun k hk=>hf.block k (hlt k hk) (by simp))
     ·show (blks true (.row e (.row e' u')) none [c] _).Nodup
      rw[eb]
      exact List.nodup_cons.2 ⟨fun hb=>by have:=hlt _ hb;omega,q3⟩
     ·intro b hb
      replace hb:b∈blks true (.row e (.row e' u')) none [c] (⟨some ⟨w.heap.size,0,none⟩,1⟩,fun _=>L):=hb
      rw[eb] at hb
      rcases List.mem_cons.1 hb with rfl|hb
      ·exact .inl (Nat.le_refl _)
      ·exact .inr (q5 b hb)
     ·refine sl_new (e:=e) (t:=.row e' u') (l:=[c]) (b:=w.heap.size) (cap:=1) (locs:=fun _=>L) ?_ (Gh.put_same _ _ _ _) (Nat.le_refl _)
      rw[←datAt_ob,updAll_append]
      show obAt ((updAll _ s.objs).set dn _) dn=_
      rw[obAt_set _ _ _ _ (by rw[updAll_length];exact hdn.1),if_pos rfl]
    ·cases hK
   ·rename_i _ e' u' hps
    refine⟨_,hK,fun hn=>?_⟩
    have hdn:=newOk_dn hn (x:=some (.dat ⟨e,.row e' u',[],true,true,none⟩)) (by simp)
    have hq:ps.toList=[]:=by simpa using hps
    obtain⟨g',hg'⟩:=h.fresh1 dn e (.row e' u') [] 0 (fun _=>(Ty.row e' u').dloc) ((Array.range (0*(Ty.row e' u').size)).map (z.cells[· % z.cells.size]!)) (.sl dn [] none) o.dst (.slice (some ⟨w.heap.size,0,none⟩) 0 0) hdn (Nat.le_refl _)
     (fun j v hv=>by simp[rowCells] at hv) (by simp) (fun j hj=>by simp at hj) (fun objs' g' hd hg=>sl_new (cap:=0) hd hg (by simp))
    exact does_run (run hu he (by simp) hi hz _ hzs (by rw[hq];rfl)) ⟨g',hg'⟩
   ·cases hK
  ·cases hK
 ·cases hK
theorem boundOf_int{objs:List (Option Ob)}{x:SV}{v:Value}{j:Int}(h:SRel objs g x v)(hb:boundOf x=some j):∃k,v = .int k j:=by
 unfold boundOf at hb
 split at hb
 ·rename_i k i
  obtain rfl:=Option.some.inj hb
  exact⟨k,h.2.2⟩
 ·cases hb
theorem wrap_small{n:Int}(h0:0≤n)(h1:n≤9223372036854775807):IntKind.i64.wrap n=n:=by
 unfold IntKind.wrap
 have e1:(2 ^ IntKind.i64.bits:Int)=18446744073709551616:=rfl
 have e2:(2 ^ (IntKind.i64.bits-1):Int)=9223372036854775808:=rfl
 rw[e1,e2,Int.emod_eq_of_lt h0 (by omega)]
 simp only
 rw[if_neg]
 simp
 intro _
 omega
theorem make_holds(T:TTok P E)(h:R m w0 MB s g a w){o:Oper}{t:TypeId}{x y:Operand}(ho:o.op = .makeSlice t x y){dn dn2:Nat}{K:Eff→Option α}{r:α}
  (hK:effMake E dn t (evalO s.slots x) (evalO s.slots y) K=some r):∃e,K e=some r∧(newOk e s.objs dn dn2=true→Holds P m w0 MB s g o a w e):=by
 unfold effMake at hK
 split at hK
 ·rename_i e u n c ht hx hy
  obtain⟨hu,he⟩:=T.row ht
  split at hK
  ·rename_i hsm
   obtain⟨hb,hK⟩:=cond_some hK
   simp only[Bool.and_eq_true,decide_eq_true_eq] at hb
   obtain⟨hb0,hb1,hb2⟩:=hb
   have hlim:(LIM:Int)=4294967296:=rfl
   obtain⟨kx,ex⟩:=boundOf_int (h.eval x) hx
   obtain⟨ky,ey⟩:=boundOf_int (h.eval y) hy
   obtain⟨i,z,hi,hz,hzs,hzl⟩:=zero_list T he
   obtain⟨i',hi',p1,p2,p3⟩:=T.small e hsm
   rw[hi] at hi'
   obtain rfl:=Option.some.inj hi'
   refine⟨_,hK,fun hn=>?_⟩
   have hdn:=newOk_dn hn (x:=some (.dat ⟨e,u,List.replicate n.toNat u.dflt,true,true,none⟩)) (by simp)
   have hwx:IntKind.i64.wrap n=n:=wrap_small hb0 (by omega)
   have hwy:IntKind.i64.wrap c=c:=wrap_small (by omega) (by omega)
   have hbytes:¬((i.bytes:Int)*c>2 ^ 48):=by
    have:(i.bytes:Int)*c≤4096*4294967296:=Int.mul_le_mul (by omega) (by omega) (by omega) (by omega)
    omega
   have hz2:∀q:Nat,(if q*u.size=0 then (#[]:Array Value) else z.cells)=if q*u.size=0 then #[] else z.cells:=fun _=>rfl
   have harr:((Array.range (c.toNat*u.size)).map ((if c.toNat*u.size=0 then (#[]:Array Value) else z.cells)[· % (if c.toNat*u.size=0 then (#[]:Array Value) else z.cells).size]!)).toList=rowCells u (List.replicate c.toNat u.dflt) (fun _=>u.dloc):=by
    by_cases q:c.toNat*u.size=0
    ·have hl:(rowCells u (List.replicate c.toNat u.dflt) (fun _=>u.dloc)).length=0:=by rw[rowCells_length,List.length_replicate];exact q
     rw[List.eq_nil_of_length_eq_zero hl,q]
     simp
    ·rw[if_neg q];exact hzl _
   have run:(execOp a.eval o).run P w = .ok (.value (.slice (some ⟨w.heap.size,0,none⟩) n.toNat c.toNat)) (w.alloc (.cells ((Array.range (c.toNat*u.size)).map ((if c.toNat*u.size=0 then (#[]:Array Value) else z.cells)[· % (if c.toNat*u.size=0 then (#[]:Array Value) else z.cells).size]!)) e)):=by
    have hask:∀q:Nat,(askRoom q).run P w = .ok () w:=fun q=>by unfold askRoom;split<;>rfl
    have c1:¬(c<0):=by omega
    have c2:¬(n<0):=by omega
    have c3:¬(n>c):=by omega
    unfold execOp
    rw[ho]
    simp only[ex,ey,Instr.makeSlice,Sem.run_bind,run_underlying hu,Result.andThen_ok,asInt,asIntOf,Sem.run_pure,typeInfo,run_program,hi,hwx,hwy,hbytes,c1,c2,c3,decide_false,Bool.or_self,Bool.false_eq_true,or_self,if_false,hask,T.szof he]
    by_cases q:c.toNat*u.size=0
    ·simp only[if_pos q,Sem.run_bind,Sem.run_pure,Result.andThen_ok,run_newRow]
    ·simp only[if_neg q,zeroValue,typeInfo,Sem.run_bind,run_program,Result.andThen_ok,hi,hz,Sem.run_pure,run_newRow]
   obtain⟨g',hg'⟩:=h.fresh1 dn e u (List.replicate n.toNat u.dflt) c.toNat (fun _=>u.dloc) ((Array.range (c.toNat*u.size)).map ((if c.toNat*u.size=0 then (#[]:Array Value) else z.cells)[· % (if c.toNat*u.size=0 then (#[]:Array Value) else z.cells).size]!)) (.sl dn [] none) o.dst (.slice (some ⟨w.heap.size,0,none⟩) n.toNat c.toNat) hdn (by simp;omega)
    (fun j v hv=>by
     rw[←Array.getElem?_toList,harr,rowCells_rep]
     rw[rowCells_rep] at hv
     have hj:=(List.getElem?_eq_some_iff.1 hv).1
     obtain⟨q,hq⟩:∃q,c.toNat=n.toNat+q:=⟨c.toNat-n.toNat,by omega⟩
     rw[hq,List.range_add,List.flatMap_append,List.getElem?_append_left hj]
     exact hv)
    (by rw[←Array.length_toList,harr,rowCells_length,List.length_replicate];exact Nat.le_refl _) (fun j hj=>by rw[getD_dflt];exact memH_dflt u none) (fun objs' g' hd hg=>by
     have:=sl_new (cap:=c.toNat) hd hg (by simp;omega)
     rw[List.length_replicate] at this
     exact this)
   exact does_run run ⟨g',hg'⟩
  ·cases hK
 ·cases hK
end
end Go.Proofs.Ytlipfbihlmlplaa.G
namespace Go.Proofs.Ytlipfbihlmlplaa.G
open Go Go.RowKit
set_option linter.unusedVariables false
set_option linter.unusedSimpArgs false
theorem cut_length{β:Type}{w:Win}{l:List β}(h:w.off+w.lenN l.length≤l.length):(w.cut l).length=w.lenN l.length:=by
 cases w with
 |none=>rfl
 |some q=>
  obtain⟨o,n⟩:=q
  simp only[Win.cut,Win.off,Win.lenN,List.length_take,List.length_drop] at h ⊢
  omega
theorem cut_getD{β:Type}{w:Win}{l:List β}{i:Nat}{d:β}(h:i<(w.cut l).length):(w.cut l).getD i d=l.getD (w.off+i) d:=by
 cases w with
 |none=>simp[Win.cut,Win.off]
 |some q=>
  obtain⟨o,n⟩:=q
  simp only[Win.cut,Win.off,List.length_take,List.length_drop] at h ⊢
  simp only[List.getD_eq_getElem?_getD,List.getElem?_take,List.getElem?_drop]
  rw[if_pos (by omega)]
def joinL{β:Type}(n:Nat)(f1 f2:Nat→β)(i:Nat):β:=if i<n then f1 i else f2 (i-n)
theorem joinL_lt{β:Type}{n:Nat}{f1 f2:Nat→β}{i:Nat}(h:i<n):joinL n f1 f2 i=f1 i:=if_pos h
theorem joinL_ge{β:Type}(n:Nat)(f1 f2:Nat→β)(i:Nat):joinL n f1 f2 (n+i)=f2 i:=by unfold joinL;rw[if_neg (by omega),Nat.add_sub_cancel_left]
theorem getD_app_lt{β:Type}{l1 l2:List β}{i:Nat}{d:β}(h:i<l1.length):(l1++l2).getD i d=l1.getD i d:=by simp[List.getD_eq_getElem?_getD,List.getElem?_append_left h]
theorem getD_app_ge{β:Type}{l1 l2:List β}(i:Nat){d:β}:(l1++l2).getD (l1.length+i) d=l2.getD i d:=by
 rw[List.getD_eq_getElem?_getD,List.getElem?_append_right (Nat.le_add_right _ _),Nat.add_sub_cancel_left,←List.getD_eq_getElem?_getD]
theorem flatMap_app{β:Type}(F:Nat→List β)(n k:Nat):(List.range (n+k)).flatMap F=(List.range n).flatMap F++(List.range k).flatMap (fun i=>F (n+i)):=by
 rw[List.range_add,List.flatMap_append,List.flatMap_map]
theorem rowCells_append(u:Ty)(l1 l2:List u.den)(f1 f2:Nat→u.loc):rowCells u (l1++l2) (joinL l1.length f1 f2)=rowCells u l1 f1++rowCells u l2 f2:=by
 unfold rowCells
 rw[List.length_append,flatMap_app]
 congr 1
 ·exact flatMap_congr_range (fun i hi=>by rw[joinL_lt hi,getD_app_lt hi])
 ·exact flatMap_congr_range (fun i hi=>by rw[joinL_ge,getD_app_ge])
theorem cells_one:∀(t:Ty) (x:t.den) (l:t.loc),∀v∈cells t x l,v.oneCell'=true
 |.int _,x,l,v,hv=>by simp[cells] at hv;subst hv;rfl
 |.bool,x,l,v,hv=>by simp[cells] at hv;subst hv;rfl
 |.str,x,l,v,hv=>by simp[cells] at hv;subst hv;rfl
 |.pair a b,x,l,v,hv=>by
  rcases List.mem_append.1 hv with hv|hv
  ·exact cells_one a _ _ v hv
  ·exact cells_one b _ _ v hv
 |.st t,x,l,v,hv=>cells_one t x l v hv
 |.arr n t,x,l,v,hv=>by
  obtain⟨i,_,hv⟩:=List.mem_flatMap.1 hv
  exact cells_one t _ _ v hv
 |.row _ t,x,l,v,hv=>by simp[cells] at hv;subst hv;rfl
theorem rowCells_one'(t:Ty)(x:List t.den)(l:Nat→t.loc):∀v∈rowCells t x l,v.oneCell'=true:=fun v hv=>by
 obtain⟨i,_,hv⟩:=List.mem_flatMap.1 hv
 exact cells_one t _ _ v hv
section
variable {P:Program} {E:Env} {m:Nat} {w0:World} {MB:Out} {s:St} {g:Gh} {a:Act} {w:World} {α:Type}
theorem root_blk{n:Nat}{d:Dat}{p:List Stp}{Q:Pl}(hp:p≠[])(hh:HoleAt d.hole p)(hP:rootPL g n d p=some Q):Q.b∈blks d.wr (.row d.e d.t) d.hole d.l (g.G n d.t):=by
 match p,hp with
 |.idx i::p,_=>
  unfold rootPL getPL at hP
  split at hP
  ·rename_i hi
   split at hP
   ·rename_i a ha
    have hd:hdrBlk d.wr (g.G n d.t).1 (List.length d.l)=[a.block]:=by unfold hdrBlk;rw[ha];exact if_pos (.inr (by omega))
    have hl:¬lent d.hole=true:=by simp[hh.not_lent]
    rcases PL_where (own:=d.wr) d.t _ _ _ _ _ p Q hh.sub_idx hP with⟨h1,h2,h3⟩|h1
    ·simp only[blks,if_neg hl];exact List.mem_append_left _ (by rw[hd,h1];simp)
    ·simp only[blks,if_neg hl];exact List.mem_append_right _ (List.mem_flatMap.2 ⟨i,List.mem_range.2 hi,h1⟩)
   ·cases hP
  ·cases hP
 |.fst::p,_=>cases hP
 |.snd::p,_=>cases hP
structure Elems(w:World)(own:Bool)(u:Ty)(l:List u.den)(locs:Nat→u.loc)(A:Option Addr):Prop where
 at_:0<l.length→∃b o,A=some ⟨b,o,none⟩∧b<w.heap.size∧w.rangeAt b o (rowCells u l locs)
 mem:∀i,i<l.length→memH w own u none (l.getD i u.dflt) (locs i)
theorem sl_elems(h:R m w0 MB s g a w){n:Nat}{p:List Stp}{wn:Win}{v:Value}(hv:SlRel s.objs g n p wn v){u:Ty}{l:List u.den}(hs:shows s.objs n p wn=some ⟨u,l⟩):
  ∃d A c locs,datAt s.objs n=some d∧v = .slice A l.length c∧l.length≤c∧Elems w d.wr u l locs A:=by
 obtain⟨d,Q,sz,hd,tot,g1,g2,g3,g4,A,c,e1,e2,e3,e4,e5⟩:=hv
 have main:∀(Y:List u.den) (locs:Nat→u.loc),Y.length=tot→sz=u.size→wn.cut Y=l→(∀b o,hd.A=some ⟨b,o,none⟩→0<tot→b<w.heap.size∧∀i,i<tot→w.rangeAt b (o+i*u.size) (cells u (Y.getD i u.dflt) (locs i)))→(∀i,i<tot→memH w d.wr u none (Y.getD i u.dflt) (locs i)) →
   ∃d A c locs,datAt s.objs n=some d∧v = .slice A l.length c∧l.length≤c∧Elems w d.wr u l locs A:=by
  intro Y locs hY hsz hl hr hm
  subst hl
  have hlen:(wn.cut Y).length=wn.lenN tot:=by rw[←hY];exact cut_length (by rw[hY];exact e2)
  refine⟨d,A,c,fun i=>locs (wn.off+i),g1,by rw[hlen];exact e1,by omega,⟨fun hn=>?_,fun i hi=>?_⟩⟩
  ·obtain⟨b,o,q1,q2⟩:=e4 (by omega)
   obtain⟨q3,q4⟩:=hr b o q1 (by omega)
   refine⟨b,_,q2,q3,(rangeAt_flatMap _ _ (fun i=>cells_length u _ _) _).2 (fun i hi=>?_)⟩
   rw[cut_getD hi,hsz]
   have:=q4 (wn.off+i) (by omega)
   rwa[Nat.add_mul,←Nat.add_assoc] at this
  ·rw[cut_getD hi]
   exact hm _ (by omega)
 unfold shows at hs
 split at hs
 ·rename_i e' u' Y hz
  obtain⟨hze,hh⟩:=place_of g1 g3 hz
  obtain⟨uq,yq,lq,bq,oq⟩:=Q
  cases hze
  simp only[hdrP,Option.some.injEq,Prod.mk.injEq] at g4
  obtain⟨rfl,rfl,rfl⟩:=g4
  simp only[Option.some.injEq] at hs
  cases hs
  have hmem:RowAt w d.wr u.size lq.1 (List.length yq) (rowCells u yq lq.2)∧∀i,i<List.length yq→memH w d.wr u none (List.getD yq i u.dflt) (lq.2 i):=by
   by_cases hp:p=[]
   ·subst hp
    have hm:=h.dat n d g1
    rw[hh] at hm
    unfold rootPL at g3
    rw[getPL_nil] at g3
    cases g3
    exact hm.resolve_left (by simp[lent])
   ·exact (root_read h g1 hh hp g3).2.resolve_left (by simp[lent])
  refine main yq lq.2 rfl rfl rfl (fun b o hA hn=>?_) hmem.2
  obtain⟨b',o',q1,q2,q3⟩:=hmem.1.at_ hn
  rw[hA] at q1
  obtain⟨rfl,rfl⟩:b=b'∧o=o':=by simpa using q1
  exact⟨q2,(rangeAt_flatMap _ _ (fun i=>cells_length u _ _) _).1 q3⟩
 ·rename_i e' u' Y hz
  obtain⟨hze,hh⟩:=place_of g1 g3 hz
  obtain⟨uq,yq,lq,bq,oq⟩:=Q
  cases hze
  simp only[hdrP,Option.some.injEq,Prod.mk.injEq] at g4
  obtain⟨rfl,rfl,rfl⟩:=g4
  simp only[Option.some.injEq] at hs
  cases hs
  have hp:p≠[]:=fun e=>by
   subst e
   unfold rootPL at g3
   rw[getPL_nil] at g3
   cases g3
  obtain⟨r1,m1⟩:=root_read h g1 hh hp g3
  refine main yq lq m1.1 rfl rfl (fun b o hA hn=>?_) m1.2
  obtain⟨rfl,rfl⟩:bq=b∧oq=o:=by simpa using hA
  have r2:=(rangeAt_flatMap _ _ (fun i=>cells_length u _ _) _).1 r1
  have hm:=h.dat n d g1
  exact⟨blks_lt _ _ _ _ hm _ (root_blk hp (by rw[hh];exact .inl rfl) g3),r2⟩
 ·cases hs
theorem run_first{P:Program}{size n k c:Nat}{A:Option Addr}{cs:List Value}{w:World}(hl:cs.length=n*size)(h:0<n→∃b o,A=some ⟨b,o,none⟩∧w.rangeAt b o cs):(Builtin.firstCells size n (.slice A k c)).run P w = .ok cs.toArray w:=by
 cases A with
 |none=>
  have hn:n=0:=by
   rcases Nat.eq_zero_or_pos n with q|q
   ·exact q
   ·obtain⟨b,o,e,_⟩:=h q;cases e
  subst hn
  have:cs=[]:=List.eq_nil_of_length_eq_zero (by simpa using hl)
  subst this
  exact run_firstCells_none w size 0 k c
 |some ad=>
  refine run_firstCells_some w size n ad k c cs hl (fun j v hv=>?_)
  have hn:0<n:=by
   rcases Nat.eq_zero_or_pos n with q|q
   ·subst q
    have hj:=(List.getElem?_eq_some_iff.1 hv).1
    simp at hl
    rw[hl] at hj
    simp at hj
   ·exact q
  obtain⟨b,o,e,hr⟩:=h hn
  obtain rfl:=Option.some.inj e
  rw[Addr.add_mid]
  exact hr j v hv
theorem run_append_fits(T:TTok P E){t e:TypeId}{u:Ty}(ht:P.underlying t=some (.slice e))(he:E.TT e=some u){A A2:Option Addr}{n c k c2:Nat}{news:List Value}{ty:TypeId}
  (hl2:news.length=k*u.size) (h2:0<k→∃b o,A2=some ⟨b,o,none⟩∧w.rangeAt b o news) (h1:∀v∈news,v.oneCell'=true) (hroom:n+k≤c)
  (hA:0<c→∃b o,A=some ⟨b,o,none⟩∧w.there b (o+n*u.size) news.length):
  ∃w',(Builtin.append_ #[t,t] ty #[.slice A n c,.slice A2 k c2]).run P w = .ok (.slice A (n+k) c) w' ∧
   ((news=[]∧w'=w)∨∃b o,A=some ⟨b,o,none⟩∧w'=w.setCells b (o+n*u.size) news):=by
 obtain⟨i,hi,hs,hp⟩:=T.size he
 have hfc:=run_first (P:=P) (size:=i.size) (n:=k) (k:=k) (c:=c2) (A:=A2) (cs:=news) (w:=w) (by rw[hs];exact hl2) h2
 rcases Nat.eq_zero_or_pos c with hc|hc
 ·have hk:k=0:=by omega
  have hn:n=0:=by omega
  have hnews:news=[]:=List.eq_nil_of_length_eq_zero (by rw[hl2,hk];simp)
  subst hk hn hc hnews
  refine⟨w,?_,.inl ⟨rfl,rfl⟩⟩
  cases A with
  |none=>simp[Builtin.append_,run_underlying ht,sizeOf,typeInfo,hi,Builtin.lenOf,hfc]
  |some ad=>simp[Builtin.append_,run_underlying ht,sizeOf,typeInfo,hi,Builtin.lenOf,hfc,storeCells]
 ·obtain⟨b,o,rfl,hth⟩:=hA hc
  refine⟨w.setCells b (o+n*u.size) news,?_,.inr ⟨b,o,rfl,rfl⟩⟩
  have hst:=run_storeCells_cells (P:=P) b (o+n*u.size) news 0 w (fun j hj=>by simpa using (hth j hj).1) (fun j hj=>by simpa using (hth j hj).2) h1
  simp only[Nat.add_zero] at hst
  simp[Builtin.append_,run_underlying ht,sizeOf,typeInfo,hi,Builtin.lenOf,hroom,hfc,Addr.add_mid,hs,hst]
  simp[hs] at hfc
  simp[hfc,hst]
theorem run_append_moves(T:TTok P E){t e:TypeId}{u:Ty}(ht:P.underlying t=some (.slice e))(he:E.TT e=some u)(hsm:E.small e=true){A A2:Option Addr}{n c k c2:Nat}{olds news:List Value}{ty:TypeId}
  (hl1:olds.length=n*u.size) (h1:0<n→∃b o,A=some ⟨b,o,none⟩∧w.rangeAt b o olds) (hl2:news.length=k*u.size) (h2:0<k→∃b o,A2=some ⟨b,o,none⟩∧w.rangeAt b o news) (hroom:c<n+k) (hlim:n+k≤LIM):
  ∃cap arr,n+k≤cap∧(∀(j:Nat) (v:Value),(olds++news)[j]? = some v→arr[j]? = some v)∧cap*u.size≤arr.size ∧
   (Builtin.append_ #[t,t] ty #[.slice A n c,.slice A2 k c2]).run P w = .ok (.slice (some ⟨w.heap.size,0,none⟩) (n+k) cap) (w.drew.alloc (.cells arr e)):=by
 obtain⟨i,z,hi,hz,hzs,_⟩:=zero_list T he
 obtain⟨i2,hi2,hs,hp⟩:=T.size he
 rw[hi] at hi2
 obtain rfl:=Option.some.inj hi2
 obtain⟨i3,hi3,p1,p2,p3⟩:=T.small e hsm
 rw[hi] at hi3
 obtain rfl:=Option.some.inj hi3
 have hlim':n+k≤4294967296:=hlim
 have hf2:=run_first (P:=P) (size:=i.size) (n:=k) (k:=k) (c:=c2) (A:=A2) (cs:=news) (w:=w.drew) (by rw[hs];exact hl2) (fun q=>by
  obtain⟨b,o,q1,q2⟩:=h2 q;exact⟨b,o,q1,by simpa using q2⟩)
 have hf1:=run_first (P:=P) (size:=i.size) (n:=n) (k:=n) (c:=c) (A:=A) (cs:=olds) (w:=w.drew) (by rw[hs];exact hl1) (fun q=>by
  obtain⟨b,o,q1,q2⟩:=h1 q;exact⟨b,o,q1,by simpa using q2⟩)
 have hn:¬(n+k≤c):=by omega
 have h63':¬(9223372036854775807<((n:Int)+(k:Int))):=by omega
 have h48':¬(281474976710656<Builtin.nextslicecap (n+k) c*i.bytes):=by
  have q1:Builtin.nextslicecap (n+k) c≤2*(n+k):=nextslicecap_le hroom
  have q2:Builtin.nextslicecap (n+k) c*i.bytes≤(2*4294967296)*4096:=Nat.mul_le_mul (by omega) p2
  omega
 refine⟨grownCap w (n+k) c e,olds.toArray++news.toArray++Builtin.zeroCells z.cells (grownCap w (n+k) c e-(n+k)),grownCap_ge w (n+k) c e,fun j v hv=>?_,?_,?_⟩
 ·rw[←Array.getElem?_toList]
  simp only[Array.toList_append,List.append_assoc]
  rw[←List.append_assoc,List.getElem?_append_left (List.getElem?_eq_some_iff.1 hv).1]
  exact hv
 ·have hge:=grownCap_ge w (n+k) c e
  simp only[Array.size_append,List.size_toArray,size_zeroCells,hzs,hl1,hl2,←Nat.add_mul]
  exact Nat.le_of_eq (by congr 1;omega)
 ·simp[Builtin.append_,run_underlying ht,sizeOf,typeInfo,zeroValue,hi,hz,Builtin.lenOf,hn,h63',h48',Question.forced,hf1,hf2,newRow,grownCap]
  congr 2
  apply Array.ext'
  simp[List.append_assoc]
def eblks(u:Ty)(l:List u.den)(locs:Nat→u.loc):List Nat:=(List.range l.length).flatMap fun i=>blks true u none (l.getD i u.dflt) (locs i)
theorem eblks_flat{u:Ty}(h:u.flat=true)(l:List u.den)(locs:Nat→u.loc):eblks u l locs=[]:=by
 unfold eblks
 rw[List.flatMap_eq_nil_iff]
 exact fun i _=>blks_flat u h _ _ _
theorem eblks_append(u:Ty)(l1 l2:List u.den)(f1 f2:Nat→u.loc):eblks u (l1++l2) (joinL l1.length f1 f2)=eblks u l1 f1++eblks u l2 f2:=by
 unfold eblks
 rw[List.length_append,flatMap_app]
 congr 1
 ·exact flatMap_congr_range (fun i hi=>by rw[joinL_lt hi,getD_app_lt hi])
 ·exact flatMap_congr_range (fun i hi=>by rw[joinL_ge,getD_app_ge])
theorem blks_row(e:TypeId)(u:Ty)(l:List u.den)(H:Hdr)(locs:Nat→u.loc):blks true (.row e u) none l (H,locs)=hdrBlk true H l.length++eblks u l locs:=rfl
theorem eblks_cut{u:Ty}{Y:List u.den}{L:Nat→u.loc}{wn:Win}(h:wn.off+wn.lenN Y.length≤Y.length)(nd:(eblks u Y L).Nodup):
  (eblks u (wn.cut Y) (fun i=>L (wn.off+i))).Nodup∧∀k,k∈eblks u (wn.cut Y) (fun i=>L (wn.off+i))→k∈eblks u Y L:=by
 have hlen:=cut_length h
 constructor
 ·refine nodup_flatMap_of (fun i hi=>?_) (fun i j hi hj hne=>?_)
  ·rw[cut_getD hi]
   exact nodup_flatMap_one nd (wn.off+i) (by omega)
  ·rw[cut_getD hi,cut_getD hj]
   exact nodup_flatMap_ne nd (wn.off+i) (wn.off+j) (by omega) (by omega) (by omega)
 ·intro k hk
  obtain⟨i,hi,hk⟩:=List.mem_flatMap.1 hk
  have hi:=List.mem_range.1 hi
  rw[cut_getD hi] at hk
  exact List.mem_flatMap.2 ⟨wn.off+i,List.mem_range.2 (by omega),hk⟩
theorem appended_holds(h:R m w0 MB s g a w){x:SV}{v:Value}(hx:SRel s.objs g x v){u:Ty}{l:List u.den}{ks:List Nat}(ha:appended s.objs x u=some (l,ks)):
  ∃A c locs,v = .slice A l.length c∧Elems w true u l locs A∧(eblks u l locs).Nodup∧(∀k,k∈ks→nameIn x k=true∧∃dk,datAt s.objs k=some dk∧dk.wr=true∧dk.fresh=true) ∧
   (∀b,b∈eblks u l locs→∃k dk,k∈ks∧datAt s.objs k=some dk∧b∈blksD g k dk):=by
 unfold appended at ha
 split at ha
 ·simp only[Option.some.injEq,Prod.mk.injEq] at ha
  obtain⟨rfl,rfl⟩:=ha
  have hv:v = .slice none 0 0:=hx
  refine⟨none,0,fun _=>u.dloc,hv,⟨fun q=>absurd q (Nat.lt_irrefl 0),fun i hi=>absurd hi (Nat.not_lt_zero i)⟩,List.nodup_nil,(fun k hk=>by cases hk),(fun b hb=>by cases hb)⟩
 ·rename_i n p wn
  split at ha
  ·rename_i hf
   split at ha
   ·rename_i u' l' hs
    split at ha
    ·rename_i e
     subst e
     simp only[Option.some.injEq,Prod.mk.injEq] at ha
     obtain⟨rfl,rfl⟩:=ha
     obtain⟨d,A,c,locs,q1,q2,q3,q4⟩:=sl_elems h hx hs
     refine⟨A,c,locs,q2,⟨q4.at_,fun i hi=>memH_of_ok _ hf _ _ _ (ok_of_memH _ hf _ _ _ (q4.mem i hi))⟩,?_,(fun k hk=>by cases hk),?_⟩
     ·rw[eblks_flat hf];exact List.nodup_nil
     ·intro b hb;rw[eblks_flat hf] at hb;cases hb
    ·cases ha
   ·cases ha
  ·rename_i hf
   split at ha
   ·rename_i d hd
    split at ha
    ·rename_i e
     subst e
     split at ha
     ·rename_i hw hh
      simp only[Bool.and_eq_true] at hw
      simp only[Option.some.injEq,Prod.mk.injEq] at ha
      obtain⟨rfl,rfl⟩:=ha
      obtain⟨A,c,q1,q2,q3,q4⟩:=take_row h hx hd hh hw.1
      have q2:=q2.resolve_left (by simp[lent])
      rw[blks_row,List.nodup_append] at q3
      refine⟨A,c,(g.G n d.t).2,q1,⟨q2.1.at_,q2.2⟩,q3.2.1,fun k hk=>?_,fun b hb=>⟨n,d,by simp,hd,q4 b (by rw[blks_row];exact List.mem_append_right _ hb)⟩⟩
      obtain rfl:=List.mem_singleton.1 hk
      exact⟨by simp[nameIn],d,hd,hw.1,hw.2⟩
     ·cases ha
    ·cases ha
   ·cases ha
 ·cases ha
theorem append_exec{o:Oper}{c:Call}{t:TypeId}{x y:Operand}(ho:o.op = .call c)(hc:c.callee = .builtin .append)(ha:c.args.toList=[x,y])(hat:c.argTypes.toList=[t,t]){v:Value}{w':World}
  (hr:(Builtin.append_ #[t,t] o.type #[a.eval x,a.eval y]).run P w = .ok v w'):(execOp a.eval o).run P w = .ok (.value v) w':=by
 have e1:c.args = #[x,y]:=by rw[←Array.toList_inj];exact ha
 have e2:c.argTypes = #[t,t]:=by rw[←Array.toList_inj];exact hat
 unfold execOp
 rw[ho]
 simp only[resolve,hc,e1,e2,Sem.run_bind,Sem.run_pure,Result.andThen_ok,invoke,builtin,List.map_cons,List.map_nil,List.map_toArray,hr]
theorem elems_keep{w w':World}{u:Ty}{l:List u.den}{locs:Nat→u.loc}{A:Option Addr}(hs:w.heap.size≤w'.heap.size)(h:Elems w true u l locs A)(hk:∀k,k∈eblks u l locs→w'.heap[k]? = w.heap[k]?):∀i,i<l.length→memH w' true u none (l.getD i u.dflt) (locs i):=
 fun i hi=>memH_frame hs _ _ _ _ (h.mem i hi) (fun k hk'=>hk k (List.mem_flatMap.2 ⟨i,List.mem_range.2 hi,hk'⟩))
theorem mem_join{w:World}{u:Ty}{l1 l2:List u.den}{f1 f2:Nat→u.loc}(h1:∀i,i<l1.length→memH w true u none (l1.getD i u.dflt) (f1 i))(h2:∀i,i<l2.length→memH w true u none (l2.getD i u.dflt) (f2 i)):
  ∀i,i<(l1++l2).length→memH w true u none ((l1++l2).getD i u.dflt) (joinL l1.length f1 f2 i):=by
 intro i hi
 rw[List.length_append] at hi
 rcases Nat.lt_or_ge i l1.length with q|q
 ·rw[joinL_lt q,getD_app_lt q];exact h1 i q
 ·obtain⟨j,rfl⟩:∃j,i=l1.length+j:=⟨i-l1.length,by omega⟩
  rw[joinL_ge,getD_app_ge];exact h2 j (by omega)
theorem fr_drew_alloc(w:World)(o:Obj):Fr [] w (w.drew.alloc o):=⟨rfl,⟨rfl,fun _=>Nat.le_succ _⟩,rfl,by simp,fun k hk _=>heap_alloc_old w.drew o hk⟩
theorem append_nil_holds(T:TTok P E)(h:R m w0 MB s g a w){o:Oper}{c:Call}{t e:TypeId}{u:Ty}{x y:Operand}(ho:o.op = .call c)(hc:c.callee = .builtin .append)(ha:c.args.toList=[x,y])(hat:c.argTypes.toList=[t,t])
  (ht:E.TT t=some (.row e u)) (hsm:E.small e=true) (hx:a.eval x = .slice none 0 0) {l2:List u.den} {ks:List Nat} (hap:appended s.objs (evalO s.slots y) u=some (l2,ks)) (hlim:l2.length≤LIM) {dn:Nat}
  (hdn:dn<s.objs.length∧obAt s.objs dn=none):Holds P m w0 MB s g o a w { v:=.sl dn [] none,upd:=ks.map (fun k=>(k,none))++[(dn,some (.dat ⟨e,u,l2,true,true,none⟩))],kill:=ks }:=by
 obtain⟨hu,he⟩:=T.row ht
 obtain⟨A2,c2,locs2,v2,E2,nd2,k2,b2⟩:=appended_holds h (h.eval y) hap
 have hl2:(rowCells u l2 locs2).length=l2.length*u.size:=rowCells_length _ _ _
 have hat2:0<l2.length→∃b o,A2=some ⟨b,o,none⟩∧w.rangeAt b o (rowCells u l2 locs2):=fun q=>by obtain⟨b,o,q1,_,q3⟩:=E2.at_ q;exact⟨b,o,q1,q3⟩
 have hlt:∀k,k∈eblks u l2 locs2→k<w.heap.size:=fun k hk=>by
  obtain⟨i,hi,hk⟩:=List.mem_flatMap.1 hk
  exact blks_lt _ _ _ _ (E2.mem i (List.mem_range.1 hi)) k hk
 rcases Nat.eq_zero_or_pos l2.length with h0|h0
 ·obtain⟨w',hr,hw'⟩:=run_append_fits (P:=P) (w:=w) T (ty:=o.type) hu he (A:=none) (n:=0) (c:=0) hl2 hat2 (rowCells_one' _ _ _) (by omega) (fun q=>absurd q (Nat.lt_irrefl 0))
  have hww:w'=w:=by
   rcases hw' with⟨_,e⟩|⟨b,o',e,_⟩
   ·exact e
   ·cases e
  rw[hww] at hr
  have hnil:l2=[]:=List.eq_nil_of_length_eq_zero h0
  refine does_run (append_exec ho hc ha hat (by rw[hx,v2];exact hr)) ⟨_,h.renew ks dn ⟨e,u,l2,true,true,none⟩ (⟨none,0⟩,locs2) _ _ o.dst _ (fun k hk=>(k2 k hk).2) hdn.1 (.inl hdn.2) ⟨rfl,rfl,rfl⟩ (.inl (Fr.refl _ _)) (fun b _ _=>rfl) ?_ ?_ ?_ ?_⟩
  ·subst hnil
   exact .inr ⟨⟨Nat.le_refl 0,fun q=>absurd q (Nat.lt_irrefl 0),fun _ q=>absurd q (Nat.lt_irrefl 0)⟩,fun i hi=>absurd hi (Nat.not_lt_zero i)⟩
  ·show (blks true (.row e u) none l2 _).Nodup
   rw[blks_row];exact nd2
  ·intro b hb
   replace hb:b∈blks true (.row e u) none l2 (⟨none,0⟩,locs2):=hb
   rw[blks_row] at hb
   exact .inr (b2 b hb)
  ·refine⟨⟨e,u,l2,true,true,none⟩,_,_,_,_,?_,fun _=>rfl,getPL_nil _ _ _ _ _,rfl,none,0,by simp[Win.lenN,h0],by simp[Win.off,Win.lenN],by simp[Win.lenN,h0],fun q=>absurd q (by simp[Win.lenN,h0]),fun _=>⟨by simp[Win.off],fun q=>absurd q (Nat.lt_irrefl 0)⟩⟩
   rw[←datAt_ob,updAll_append]
   show obAt ((updAll _ s.objs).set dn _) dn=_
   rw[obAt_set _ _ _ _ (by rw[updAll_length];exact hdn.1),if_pos rfl]
 ·obtain⟨cap,arr,q1,q2,q3,q4⟩:=run_append_moves (P:=P) (w:=w) T (ty:=o.type) hu he hsm (A:=none) (n:=0) (c:=0) (olds:=[]) (c2:=c2) (by simp) (fun q=>absurd q (Nat.lt_irrefl 0)) hl2 hat2 (by omega) (by omega)
  have hf:=fr_drew_alloc w (.cells arr e)
  simp only[Nat.zero_add,List.nil_append] at q1 q2 q4
  have hrow:=rowAt_new w.drew arr e (sz:=u.size) (n:=l2.length) (cap:=cap) (cs:=rowCells u l2 locs2) q1 q2 q3
  have eb:blks true (.row e u) none l2 (⟨some ⟨w.heap.size,0,none⟩,cap⟩,locs2)=w.heap.size::eblks u l2 locs2:=by
   rw[blks_row]
   unfold hdrBlk
   simp only
   rw[if_pos (.inr h0)]
   rfl
  refine does_run (append_exec ho hc ha hat (by rw[hx,v2];exact q4)) ⟨_,h.renew ks dn ⟨e,u,l2,true,true,none⟩ (⟨some ⟨w.heap.size,0,none⟩,cap⟩,locs2) _ _ o.dst _ (fun k hk=>(k2 k hk).2) hdn.1 (.inl hdn.2) ⟨rfl,rfl,rfl⟩ (.inl hf) (fun b hb _=>hf.block b hb (by simp)) ?_ ?_ ?_ ?_⟩
  ·exact .inr ⟨hrow,elems_keep hf.size E2 (fun k hk=>hf.block k (hlt k hk) (by simp))⟩
  ·show (blks true (.row e u) none l2 _).Nodup
   rw[eb]
   exact List.nodup_cons.2 ⟨fun hb=>by have:=hlt _ hb;omega,nd2⟩
  ·intro b hb
   replace hb:b∈blks true (.row e u) none l2 (⟨some ⟨w.heap.size,0,none⟩,cap⟩,locs2):=hb
   rw[eb] at hb
   rcases List.mem_cons.1 hb with rfl|hb
   ·exact .inl (Nat.le_refl _)
   ·exact .inr (b2 b hb)
  ·refine sl_new (e:=e) (t:=u) (l:=l2) (b:=w.heap.size) (cap:=cap) (locs:=locs2) ?_ (Gh.put_same _ _ _ _) q1
   rw[←datAt_ob,updAll_append]
   show obAt ((updAll _ s.objs).set dn _) dn=_
   rw[obAt_set _ _ _ _ (by rw[updAll_length];exact hdn.1),if_pos rfl]
theorem run_append_zeros(T:TTok P E){t t' e:TypeId}{u:Ty}{k kk:IntKind}(ht:P.underlying t=some (.slice e))(ht':P.underlying t'=some (.int k))(he:E.TT e=some u)(hsm:E.small e=true){n:Nat}(h0:0<n)(hlim:n≤LIM){ty:TypeId}:
  ∃cap arr,n≤cap∧(∀(j:Nat) (v:Value),(rowCells u (List.replicate n u.dflt) (fun _=>u.dloc))[j]? = some v→arr[j]? = some v)∧cap*u.size≤arr.size ∧
   (Builtin.append_ #[t,t'] ty #[.slice none 0 0,.int kk (n:Int)]).run P w = .ok (.slice (some ⟨w.heap.size,0,none⟩) n cap) (w.drew.alloc (.cells arr e)):=by
 obtain⟨i,z,hi,hz,hzs,hzl⟩:=zero_list T he
 obtain⟨i2,hi2,hs,hp⟩:=T.size he
 rw[hi] at hi2
 obtain rfl:=Option.some.inj hi2
 obtain⟨i3,hi3,p1,p2,p3⟩:=T.small e hsm
 rw[hi] at hi3
 obtain rfl:=Option.some.inj hi3
 have hlim':n≤4294967296:=hlim
 have hzc:∀q,(Builtin.zeroCells z.cells q).toList=rowCells u (List.replicate q u.dflt) (fun _=>u.dloc):=fun q=>by
  unfold Builtin.zeroCells
  rw[hzs,←hzl q,hzs]
 have hn:¬(0+n≤0):=by omega
 have hw:IntKind.i64.wrap (n:Int)=(n:Int):=wrap_small (by omega) (by omega)
 have h1:¬((n:Int)<0):=by omega
 have h48:¬((n:Int)*(i.bytes:Int)>2 ^ 48):=by
  have:(n:Int)*(i.bytes:Int)≤4294967296*4096:=Int.mul_le_mul (by omega) (by omega) (by omega) (by omega)
  omega
 have h48b:¬(281474976710656<(n:Int)*(i.bytes:Int)):=h48
 have h63':¬(9223372036854775807<(n:Int)):=by omega
 have h48':¬(281474976710656<Builtin.nextslicecap n 0*i.bytes):=by
  have q1:Builtin.nextslicecap n 0≤2*n:=by
   have:=nextslicecap_le (need:=n) (old:=0) (by omega)
   exact this
  have q2:Builtin.nextslicecap n 0*i.bytes≤(2*4294967296)*4096:=Nat.mul_le_mul (by omega) p2
  omega
 have hne:¬(n*u.size=0):=by
  have:=Nat.mul_pos h0 (T.size he).choose_spec.2.2
  omega
 have hn0:¬n=0:=by omega
 have hu0:¬i.size=0:=by rw[hs];omega
 refine⟨grownCap w n 0 e,Builtin.zeroCells z.cells n++Builtin.zeroCells z.cells (grownCap w n 0 e-n),?_,fun j v hv=>?_,?_,?_⟩
 ·have:=grownCap_ge w n 0 e
  exact this
 ·rw[←Array.getElem?_toList,Array.toList_append,hzc n,List.getElem?_append_left (List.getElem?_eq_some_iff.1 hv).1]
  exact hv
 ·have hge:=grownCap_ge w n 0 e
  simp only[Array.size_append,size_zeroCells,hzs,←Nat.add_mul]
  exact Nat.le_of_eq (by congr 1;omega)
 ·simp[Builtin.append_,run_underlying ht,run_underlying ht',sizeOf,typeInfo,zeroValue,hi,hz,hn0,hw,h1,h48b,h63',h48',Question.forced,newRow,grownCap,asInt,asIntOf,Builtin.firstCells,hu0]
  intro q0
  rw[hs] at q0
  exact absurd q0 hne
theorem zeros_holds(T:TTok P E)(h:R m w0 MB s g a w){o:Oper}{c:Call}{t t':TypeId}{x y:Operand}(ho:o.op = .call c)(hc:c.callee = .builtin .append)(ha:c.args.toList=[x,y])(hat:c.argTypes.toList=[t,t']){dn dn2:Nat}{K:Eff→Option α}{r:α}
  (hK:effZeros E dn t t' (evalO s.slots x) (evalO s.slots y) K=some r):∃e,K e=some r∧(newOk e s.objs dn dn2=true→Holds P m w0 MB s g o a w e):=by
 have hx:=h.eval x
 have hy:=h.eval y
 revert hK hx hy
 generalize evalO s.slots x=sx
 generalize evalO s.slots y=sy
 intro hK hx hy
 unfold effZeros at hK
 split at hK
 ·rename_i e u k kk j ht ht'
  obtain⟨hu,he⟩:=T.row ht
  have hu':=T.int ht'
  split at hK
  ·rename_i hsm
   obtain⟨hb,hK⟩:=cond_some hK
   simp only[Bool.and_eq_true,decide_eq_true_eq] at hb
   have ex:a.eval x = .slice none 0 0:=hx
   have ey:a.eval y = .int kk j:=hy.2.2
   obtain⟨n,rfl⟩:∃n:Nat,j=(n:Int):=⟨j.toNat,(Int.toNat_of_nonneg (Int.le_of_lt hb.1)).symm⟩
   have h0:0<n:=Int.natCast_pos.1 hb.1
   have hl:n≤LIM:=Int.ofNat_le.1 hb.2
   refine⟨_,hK,fun hnew=>?_⟩
   have hdn:=newOk_dn hnew (x:=some (.dat ⟨e,u,List.replicate n u.dflt,true,true,none⟩)) (by simp)
   obtain⟨cap,arr,q1,q2,q3,q4⟩:=run_append_zeros (P:=P) (w:=w) T (ty:=o.type) (kk:=kk) hu hu' he hsm h0 hl
   have hf:=fr_drew_alloc w (.cells arr e)
   have hrow:=rowAt_new w.drew arr e (sz:=u.size) (n:=n) (cap:=cap) (cs:=rowCells u (List.replicate n u.dflt) (fun _=>u.dloc)) q1 q2 q3
   have eb0:eblks u (List.replicate n u.dflt) (fun _=>u.dloc)=[]:=by
    unfold eblks
    rw[List.flatMap_eq_nil_iff]
    intro i hi
    rw[getD_dflt]
    exact (memH_dflt (w:=w) u none).2
   have eb:blks true (.row e u) none (List.replicate n u.dflt) (⟨some ⟨w.heap.size,0,none⟩,cap⟩,fun _=>u.dloc)=[w.heap.size]:=by
    rw[blks_row,eb0]
    unfold hdrBlk
    simp only
    rw[if_pos (.inr (by simpa using h0))]
    rfl
   have run:(execOp a.eval o).run P w = .ok (.value (.slice (some ⟨w.heap.size,0,none⟩) n cap)) (w.drew.alloc (.cells arr e)):=by
    have e1:c.args = #[x,y]:=by rw[←Array.toList_inj];exact ha
    have e2:c.argTypes = #[t,t']:=by rw[←Array.toList_inj];exact hat
    unfold execOp
    rw[ho]
    simp only[resolve,hc,e1,e2,Sem.run_bind,Sem.run_pure,Result.andThen_ok,invoke,builtin,List.map_cons,List.map_nil,List.map_toArray,ex,ey,q4]
   refine does_run run ⟨_,h.renew [] dn ⟨e,u,List.replicate n u.dflt,true,true,none⟩ (⟨some ⟨w.heap.size,0,none⟩,cap⟩,fun _=>u.dloc) _ _ o.dst _ (fun k hk=>by cases hk) hdn.1 (.inl hdn.2) ⟨rfl,rfl,rfl⟩ (.inl hf) (fun b hb _=>hf.block b hb (by simp)) ?_ ?_ ?_ ?_⟩
   ·refine .inr ⟨?_,fun i hi=>?_⟩
    ·rw[List.length_replicate];exact hrow
    ·rw[getD_dflt];exact (memH_dflt u none).1
   ·show (blks true (.row e u) none _ _).Nodup
    rw[eb]
    exact List.nodup_cons.2 ⟨List.not_mem_nil,List.nodup_nil⟩
   ·intro b hb
    replace hb:b∈blks true (.row e u) none (List.replicate n u.dflt) (⟨some ⟨w.heap.size,0,none⟩,cap⟩,fun _=>u.dloc):=hb
    rw[eb] at hb
    obtain rfl:=List.mem_singleton.1 hb
    exact .inl (Nat.le_refl _)
   ·have:=sl_new (e:=e) (t:=u) (l:=List.replicate n u.dflt) (b:=w.heap.size) (cap:=cap) (locs:=fun _=>u.dloc) (objs:=updAll [(dn,some (.dat ⟨e,u,List.replicate n u.dflt,true,true,none⟩))] s.objs) (dn:=dn) (g:=g.put dn u (⟨some ⟨w.heap.size,0,none⟩,cap⟩,fun _=>u.dloc)) (by
     rw[←datAt_ob]
     show obAt (s.objs.set dn _) dn=_
     rw[obAt_set _ _ _ _ hdn.1,if_pos rfl]) (Gh.put_same _ _ _ _) (by rw[List.length_replicate];exact q1)
    rw[List.length_replicate] at this
    exact this
  ·cases hK
 ·cases hK
theorem run_bytes(l:List Int)(b o:Nat)(n c:Nat)(hn:n=l.length)(hl:(loadCells ⟨b,o,none⟩ n).run P w = .ok (l.map (Value.int .u8 ·)).toArray w):
  (Conv.bytesToString (.slice (some ⟨b,o,none⟩) n c)).run P w = .ok (.string (strOf l)) w:=by
 have key:∀(l:List Int) (s:ByteArray) (f:Value→ByteArray→Sem (ForInStep ByteArray)),(∀n s,f (.int .u8 n) s=pure (.yield (s.push (UInt8.ofNat n.toNat)))) →
   (forIn (l.map (Value.int .u8 ·)) s f).run P w = .ok (l.foldl (fun s n=>s.push (UInt8.ofNat n.toNat)) s) w:=by
  intro l
  induction l with
  |nil=>intro s f hf;rfl
  |cons x l ih=>
   intro s f hf
   rw[List.map_cons,List.forIn_cons,hf]
   simp only[pure_bind,List.foldl_cons]
   exact ih _ f hf
 simp only[Conv.bytesToString,Sem.run_bind,hl,Result.andThen_ok]
 rw[List.forIn_toArray,key l ByteArray.empty _ (fun n s=>rfl)]
 rfl
theorem bytes_holds(T:TTok P E)(h:R m w0 MB s g a w){o:Oper}{t0 t:TypeId}{x:Operand}(ho:o.op = .convert t0 t x){K:Eff→Option α}{r:α}
  (hK:effBytes E s.objs t0 t (evalO s.slots x) K=some r):∃e,K e=some r∧Holds P m w0 MB s g o a w e:=by
 have hx:=h.eval x
 revert hK hx
 generalize evalO s.slots x=sx
 intro hK hx
 unfold effBytes at hK
 split at hK
 ·rename_i l ks e hap h1 h2
  obtain⟨hu,he⟩:=T.row h1
  obtain⟨A,c,locs,v2,E2,_⟩:=appended_holds h hx hap
  refine⟨_,hK,holds_quiet h (v:=.string (strOf l)) ?_ ⟨rfl,trivial,rfl⟩⟩
  have hcells:rowCells (.int .u8) l locs=l.map (Value.int .u8 ·):=by
   have e1:rowCells (.int .u8) l locs=(List.range l.length).map fun i=>Value.int .u8 (List.getD l i (0:Int)):=by
    rw[List.map_eq_flatMap]
    rfl
   rw[e1]
   refine List.ext_getElem (by simp) fun i h1 h2=>?_
   have hi:i<l.length:=by simpa using h2
   simp only[List.getElem_map,List.getElem_range]
   rw[List.getD_eq_getElem?_getD,List.getElem?_eq_getElem hi]
   rfl
  have hb:(Conv.bytesToString (.slice A l.length c)).run P w = .ok (.string (strOf l)) w:=by
   rcases Nat.eq_zero_or_pos l.length with h0|h0
   ·have hnil:l=[]:=List.eq_nil_of_length_eq_zero h0
    subst hnil
    cases A with
    |none=>rfl
    |some ad=>simp[Conv.bytesToString,loadCells];rfl
   ·obtain⟨b,of,rfl,_,hr⟩:=E2.at_ h0
    have hrf:=run_first (P:=P) (size:=1) (n:=l.length) (k:=l.length) (c:=c) (A:=some ⟨b,of,none⟩) (cs:=rowCells (.int .u8) l locs) (w:=w) (by rw[rowCells_length];rfl) (fun _=>⟨b,of,rfl,hr⟩)
    refine run_bytes l b of l.length c rfl ?_
    rw[hcells] at hrf
    simpa[Builtin.firstCells] using hrf
  unfold execOp
  rw[ho]
  simp only[v2,convert,Sem.run_bind,run_underlying hu,run_underlying (T.str h2),Result.andThen_ok,run_underlying (T.int he),hb,Sem.run_pure]
 ·cases hK
theorem convert_holds(T:TTok P E)(h:R m w0 MB s g a w){o:Oper}{t0 t:TypeId}{x:Operand}(ho:o.op = .convert t0 t x){K:Eff→Option α}{r:α}
  (hK:(match evalO s.slots x,E.TT t0,E.TT t with
  |.val (.int _) n,some (.int _),some (.int k)=>K { v:=.val (.int k) (k.wrap n) }
  |_,_,_=>effBytes E s.objs t0 t (evalO s.slots x) K)=some r):∃e,K e=some r∧Holds P m w0 MB s g o a w e:=by
 have hx:=h.eval x
 have hb:=fun hq=>bytes_holds T h ho (K:=K) (r:=r) hq
 revert hK hx hb
 generalize evalO s.slots x=sx
 intro hK hx hb
 split at hK
 ·rename_i k0 n k1 k2 h1 h2
  have ex:a.eval x = .int k0 n:=hx.2.2
  exact⟨_,hK,holds_quiet h (v:=.int k2 (k2.wrap n)) (by unfold execOp;rw[ho];simp[ex,convert,run_underlying (T.int h1),run_underlying (T.int h2),Conv.intToInt]) ⟨rfl,trivial,rfl⟩⟩
 ·exact hb hK
end
end Go.Proofs.Ytlipfbihlmlplaa.G
namespace Go.Proofs.Ytlipfbihlmlplaa.G
open Go Go.RowKit
set_option linter.unusedVariables false
set_option linter.unusedSimpArgs false
section
variable {P:Program} {E:Env} {m:Nat} {w0:World} {MB:Out} {s:St} {g:Gh} {a:Act} {w:World} {α:Type}
theorem sc_wrote{w:World}{b o:Nat}{vs:List Value}:Wrote w (w.setCells b o vs) b o vs.length where
 size:=(sc_same b vs o w).2.2.2
 far:=fun k hk=>sc_far vs o w k hk
 out:=fun j hj=>World.cell?_setCells_out b vs o w _ (fun _ _=>by simpa using hj)
 row:=fun cur e h=>sc_row vs o w cur h
theorem own_window(h:R m w0 MB s g a w){n:Nat}{wn:Win}{v:Value}(hv:SlRel s.objs g n [] wn v){d:Dat}(hd:datAt s.objs n=some d)(hh:d.hole=none)(hw:d.wr=true):
  ∃A c,v = .slice A (wn.cut d.l).length c∧(wn.cut d.l).length≤c∧Elems w true d.t (wn.cut d.l) (fun i=>(g.G n d.t).2 (wn.off+i)) A ∧
   (eblks d.t (wn.cut d.l) (fun i=>(g.G n d.t).2 (wn.off+i))).Nodup∧(∀k,k∈eblks d.t (wn.cut d.l) (fun i=>(g.G n d.t).2 (wn.off+i))→k∈blksD g n d) ∧
   (0<c→∃b o arr e',A=some ⟨b,o,none⟩∧w.heap[b]? = some (.cells arr e' (0,0))∧o+c*d.t.size≤arr.size∧b∈blksD g n d∧b∉eblks d.t (wn.cut d.l) (fun i=>(g.G n d.t).2 (wn.off+i))):=by
 obtain⟨d',Q,sz,hd',tot,g1,g2,g3,g4,A,c,e1,e2,e3,e4,e5⟩:=hv
 rw[hd] at g1
 obtain rfl:=Option.some.inj g1
 unfold rootPL at g3
 rw[getPL_nil] at g3
 obtain rfl:=Option.some.inj g3
 simp only[hdrP,Option.some.injEq,Prod.mk.injEq] at g4
 obtain⟨rfl,rfl,rfl⟩:=g4
 have hm:=h.dat n d hd
 have hs:=(h.sep n d hd hw).1
 have hbD:blksD g n d=hdrBlk true (g.G n d.t).1 d.l.length++eblks d.t d.l (g.G n d.t).2:=by unfold blksD;rw[hh,hw];rfl
 rw[hbD] at hs ⊢
 rw[hh,hw] at hm
 have hm:=hm.resolve_left (by simp[lent])
 obtain⟨k1,k2⟩:=e5 hw
 have hlen:(wn.cut d.l).length=wn.lenN d.l.length:=cut_length e2
 rw[List.nodup_append] at hs
 obtain⟨c1,c2⟩:=eblks_cut (u:=d.t) (Y:=d.l) (L:=(g.G n d.t).2) (wn:=wn) e2 hs.2.1
 refine⟨A,c,by rw[hlen];exact e1,by omega,⟨fun hn=>?_,fun i hi=>?_⟩,c1,fun k hk=>List.mem_append_right _ (c2 k hk),fun hc=>?_⟩
 ·obtain⟨b,o,q1,q2⟩:=e4 (by omega)
  obtain⟨b',o',q3,q4,q5⟩:=hm.1.at_ (by omega)
  rw[q1] at q3
  obtain⟨rfl,rfl⟩:b=b'∧o=o':=by simpa using q3
  refine⟨b,_,q2,q4,(rangeAt_flatMap _ _ (fun i=>cells_length d.t _ _) _).2 (fun i hi=>?_)⟩
  rw[cut_getD hi]
  have:=(rangeAt_flatMap _ _ (fun i=>cells_length d.t _ _) _).1 q5 (wn.off+i) (by omega)
  rwa[Nat.add_mul,←Nat.add_assoc] at this
 ·rw[cut_getD hi]
  have:=hm.2 (wn.off+i) (by omega)
  exact this
 ·obtain⟨b,o,q1,q2⟩:=k2 hc
  have hcap:0<(g.G n d.t).1.cap:=by omega
  obtain⟨b',o',arr,e',q3,q4,q5⟩:=hm.1.own rfl hcap
  rw[q1] at q3
  obtain⟨rfl,rfl⟩:b=b'∧o=o':=by simpa using q3
  have hb:b∈hdrBlk true (g.G n d.t).1 d.l.length:=by unfold hdrBlk;rw[q1];simp[hcap]
  refine⟨b,_,arr,e',q2,q4,?_,List.mem_append_left _ hb,fun q=>hs.2.2 b hb b (c2 b q) rfl⟩
  have:(wn.off+c)*d.t.size≤(g.G n d.t).1.cap*d.t.size:=Nat.mul_le_mul_right _ k1
  rw[Nat.add_mul] at this
  omega
theorem append_root_holds(T:TTok P E)(h:R m w0 MB s g a w){o:Oper}{c:Call}{t e:TypeId}{x y:Operand}(ho:o.op = .call c)(hc:c.callee = .builtin .append)(ha:c.args.toList=[x,y])(hat:c.argTypes.toList=[t,t])
  {n:Nat} {wn:Win} {d:Dat} (hd:datAt s.objs n=some d) (hw:d.wr=true) (hfr:d.fresh=true) (hh:d.hole=none)
  (ht:E.TT t=some (.row e d.t)) (hsm:E.small e=true) (hx:SlRel s.objs g n [] wn (a.eval x)) {l2:List d.t.den} {ks:List Nat} {sv:SV} (hsv:SRel s.objs g sv (a.eval y)) (hap:appended s.objs sv d.t=some (l2,ks)) (hne:nameIn sv n=false)
  (hlim:(wn.cut d.l).length+l2.length≤LIM) {dn:Nat} (hdn:dn<s.objs.length) (hdn2:obAt s.objs dn=none∨dn∈ks++[n]):
  Holds P m w0 MB s g o a w { v:=.sl dn [] none,upd:=(ks++[n]).map (fun k=>(k,none))++[(dn,some (.dat ⟨e,d.t,wn.cut d.l++l2,true,true,none⟩))],kill:=ks++[n] }:=by
 obtain⟨hu,he⟩:=T.row ht
 obtain⟨A2,c2,locs2,v2,E2,nd2,k2,b2⟩:=appended_holds h hsv hap
 obtain⟨A,c1,v1,hle,E1,nd1,m1,own1⟩:=own_window h hx hd hh hw
 generalize hl1:wn.cut d.l=l1 at *
 generalize hL1:(fun i=>(g.G n d.t).2 (wn.off+i))=locs1 at *
 have len1:(rowCells d.t l1 locs1).length=l1.length*d.t.size:=rowCells_length _ _ _
 have len2:(rowCells d.t l2 locs2).length=l2.length*d.t.size:=rowCells_length _ _ _
 have at1:0<l1.length→∃b o,A=some ⟨b,o,none⟩∧w.rangeAt b o (rowCells d.t l1 locs1):=fun q=>by obtain⟨b,o,q1,_,q3⟩:=E1.at_ q;exact⟨b,o,q1,q3⟩
 have at2:0<l2.length→∃b o,A2=some ⟨b,o,none⟩∧w.rangeAt b o (rowCells d.t l2 locs2):=fun q=>by obtain⟨b,o,q1,_,q3⟩:=E2.at_ q;exact⟨b,o,q1,q3⟩
 have hkn:n∉ks:=fun q=>by have:=(k2 n q).1;rw[hne] at this;cases this
 have hks:∀k,k∈ks++[n]→∃dk,datAt s.objs k=some dk∧dk.wr=true∧dk.fresh=true:=fun k hk=>by
  rcases List.mem_append.1 hk with hk|hk
  ·exact (k2 k hk).2
  ·obtain rfl:=List.mem_singleton.1 hk
   exact⟨d,hd,hw,hfr⟩
 have lt1:∀k,k∈blksD g n d→k<w.heap.size:=fun k hk=>blks_lt _ _ _ _ (h.dat n d hd) k hk
 have lt2:∀k,k∈eblks d.t l2 locs2→k<w.heap.size:=fun k hk=>by
  obtain⟨i,hi,hk⟩:=List.mem_flatMap.1 hk
  exact blks_lt _ _ _ _ (E2.mem i (List.mem_range.1 hi)) k hk
 have apart:∀b,b∈eblks d.t l2 locs2→b∉blksD g n d:=fun b hb hb1=>by
  obtain⟨k,dk,q1,q2,q3⟩:=b2 b hb
  obtain⟨dk',q4,q5,_⟩:=(k2 k q1).2
  rw[q2] at q4
  obtain rfl:=Option.some.inj q4
  exact (h.sep k dk q2 q5).2 n _ (fun e=>hkn (e▸q1)) (datAt_ob.2 hd) b q3 hb1
 have hndE:(eblks d.t (l1++l2) (joinL l1.length locs1 locs2)).Nodup:=by
  rw[eblks_append,List.nodup_append]
  exact⟨nd1,nd2,fun b hb b' hb' e=>apart b (e▸hb') (m1 b hb)⟩
 have hbE:∀b,b∈eblks d.t (l1++l2) (joinL l1.length locs1 locs2)→∃k dk,k∈ks++[n]∧datAt s.objs k=some dk∧b∈blksD g k dk:=fun b hb=>by
  rw[eblks_append] at hb
  rcases List.mem_append.1 hb with hb|hb
  ·exact⟨n,d,by simp,hd,m1 b hb⟩
  ·obtain⟨k,dk,q1,q2,q3⟩:=b2 b hb
   exact⟨k,dk,by simp[q1],q2,q3⟩
 have hnewD:∀L,datAt (updAll ((ks++[n]).map (fun k=>(k,none))++[(dn,some (.dat ⟨e,d.t,l1++l2,true,true,none⟩))]) s.objs) dn=some ⟨e,d.t,l1++l2,true,true,none⟩∧(g.put dn d.t L).G dn d.t=L:=fun L=>by
  refine⟨?_,Gh.put_same _ _ _ _⟩
  rw[←datAt_ob,updAll_append]
  show obAt ((updAll _ s.objs).set dn _) dn=_
  rw[obAt_set _ _ _ _ (by rw[updAll_length];exact hdn),if_pos rfl]
 rcases Nat.lt_or_ge c1 (l1.length+l2.length) with hroom|hroom
 ·obtain⟨cap,arr,q1,q2,q3,q4⟩:=run_append_moves (P:=P) (w:=w) T (ty:=o.type) hu he hsm (A:=A) (n:=l1.length) (c:=c1) (A2:=A2) (k:=l2.length) (c2:=c2) len1 at1 len2 at2 hroom hlim
  have hf:=fr_drew_alloc w (.cells arr e)
  have hrow:=rowAt_new w.drew arr e (sz:=d.t.size) (n:=(l1++l2).length) (cap:=cap) (cs:=rowCells d.t (l1++l2) (joinL l1.length locs1 locs2)) (by rw[List.length_append];exact q1) (fun j v hv=>q2 j v (by rwa[rowCells_append] at hv)) q3
  have eb:blks true (.row e d.t) none (l1++l2) (⟨some ⟨w.heap.size,0,none⟩,cap⟩,joinL l1.length locs1 locs2)=w.heap.size::eblks d.t (l1++l2) (joinL l1.length locs1 locs2):=by
   rw[blks_row]
   unfold hdrBlk
   simp only
   rw[if_pos (.inr (by rw[List.length_append];omega))]
   rfl
  refine does_run (append_exec ho hc ha hat (by rw[v1,v2];exact q4)) ⟨_,h.renew (ks++[n]) dn ⟨e,d.t,l1++l2,true,true,none⟩ (⟨some ⟨w.heap.size,0,none⟩,cap⟩,joinL l1.length locs1 locs2) _ _ o.dst _ hks hdn hdn2 ⟨rfl,rfl,rfl⟩ (.inl hf) (fun b hb _=>hf.block b hb (by simp)) ?_ ?_ ?_ ?_⟩
  ·exact .inr ⟨hrow,mem_join (elems_keep hf.size E1 (fun k hk=>hf.block k (lt1 k (m1 k hk)) (by simp))) (elems_keep hf.size E2 (fun k hk=>hf.block k (lt2 k hk) (by simp)))⟩
  ·show (blks true (.row e d.t) none (l1++l2) _).Nodup
   rw[eb]
   refine List.nodup_cons.2 ⟨fun hb=>?_,hndE⟩
   rw[eblks_append] at hb
   rcases List.mem_append.1 hb with hb|hb
   ·have:=lt1 _ (m1 _ hb);omega
   ·have:=lt2 _ hb;omega
  ·intro b hb
   replace hb:b∈blks true (.row e d.t) none (l1++l2) (⟨some ⟨w.heap.size,0,none⟩,cap⟩,joinL l1.length locs1 locs2):=hb
   rw[eb] at hb
   rcases List.mem_cons.1 hb with rfl|hb
   ·exact .inl (Nat.le_refl _)
   ·exact .inr (hbE b hb)
  ·rw[←List.length_append]
   exact sl_new (e:=e) (t:=d.t) (l:=l1++l2) (b:=w.heap.size) (cap:=cap) (locs:=joinL l1.length locs1 locs2) (hnewD (⟨some ⟨w.heap.size,0,none⟩,cap⟩,joinL l1.length locs1 locs2)).1 (hnewD _).2 (by rw[List.length_append];exact q1)
 ·obtain⟨w',hr,hw'⟩:=run_append_fits (P:=P) (w:=w) T (ty:=o.type) hu he (A:=A) (n:=l1.length) (c:=c1) (k:=l2.length) (A2:=A2) (c2:=c2) len2 at2 (rowCells_one' _ _ _) hroom (fun q=>by
   obtain⟨b,o',arr,e',q1,q2,q3,_⟩:=own1 q
   refine⟨b,o',q1,fun j hj=>?_⟩
   have:(l1.length+l2.length)*d.t.size≤c1*d.t.size:=Nat.mul_le_mul_right _ hroom
   rw[Nat.add_mul] at this
   have hlt:o'+l1.length*d.t.size+j<arr.size:=by omega
   constructor
   ·rw[cell_of_row _ _ _ arr e' (0,0) q2];simp[hlt]
   ·simp[World.frozen?,q2])
  have hn1:∀(j:Nat) (A0:Option Addr),RowAt w true d.t.size ⟨A,c1⟩ l1.length (rowCells d.t l1 locs1):=fun _ _=>⟨hle,fun q=>E1.at_ q,fun _ q=>by
   obtain⟨b,o',arr,e',q1,q2,q3,_⟩:=own1 q
   exact⟨b,o',arr,e',q1,q2,q3⟩⟩
  have hhb:∀b,b∈hdrBlk true ⟨A,c1⟩ (l1++l2).length→b∈blksD g n d∧b∉eblks d.t l1 locs1∧∃o,A=some ⟨b,o,none⟩:=fun b hb=>by
   unfold hdrBlk at hb
   split at hb
   ·rename_i ad hA
    split at hb
    ·rename_i hcc
     have hc0:0<c1:=by
      rcases hcc with⟨_,q⟩|q
      ·exact q
      ·rw[List.length_append] at q;omega
     obtain⟨b',o',arr,e',q1,q2,q3,q4,q5⟩:=own1 hc0
     simp only at hA
     rw[hA] at q1
     obtain rfl:=Option.some.inj q1
     obtain rfl:=List.mem_singleton.1 hb
     exact⟨q4,q5,o',hA⟩
    ·cases hb
   ·cases hb
  have eb:blks true (.row e d.t) none (l1++l2) (⟨A,c1⟩,joinL l1.length locs1 locs2)=hdrBlk true ⟨A,c1⟩ (l1++l2).length++eblks d.t (l1++l2) (joinL l1.length locs1 locs2):=blks_row _ _ _ _ _
  have hW:(w'.os=w.os∧TD w' w∧w'.output=w.output∧w.heap.size≤w'.heap.size)∧(∀b,b∉hdrBlk true ⟨A,c1⟩ (l1++l2).length→w'.heap[b]? = w.heap[b]?) ∧
    RowAt w' true d.t.size ⟨A,c1⟩ (l1++l2).length (rowCells d.t (l1++l2) (joinL l1.length locs1 locs2)):=by
   rw[List.length_append,rowCells_append]
   rcases hw' with⟨e1,rfl⟩|⟨b,o',e1,rfl⟩
   ·refine⟨⟨rfl,TD.refl _,rfl,Nat.le_refl _⟩,fun _ _=>rfl,hroom,fun hn=>?_,fun _ hc=>?_⟩
    ·rcases Nat.eq_zero_or_pos l1.length with q|q
     ·obtain⟨b,o',arr,e',q1,q2,q3,_⟩:=own1 (by omega)
      refine⟨b,o',q1,(Array.getElem?_eq_some_iff.1 q2).1,?_⟩
      have e2:rowCells d.t l1 locs1=[]:=List.eq_nil_of_length_eq_zero (by rw[len1,q,Nat.zero_mul])
      rw[e1,e2]
      intro j v hv
      simp at hv
     ·obtain⟨b,o',q1,q2,q3⟩:=E1.at_ q
      refine⟨b,o',q1,q2,?_⟩
      rw[e1,List.append_nil]
      exact q3
    ·obtain⟨b,o',arr,e',q1,q2,q3,_⟩:=own1 hc
     exact⟨b,o',arr,e',q1,q2,q3⟩
   ·have W:=sc_wrote (w:=w) (b:=b) (o:=o'+l1.length*d.t.size) (vs:=rowCells d.t l2 locs2)
    obtain⟨s1,s2,s3,s4⟩:=sc_same b (rowCells d.t l2 locs2) (o'+l1.length*d.t.size) w
    refine⟨⟨s1,s2,s3,Nat.le_of_eq s4.symm⟩,fun b' hb'=>?_,hroom,fun hn=>?_,fun _ hc=>?_⟩
    ·by_cases q:b'=b
     ·subst q
      rcases Nat.eq_zero_or_pos (l1.length+l2.length) with q0|q0
      ·have e2:rowCells d.t l2 locs2=[]:=List.eq_nil_of_length_eq_zero (by rw[len2,show l2.length=0 by omega,Nat.zero_mul])
       rw[e2];rfl
      ·exfalso
       apply hb'
       unfold hdrBlk
       simp only[e1]
       rw[if_pos (.inr q0)]
       simp
     ·exact W.far b' q
    ·obtain⟨b2',o2,arr,e',q1,q2,q3,_⟩:=own1 (by omega)
     rw[e1] at q1
     obtain⟨rfl,rfl⟩:b=b2'∧o'=o2:=by simpa using q1
     have hlt:=(Array.getElem?_eq_some_iff.1 q2).1
     refine⟨b,o',e1,by rw[s4];exact hlt,rangeAt_append.2 ⟨?_,?_⟩⟩
     ·rcases Nat.eq_zero_or_pos l1.length with q|q
      ·have e2:rowCells d.t l1 locs1=[]:=List.eq_nil_of_length_eq_zero (by rw[len1,q,Nat.zero_mul])
       rw[e2]
       intro j v hv
       simp at hv
      ·obtain⟨b3,o3,p1,p2,p3⟩:=E1.at_ q
       rw[e1] at p1
       obtain⟨rfl,rfl⟩:b=b3∧o'=o3:=by simpa using p1
       exact W.range p3 (.inr (.inl (by rw[len1];exact Nat.le_refl _)))
     ·rw[len1]
      refine World.rangeAt_setCells_same w b _ _ (fun j hj=>?_)
      have:(l1.length+l2.length)*d.t.size≤c1*d.t.size:=Nat.mul_le_mul_right _ hroom
      rw[Nat.add_mul] at this
      rw[len2] at hj
      have hlt:o'+l1.length*d.t.size+j<arr.size:=by omega
      constructor
      ·rw[cell_of_row _ _ _ arr e' (0,0) q2];simp[hlt]
      ·simp[World.frozen?,q2]
    ·obtain⟨b2',o2,arr,e',q1,q2,q3,_⟩:=own1 hc
     obtain⟨arr',e2,p1,p2⟩:=W.own (k:=b2') (m:=o2+c1*d.t.size) ⟨arr,e',q2,q3⟩
     exact⟨b2',o2,arr',e2,q1,p1,p2⟩
  obtain⟨w1,w2,w3⟩:=hW
  refine does_run (append_exec ho hc ha hat (by rw[v1,v2];exact hr)) ⟨_,h.renew (ks++[n]) dn ⟨e,d.t,l1++l2,true,true,none⟩ (⟨A,c1⟩,joinL l1.length locs1 locs2) _ _ o.dst _ hks hdn hdn2 ⟨rfl,rfl,rfl⟩ (.inr w1) (fun b hb hk=>w2 b (fun q=>hk n d (by simp) hd (hhb b q).1)) ?_ ?_ ?_ ?_⟩
  ·exact .inr ⟨w3,mem_join (elems_keep w1.2.2.2 E1 (fun k hk=>w2 k (fun q=>(hhb k q).2.1 hk))) (elems_keep w1.2.2.2 E2 (fun k hk=>w2 k (fun q=>apart k hk (hhb k q).1)))⟩
  ·show (blks true (.row e d.t) none (l1++l2) _).Nodup
   rw[eb,List.nodup_append]
   refine⟨?_,hndE,fun b hb b' hb' e'=>?_⟩
   ·unfold hdrBlk
    split
    ·split<;>simp
    ·simp
   ·subst e'
    rw[eblks_append] at hb'
    rcases List.mem_append.1 hb' with q|q
    ·exact (hhb b hb).2.1 q
    ·exact apart b q (hhb b hb).1
  ·intro b hb
   replace hb:b∈blks true (.row e d.t) none (l1++l2) (⟨A,c1⟩,joinL l1.length locs1 locs2):=hb
   rw[eb] at hb
   rcases List.mem_append.1 hb with hb|hb
   ·exact .inr ⟨n,d,by simp,hd,(hhb b hb).1⟩
   ·exact .inr (hbE b hb)
  ·have hd9:=(hnewD (⟨A,c1⟩,joinL l1.length locs1 locs2)).1
   have hg9:=(hnewD (⟨A,c1⟩,joinL l1.length locs1 locs2)).2
   refine⟨_,_,_,_,_,hd9,fun _=>rfl,getPL_nil _ _ _ _ _,rfl,A,c1,by simp[Win.lenN],by simp[Win.off,Win.lenN],by simp only[Win.lenN];rw[List.length_append];exact hroom,fun q=>?_,fun _=>⟨by rw[hg9];simp[Win.off],fun q=>?_⟩⟩
   ·simp only[Win.lenN] at q
    rw[List.length_append] at q
    obtain⟨b,o',arr,e',q1,_⟩:=own1 (by omega)
    exact⟨b,o',by rw[hg9];exact q1,by simp[Win.off,q1]⟩
   ·obtain⟨b,o',arr,e',q1,_⟩:=own1 q
    exact⟨b,o',by rw[hg9];exact q1,by simp[Win.off,q1]⟩
end
end Go.Proofs.Ytlipfbihlmlplaa.G
namespace Go.Proofs.Ytlipfbihlmlplaa.G
open Go Go.RowKit
set_option linter.unusedVariables false
set_option linter.unusedSimpArgs false
theorem sub_none(x:Stp):sub none x=none:=rfl
theorem memH_lend{w:World}{own:Bool}:∀(t:Ty) (h:Option (List Stp)) (x:t.den) (l:t.loc),memH w own t none x l→memH w own t h x l
 |.int _,_,_,_,_=>trivial
 |.bool,_,_,_,_=>trivial
 |.str,_,_,_,_=>trivial
 |.pair a b,h,x,l,m=>⟨memH_lend a _ _ _ m.1,memH_lend b _ _ _ m.2⟩
 |.st t,h,x,l,m=>memH_lend t h x l m
 |.arr n t,h,x,l,m=>⟨m.1,fun i hi=>memH_lend t _ _ _ (m.2 i hi)⟩
 |.row e t,h,x,l,m=>by
  rcases m with m|m
  ·exact absurd m (by simp[lent])
  ·exact .inr ⟨m.1,fun i hi=>memH_lend t _ _ _ (m.2 i hi)⟩
theorem flatMap_sub{f f':Nat→List Nat}(h:∀i,(f i).Sublist (f' i)):∀n,((List.range n).flatMap f).Sublist ((List.range n).flatMap f')
 |0=>by simp
 |n+1=>by
  rw[List.range_succ,List.flatMap_append,List.flatMap_append]
  exact (flatMap_sub h n).append (by simpa using h n)
theorem blks_lend{own:Bool}:∀(t:Ty) (h:Option (List Stp)) (x:t.den) (l:t.loc),(blks own t h x l).Sublist (blks own t none x l)
 |.int _,_,_,_=>.slnil
 |.bool,_,_,_=>.slnil
 |.str,_,_,_=>.slnil
 |.pair a b,h,x,l=>(blks_lend a _ _ _).append (blks_lend b _ _ _)
 |.st t,h,x,l=>blks_lend t h x l
 |.arr n t,h,x,l=>flatMap_sub (fun i=>blks_lend t _ _ _) n
 |.row e t,h,x,l=>by
  simp only[blks]
  split
  ·exact List.nil_sublist _
  ·rw[if_neg (by simp[lent])]
   exact (List.Sublist.refl _).append (flatMap_sub (fun i=>blks_lend t _ _ _) _)
theorem blks_apart{own:Bool}:∀(t:Ty) (x:t.den) (l:t.loc) (b o:Nat) (p:List Stp) (P:Pl),getPL t x l b o p=some P→P.u.isRow=true→(blks own t none x l).Nodup→∀k,k∈blks own t (some p) x l→k∉blks own P.u none P.y P.l
 |t,x,l,b,o,[],P,h,hr,nd,k,hk=>by
  have e:P=⟨t,x,l,b,o⟩:=by unfold getPL at h;cases t<;>exact (Option.some.inj h).symm
  subst e
  cases t<;>first|(cases hr;done)|skip
  simp[blks,lent] at hk
 |.st t,x,l,b,o,s::p,P,h,hr,nd,k,hk=>blks_apart t x l b o (s::p) P h hr nd k hk
 |.pair a c,x,l,b,o,.fst::p,P,h,hr,nd,k,hk=>by
  simp only[blks,List.nodup_append] at nd
  rcases List.mem_append.1 hk with hk|hk
  ·exact blks_apart a x.1 l.1 b o p P h hr nd.1 k hk
  ·exact fun q=>nd.2.2 k (PL_blks a x.1 l.1 b o p P h k q) k hk rfl
 |.pair a c,x,l,b,o,.snd::p,P,h,hr,nd,k,hk=>by
  simp only[blks,List.nodup_append] at nd
  rcases List.mem_append.1 hk with hk|hk
  ·exact fun q=>nd.2.2 k hk k (PL_blks c x.2 l.2 b _ p P h k q) rfl
  ·exact blks_apart c x.2 l.2 b _ p P h hr nd.2.1 k hk
 |.arr n t,x,l,b,o,.idx i::p,P,h,hr,nd,k,hk=>by
  unfold getPL at h
  split at h
  ·rename_i hi
   obtain⟨j,hj,hk⟩:=List.mem_flatMap.1 hk
   have hj:=List.mem_range.1 hj
   by_cases e:i=j
   ·subst e
    simp only[sub,if_true] at hk
    exact blks_apart t _ _ b _ p P h hr (nodup_flatMap_one nd i hi) k hk
   ·simp only[sub,if_neg e] at hk
    exact fun q=>nodup_flatMap_ne nd j i hj hi (Ne.symm e) k hk (PL_blks t _ _ b _ p P h k q)
  ·cases h
 |.row _ t,x,l,b,o,.idx i::p,P,h,hr,nd,k,hk=>by
  unfold getPL at h
  split at h
  ·rename_i hi
   split at h
   ·simp only[blks,lent,Bool.false_eq_true,if_false] at nd hk
    rw[List.nodup_append] at nd
    rcases List.mem_append.1 hk with hk|hk
    ·exact fun q=>nd.2.2 k hk k (List.mem_flatMap.2 ⟨i,List.mem_range.2 hi,PL_blks t _ _ _ _ p P h k q⟩) rfl
    ·obtain⟨j,hj,hk⟩:=List.mem_flatMap.1 hk
     have hj:=List.mem_range.1 hj
     by_cases e:i=j
     ·subst e
      simp only[sub,if_true] at hk
      exact blks_apart t _ _ _ _ p P h hr (nodup_flatMap_one nd.2.1 i hi) k hk
     ·simp only[sub,if_neg e] at hk
      exact fun q=>nodup_flatMap_ne nd.2.1 j i hj hi (Ne.symm e) k hk (PL_blks t _ _ _ _ p P h k q)
   ·cases h
  ·cases h
 |.int _,_,_,_,_,_::_,_,h,_,_,_,_=>by cases h
 |.bool,_,_,_,_,_::_,_,h,_,_,_,_=>by cases h
 |.str,_,_,_,_,_::_,_,h,_,_,_,_=>by cases h
 |.pair _ _,_,_,_,_,.idx _::_,_,h,_,_,_,_=>by cases h
 |.arr _ _,_,_,_,_,.fst::_,_,h,_,_,_,_=>by cases h
 |.arr _ _,_,_,_,_,.snd::_,_,h,_,_,_,_=>by cases h
 |.row _ _,_,_,_,_,.fst::_,_,h,_,_,_,_=>by cases h
 |.row _ _,_,_,_,_,.snd::_,_,h,_,_,_,_=>by cases h
theorem PL_nodup{own:Bool}:∀(t:Ty) (x:t.den) (l:t.loc) (b o:Nat) (p:List Stp) (P:Pl),getPL t x l b o p=some P→(blks own t none x l).Nodup→(blks own P.u none P.y P.l).Nodup
 |t,x,l,b,o,[],P,h,nd=>by
  have e:P=⟨t,x,l,b,o⟩:=by unfold getPL at h;cases t<;>exact (Option.some.inj h).symm
  subst e
  exact nd
 |.st t,x,l,b,o,s::p,P,h,nd=>PL_nodup t x l b o (s::p) P h nd
 |.pair a c,x,l,b,o,.fst::p,P,h,nd=>PL_nodup a x.1 l.1 b o p P h (List.nodup_append.1 nd).1
 |.pair a c,x,l,b,o,.snd::p,P,h,nd=>PL_nodup c x.2 l.2 b _ p P h (List.nodup_append.1 nd).2.1
 |.arr n t,x,l,b,o,.idx i::p,P,h,nd=>by
  unfold getPL at h
  split at h
  ·rename_i hi
   exact PL_nodup t _ _ b _ p P h (nodup_flatMap_one nd i hi)
  ·cases h
 |.row _ t,x,l,b,o,.idx i::p,P,h,nd=>by
  unfold getPL at h
  split at h
  ·rename_i hi
   split at h
   ·simp only[blks,lent,Bool.false_eq_true,if_false] at nd
    rw[List.nodup_append] at nd
    exact PL_nodup t _ _ _ _ p P h (nodup_flatMap_one nd.2.1 i hi)
   ·cases h
  ·cases h
 |.int _,_,_,_,_,_::_,_,h,_=>by cases h
 |.bool,_,_,_,_,_::_,_,h,_=>by cases h
 |.str,_,_,_,_,_::_,_,h,_=>by cases h
 |.pair _ _,_,_,_,_,.idx _::_,_,h,_=>by cases h
 |.arr _ _,_,_,_,_,.fst::_,_,h,_=>by cases h
 |.arr _ _,_,_,_,_,.snd::_,_,h,_=>by cases h
 |.row _ _,_,_,_,_,.fst::_,_,h,_=>by cases h
 |.row _ _,_,_,_,_,.snd::_,_,h,_=>by cases h
theorem sweep_nil(sv:SV):sweep [] [] sv=sv:=by
 have:hits [] [] sv=false:=by
  cases sv with
  |tup l=>
   simp only[hits,List.any_eq_false]
   intro t _
   cases t<;>simp
  |fn f cs=>simp[hits]
  |_=>simp[hits]
 simp[sweep,this]
theorem swept_map(k l:List Nat)(slots:List SV):swept k l slots=slots.map (sweep k l):=by
 unfold swept
 split
 ·rw[show sweep [] []=id from funext sweep_nil,List.map_id]
 ·rfl
theorem sweep_sweep(k l:List Nat)(sv:SV):sweep k [] (sweep [] l sv)=sweep k l sv:=by
 have hd:sweep k [] SV.dead=SV.dead:=rfl
 have:hits k l sv=(hits [] l sv||hits k [] sv):=by
  cases sv with
  |tup ts=>
   simp only[hits]
   induction ts with
   |nil=>rfl
   |cons t ts ih=>
    rw[List.any_cons,List.any_cons,List.any_cons,ih]
    cases t with
    |sl n p w=>
     simp only[List.contains_eq_mem,List.not_mem_nil,decide_false,Bool.false_or,Bool.or_false]
     cases decide (n∈k)<;>cases decide (n∈l)<;>simp
    |_=>simp
  |fn f cs=>simp[hits]
  |sl n p w=>simp only[hits,List.contains_eq_mem,List.not_mem_nil,decide_false,Bool.false_or,Bool.false_and,Bool.or_false];exact Bool.or_comm _ _
  |ptr n p c=>simp only[hits,List.contains_eq_mem,List.not_mem_nil,decide_false,Bool.false_or,Bool.and_false,Bool.or_false];exact Bool.or_comm _ _
  |_=>simp[hits]
 by_cases h1:hits [] l sv=true
 ·rw[show sweep [] l sv = .dead by simp[sweep,h1],show sweep k l sv = .dead by simp[sweep,this,h1],hd]
 ·have e:sweep [] l sv=sv:=by simp[sweep,h1]
  rw[e]
  simp[sweep,this,h1]
theorem swept_swept(k l:List Nat)(slots:List SV):swept k [] (swept [] l slots)=swept k l slots:=by
 rw[swept_map,swept_map,swept_map,List.map_map]
 congr 1
 funext sv
 exact sweep_sweep k l sv
theorem shows_congr{o1 o2:List (Option Ob)}{n:Nat}(p:List Stp)(w:Win)(h:obAt o1 n=obAt o2 n):shows o1 n p w=shows o2 n p w:=by
 have e:datAt o1 n=datAt o2 n:=by unfold datAt;rw[h]
 unfold shows place
 rw[e]
theorem appended_congr{o1 o2:List (Option Ob)}{sv:SV}{u:Ty}(h:∀n,nameIn sv n=true→obAt o1 n=obAt o2 n):appended o1 sv u=appended o2 sv u:=by
 cases sv with
 |sl n p w=>
  have hn:=h n (by simp[nameIn])
  have e:datAt o1 n=datAt o2 n:=by unfold datAt;rw[hn]
  unfold appended
  simp only[shows_congr p w hn,e]
 |_=>rfl
theorem appended_at{o:List (Option Ob)}{sv:SV}{u:Ty}{z:List u.den×List Nat}(h:appended o sv u=some z):∀n,nameIn sv n=true→(datAt o n).isSome=true:=by
 intro n hn
 cases sv with
 |sl k p w=>
  obtain rfl:k=n:=by simpa[nameIn] using hn
  unfold appended at h
  cases hd:datAt o k with
  |some d=>rfl
  |none=>
   have hs:shows o k p w=none:=by unfold shows place;rw[hd]
   simp only[hs,hd] at h
   split at h
   ·cases h
   ·cases h
 |_=>cases hn
section
variable {P:Program} {E:Env} {m:Nat} {w0:World} {MB:Out} {s:St} {g:Gh} {a:Act} {w:World} {α:Type}
theorem R.lendF(h:R m w0 MB s g a w){n dn:Nat}{d:Dat}{p:List Stp}{e':TypeId}{u':Ty}{y:List u'.den}{lq:(Ty.row e' u').loc}{bq oq:Nat}(hd:datAt s.objs n=some d)(hw:d.wr=true)(hh:d.hole=none)(hp:p≠[])
  (hP:rootPL g n d p=some ⟨.row e' u',y,lq,bq,oq⟩) (hdn:dn<s.objs.length) (hdn2:obAt s.objs dn=none):
  R m w0 MB (Eff.on { v:=.dead,upd:=[(n,some (.dat ⟨d.e,d.t,d.l,d.wr,d.fresh,some p⟩)),(dn,some (.dat ⟨e',u',y,true,d.fresh,none⟩))],loose:=[n] } none s) (g.put dn u' lq) (a.put none undef) w:=by
 have hn:obAt s.objs n=some (.dat d):=datAt_ob.2 hd
 have hne:n≠dn:=fun q=>by rw[q,hdn2] at hn;cases hn
 have hob:∀k,obAt (updAll [(n,some (.dat ⟨d.e,d.t,d.l,d.wr,d.fresh,some p⟩)),(dn,some (.dat ⟨e',u',y,true,d.fresh,none⟩))] s.objs) k=if k=dn then some (.dat ⟨e',u',y,true,d.fresh,none⟩) else if k=n then some (.dat ⟨d.e,d.t,d.l,d.wr,d.fresh,some p⟩) else obAt s.objs k:=fun k=>by
  show obAt ((s.objs.set n _).set dn _) k=_
  rw[obAt_set _ _ _ _ (by simpa using hdn),obAt_set _ _ _ _ (obAt_lt hn)]
 have hold:∀k x,obAt (updAll [(n,some (.dat ⟨d.e,d.t,d.l,d.wr,d.fresh,some p⟩)),(dn,some (.dat ⟨e',u',y,true,d.fresh,none⟩))] s.objs) k=some x →
   (k=dn∧x = .dat ⟨e',u',y,true,d.fresh,none⟩)∨(k=n∧x = .dat ⟨d.e,d.t,d.l,d.wr,d.fresh,some p⟩)∨(k≠dn∧k≠n∧obAt s.objs k=some x):=fun k x hx=>by
  rw[hob k] at hx
  split at hx
  ·rename_i e;exact .inl ⟨e,(Option.some.inj hx).symm⟩
  ·rename_i e
   split at hx
   ·rename_i e2;exact .inr (.inl ⟨e2,(Option.some.inj hx).symm⟩)
   ·rename_i e2;exact .inr (.inr ⟨e,e2,hx⟩)
 have hkeep:∀k x,obAt s.objs k=some x→k≠n→obAt (updAll [(n,some (.dat ⟨d.e,d.t,d.l,d.wr,d.fresh,some p⟩)),(dn,some (.dat ⟨e',u',y,true,d.fresh,none⟩))] s.objs) k=some x∧k≠dn:=fun k x hx hk=>by
  have hkd:k≠dn:=fun q=>by rw[q,hdn2] at hx;cases hx
  exact⟨by rw[hob k,if_neg hkd,if_neg hk];exact hx,hkd⟩
 have hm:=h.dat n d hd
 have hs:=(h.sep n d hd hw).1
 have hfs:=h.fresh n d hd hw
 unfold blksD at hs hfs
 rw[hh,hw] at hs
 rw[hh] at hm hfs
 rw[hw] at hm hfs
 have hread:=root_read h hd hh hp hP
 have hmq:memH w true (.row e' u') none y lq:=by rw[hw] at hread;exact hread.2
 have hG0:∀k,k≠dn→(g.put dn u' lq).G k=g.G k:=fun k hk=>Gh.put_ne g _ _ hk
 have bN:blksD (g.put dn u' lq) n ⟨d.e,d.t,d.l,d.wr,d.fresh,some p⟩=blks true (.row d.e d.t) (some p) d.l (g.G n d.t):=by unfold blksD;rw[hG0 n hne,hw]
 have bD:blksD (g.put dn u' lq) dn ⟨e',u',y,true,d.fresh,none⟩=blks true (.row e' u') none y lq:=by unfold blksD;rw[Gh.put_same]
 have s1:∀k,k∈blks true (.row d.e d.t) (some p) d.l (g.G n d.t)→k∈blksD g n d:=fun k hk=>by unfold blksD;rw[hh,hw];exact (blks_lend _ _ _ _).subset hk
 have s2:∀k,k∈blks true (.row e' u') none y lq→k∈blksD g n d:=fun k hk=>by unfold blksD;rw[hh,hw];exact PL_blks (own:=true) _ _ _ _ _ _ _ hP k hk
 have s3:∀k,k∈blks true (.row d.e d.t) (some p) d.l (g.G n d.t)→k∉blks true (.row e' u') none y lq:=fun k hk=>blks_apart (own:=true) _ _ _ _ _ _ _ hP rfl hs k hk
 have s4:(blks true (.row e' u') none y lq).Nodup:=by
  exact PL_nodup _ _ _ _ _ _ _ hP hs
 refine h.step _ none undef _ w (fun sv u hr hh'=>?_) trivial ?_ ?_ ?_ ?_ h.frame (fun k d0 hk hf0=>?_)
 ·refine SRel.keep (fun k x hx _ hl=>?_) (fun k d0 hd0 _ hl=>?_) (fun k e0 q wn hb hl=>?_) hr hh'
  ·have hkn:k≠n:=fun q=>hl (by simp[q])
   obtain⟨e1,e2⟩:=hkeep k x hx hkn
   exact⟨e1,hG0 k e2,rfl⟩
  ·obtain rfl:k=n:=by simpa using hl
   rw[hd] at hd0
   obtain rfl:=Option.some.inj hd0
   refine⟨⟨d.e,d.t,d.l,d.wr,d.fresh,some p⟩,?_,fun Q hQ=>⟨Q,?_,fun _ _ _ q=>q⟩,rfl,fun q Q hc hQ=>⟨Q,?_,rfl,rfl,hc⟩⟩
   ·rw[←datAt_ob,hob k,if_neg hne,if_pos rfl]
   ·unfold rootPL at hQ ⊢;rw[hG0 k hne];exact hQ
   ·unfold rootPL at hQ ⊢;rw[hG0 k hne];exact hQ
  ·obtain rfl:k=n:=by simpa using hl
   rw[hn] at hb
   cases hb
 ·intro k d0 hk
  rcases hold k _ (datAt_ob.2 hk) with⟨rfl,e⟩|⟨rfl,e⟩|⟨e1,e2,e3⟩
  ·cases e
   rw[Gh.put_same]
   exact hmq
  ·cases e
   rw[hG0 k hne]
   simp only[hw]
   exact memH_lend _ _ _ _ hm
  ·rw[hG0 k e1]
   exact h.dat k d0 (datAt_ob.1 e3)
 ·intro k e0 q wn hk
  rcases hold k _ hk with⟨rfl,e⟩|⟨rfl,e⟩|⟨e1,e2,e3⟩
  ·cases e
  ·cases e
  ·obtain⟨d1,u,q1,q2,q3,q4⟩:=h.bx k e0 q wn e3
   have hqn:q≠n:=fun e=>by
    rw[e,hd] at q1
    obtain rfl:=Option.some.inj q1
    rw[hw] at q2;cases q2
   obtain⟨e4,e5⟩:=hkeep q _ (datAt_ob.2 q1) hqn
   refine⟨d1,u,datAt_ob.1 e4,q2,q3,q4.keep (fun d2 hd2=>?_)⟩
   rw[q1] at hd2
   obtain rfl:=Option.some.inj hd2
   exact⟨datAt_ob.1 e4,hG0 q e5⟩
 ·intro k d0 hk hwr
  have old:∀j x,j≠dn→j≠n→obAt s.objs j=some x→blksO (g.put dn u' lq) j x=blksO g j x:=fun j x hj _ _=>blksO_put_ne g _ _ hj x
  rcases hold k _ (datAt_ob.2 hk) with⟨rfl,e⟩|⟨rfl,e⟩|⟨e1,e2,e3⟩
  ·cases e
   rw[bD]
   refine⟨s4,fun n' x hne' hx b hb1 hb2=>?_⟩
   rcases hold n' x hx with⟨e,_⟩|⟨rfl,e⟩|⟨q1,q2,q3⟩
   ·exact hne' e
   ·cases e
    replace hb2:b∈blksD (g.put k u' lq) n' _:=hb2
    rw[bN] at hb2
    exact s3 b hb2 hb1
   ·rw[old n' x q1 q2 q3] at hb2
    exact (h.sep n d hd hw).2 n' x q2 q3 b (s2 b hb1) hb2
  ·cases e
   rw[bN]
   refine⟨(blks_lend _ _ _ _).nodup hs,fun n' x hne' hx b hb1 hb2=>?_⟩
   rcases hold n' x hx with⟨rfl,e⟩|⟨e,_⟩|⟨q1,q2,q3⟩
   ·cases e
    replace hb2:b∈blksD (g.put n' u' lq) n' _:=hb2
    rw[bD] at hb2
    exact s3 b hb1 hb2
   ·exact hne' e
   ·rw[old n' x q1 q2 q3] at hb2
    exact (h.sep k d hd hw).2 n' x q2 q3 b (s1 b hb1) hb2
  ·have eb:blksD (g.put dn u' lq) k d0=blksD g k d0:=by unfold blksD;rw[hG0 k e1]
   rw[eb]
   obtain⟨t1,t2⟩:=h.sep k d0 (datAt_ob.1 e3) hwr
   refine⟨t1,fun n' x hne' hx b hb1 hb2=>?_⟩
   rcases hold n' x hx with⟨rfl,e⟩|⟨rfl,e⟩|⟨q1,q2,q3⟩
   ·cases e
    replace hb2:b∈blksD (g.put n' u' lq) n' _:=hb2
    rw[bD] at hb2
    exact t2 n _ (Ne.symm e2) hn b hb1 (s2 b hb2)
   ·cases e
    replace hb2:b∈blksD (g.put dn u' lq) n' _:=hb2
    rw[bN] at hb2
    exact t2 n' _ (Ne.symm e2) hn b hb1 (s1 b hb2)
   ·rw[old n' x q1 q2 q3] at hb2
    exact t2 n' x hne' q3 b hb1 hb2
 ·intro k d0 hk hwr b hb
  rcases hold k _ (datAt_ob.2 hk) with⟨rfl,e⟩|⟨rfl,e⟩|⟨e1,e2,e3⟩
  ·cases e
   rw[bD] at hb
   have:=h.fresh n d hd hw b (s2 b hb)
   exact this
  ·cases e
   rw[bN] at hb
   exact h.fresh k d hd hw b (s1 b hb)
  ·have eb:blksD (g.put dn u' lq) k d0=blksD g k d0:=by unfold blksD;rw[hG0 k e1]
   rw[eb] at hb
   exact h.fresh k d0 (datAt_ob.1 e3) hwr b hb
 ·by_cases hkn:k=n
  ·subst hkn
   rw[hd] at hk
   obtain rfl:=Option.some.inj hk
   exact⟨⟨d.e,d.t,d.l,d.wr,d.fresh,some p⟩,datAt_ob.1 (by rw[hob k,if_neg hne,if_pos rfl]),rfl,rfl,rfl,hf0,rfl,by rw[hG0 k hne]⟩
  ·obtain⟨e1,e2⟩:=hkeep k _ (datAt_ob.2 hk) hkn
   exact⟨d0,datAt_ob.1 e1,rfl,rfl,rfl,hf0,rfl,by rw[hG0 k e2]⟩
theorem R.lend(h:R m w0 MB s g a w){n dn:Nat}{d:Dat}{p:List Stp}{e':TypeId}{u':Ty}{y:List u'.den}{lq:(Ty.row e' u').loc}{bq oq:Nat}(hd:datAt s.objs n=some d)(hw:d.wr=true)(hfr:d.fresh=true)(hh:d.hole=none)(hp:p≠[])
  (hP:rootPL g n d p=some ⟨.row e' u',y,lq,bq,oq⟩) (hdn:dn<s.objs.length) (hdn2:obAt s.objs dn=none):
  R m w0 MB (Eff.on { v:=.dead,upd:=[(n,some (.dat ⟨d.e,d.t,d.l,d.wr,d.fresh,some p⟩)),(dn,some (.dat ⟨e',u',y,true,true,none⟩))],loose:=[n] } none s) (g.put dn u' lq) (a.put none undef) w:=by
 have:=h.lendF hd hw hh hp hP hdn hdn2
 rw[hfr] at this
 rw[hfr]
 exact this
theorem append_inner_holds(T:TTok P E)(h:R m w0 MB s g a w){o:Oper}{c:Call}{t e:TypeId}{x y:Operand}(ho:o.op = .call c)(hc:c.callee = .builtin .append)(ha:c.args.toList=[x,y])(hat:c.argTypes.toList=[t,t])
  {n:Nat} {p:List Stp} {wn:Win} {d:Dat} (hd:datAt s.objs n=some d) (hw:d.wr=true) (hfr:d.fresh=true) (hh:d.hole=none) (hp:p≠[]) {e':TypeId} {u:Ty} {l:List u.den} (hg:getP (.row d.e d.t) d.l p=some ⟨.row e' u,l⟩)
  (ht:E.TT t=some (.row e u)) (hsm:E.small e=true) (hx:SlRel s.objs g n p wn (a.eval x)) {l2:List u.den} {ks:List Nat} {sv:SV} (hsv:SRel s.objs g sv (a.eval y)) (hap:appended s.objs sv u=some (l2,ks)) (hne:nameIn sv n=false)
  (hlim:(wn.cut l).length+l2.length≤LIM) {dn:Nat} (hdn:dn<s.objs.length) (hdn2:obAt s.objs dn=none):
  Holds P m w0 MB s g o a w { v:=.sl dn [] none,upd:=[(n,some (.dat ⟨d.e,d.t,d.l,d.wr,d.fresh,some p⟩)),(dn,some (.dat ⟨e',u,l,true,true,none⟩))]++((ks++[dn]).map (fun k=>(k,none))++[(dn,some (.dat ⟨e,u,wn.cut l++l2,true,true,none⟩))]),kill:=ks++[dn],loose:=[n] }:=by
 obtain⟨d',Q,sz,hd',tot,g1,g2,g3,g4,g5⟩:=hx
 rw[hd] at g1
 obtain rfl:=Option.some.inj g1
 have eQ:=getP_of_PL _ _ _ _ _ _ _ g3
 rw[hg] at eQ
 obtain⟨uq,yq,lq,bq,oq⟩:=Q
 simp only[Option.some.injEq,Sigma.mk.injEq] at eQ
 obtain⟨rfl,eQ⟩:=eQ
 obtain rfl:=eq_of_heq eQ
 simp only[hdrP,Option.some.injEq,Prod.mk.injEq] at g4
 obtain⟨rfl,rfl,rfl⟩:=g4
 have h1:=h.lend hd hw hfr hh hp g3 hdn hdn2
 generalize hs1:Eff.on { v:=.dead,upd:=[(n,some (.dat ⟨d.e,d.t,d.l,d.wr,d.fresh,some p⟩)),(dn,some (.dat ⟨e',u,l,true,true,none⟩))],loose:=[n] } none s=s1 at h1
 have hn:obAt s.objs n=some (.dat d):=datAt_ob.2 hd
 have hnd:n≠dn:=fun q=>by rw[q,hdn2] at hn;cases hn
 have hobj:s1.objs=(s.objs.set n (some (.dat ⟨d.e,d.t,d.l,d.wr,d.fresh,some p⟩))).set dn (some (.dat ⟨e',u,l,true,true,none⟩)):=by rw[←hs1];rfl
 have hob:∀k,obAt s1.objs k=if k=dn then some (.dat ⟨e',u,l,true,true,none⟩) else if k=n then some (.dat ⟨d.e,d.t,d.l,d.wr,d.fresh,some p⟩) else obAt s.objs k:=fun k=>by
  rw[hobj,obAt_set _ _ _ _ (by simpa using hdn),obAt_set _ _ _ _ (obAt_lt hn)]
 have hput:a.put none undef=a:=rfl
 rw[hput] at h1
 have hdD:datAt s1.objs dn=some ⟨e',u,l,true,true,none⟩:=by rw[←datAt_ob,hob dn,if_pos rfl]
 have hne':∀k,nameIn sv k=true→k≠n∧k≠dn:=fun k hk=>by
  refine⟨fun q=>(by rw[q,hne] at hk;cases hk),fun q=>?_⟩
  have:=appended_at hap k hk
  have e0:datAt s.objs dn=none:=by unfold datAt;rw[hdn2]
  rw[q,e0] at this;cases this
 have hx1:SlRel s1.objs (g.put dn u lq) dn [] wn (a.eval x):=by
  rw[hw] at g5
  exact⟨_,_,_,_,_,hdD,fun _=>rfl,getPL_nil _ _ _ _ _,rfl,by rw[Gh.put_same];exact g5⟩
 have hsv1:SRel s1.objs (g.put dn u lq) sv (a.eval y):=by
  cases sv with
  |sl k q wk=>
   obtain⟨k1,k2⟩:=hne' k (by simp[nameIn])
   refine SlRel.keep hsv (fun d2 hd2=>⟨?_,Gh.put_ne g _ _ k2⟩)
   rw[←datAt_ob,hob k,if_neg k2,if_neg k1]
   exact datAt_ob.2 hd2
  |nil=>exact hsv
  |_=>cases hap
 have hap1:appended s1.objs sv u=some (l2,ks):=by
  rw[←hap]
  refine appended_congr (fun k hk=>?_)
  obtain⟨k1,k2⟩:=hne' k hk
  rw[hob k,if_neg k2,if_neg k1]
 have hneD:nameIn sv dn=false:=by
  cases hq:nameIn sv dn with
  |false=>rfl
  |true=>exact absurd rfl (hne' dn hq).2
 have main:=append_root_holds T h1 ho hc ha hat (n:=dn) (wn:=wn) hdD rfl rfl rfl ht hsm hx1 hsv1 hap1 hneD hlim (dn:=dn) (by rw[hobj];simpa using hdn) (.inr (by simp))
 have e1:∀dst,Eff.on { v:=.sl dn [] none,upd:=[(n,some (.dat ⟨d.e,d.t,d.l,d.wr,d.fresh,some p⟩)),(dn,some (.dat ⟨e',u,l,true,true,none⟩))]++((ks++[dn]).map (fun k=>(k,none))++[(dn,some (.dat ⟨e,u,wn.cut l++l2,true,true,none⟩))]),kill:=ks++[dn],loose:=[n] } dst s =
   Eff.on { v:=.sl dn [] none,upd:=(ks++[dn]).map (fun k=>(k,none))++[(dn,some (.dat ⟨e,u,wn.cut l++l2,true,true,none⟩))],kill:=ks++[dn] } dst s1:=by
  intro dst
  rw[←hs1]
  unfold Eff.on
  simp only[swept_swept]
  congr 1
 unfold Holds at main ⊢
 rw[e1]
 intro next Q hq
 exact main next Q (fun v w' ⟨g',hg'⟩=>hq v w' ⟨g',hg'⟩)
end
end Go.Proofs.Ytlipfbihlmlplaa.G
namespace Go.Proofs.Ytlipfbihlmlplaa.G
open Go Go.RowKit
set_option linter.unusedVariables false
set_option linter.unusedSimpArgs false
section
variable {P:Program} {E:Env} {m:Nat} {w0:World} {MB:Out} {s:St} {g:Gh} {a:Act} {w:World} {α:Type}
theorem append_holds(T:TTok P E)(h:R m w0 MB s g a w){o:Oper}{c:Call}{t:TypeId}{x y:Operand}(ho:o.op = .call c)(hc:c.callee = .builtin .append)(ha:c.args.toList=[x,y])(hat:c.argTypes.toList=[t,t])
  {dn dn2:Nat} {K:Eff→Option α} {r:α} (hK:effAppend E s.objs dn t (evalO s.slots x) (evalO s.slots y) K=some r):∃e,K e=some r∧(newOk e s.objs dn dn2=true→Holds P m w0 MB s g o a w e):=by
 unfold effAppend at hK
 split at hK
 ·rename_i e u ht
  split at hK
  ·rename_i l2 ks hap hsm
   split at hK
   ·rename_i hx
    have hx':=h.eval x
    rw[hx] at hx'
    by_cases hl:l2.length≤LIM
    ·rw[decide_eq_true hl] at hK
     refine⟨_,hK,fun hn=>?_⟩
     exact append_nil_holds T h ho hc ha hat ht hsm hx' hap hl (newOk_dn hn (x:=some (.dat ⟨e,u,l2,true,true,none⟩)) (by simp))
    ·rw[decide_eq_false hl] at hK;cases hK
   ·rename_i n p wn hx
    have hx':=h.eval x
    rw[hx] at hx'
    split at hK
    ·rename_i d hd hne
     split at hK
     ·rename_i hw hh
      simp only[Bool.and_eq_true] at hw
      split at hK
      ·split at hK
       ·rename_i e1
        subst e1
        by_cases hl:(wn.cut d.l).length+l2.length≤LIM
        ·rw[decide_eq_true hl] at hK
         refine⟨_,hK,fun hn=>?_⟩
         obtain⟨k1,k2⟩:=newOk_dn hn (x:=some (.dat ⟨e,d.t,wn.cut d.l++l2,true,true,none⟩)) (by simp)
         exact append_root_holds T h ho hc ha hat hd hw.1 hw.2 hh ht hsm hx' (h.eval y) hap hne hl k1 (.inl k2)
        ·rw[decide_eq_false hl] at hK;cases hK
       ·cases hK
      ·split at hK
       ·rename_i e' u' l hg
        split at hK
        ·rename_i e1
         subst e1
         split at hK
         ·rename_i hf hnp
          by_cases hl:(wn.cut l).length+l2.length≤LIM
          ·rw[decide_eq_true hl] at hK
           refine⟨_,hK,fun hn=>?_⟩
           obtain⟨k1,k2⟩:=newOk_dn hn (x:=some (.dat ⟨e,u',wn.cut l++l2,true,true,none⟩)) (by simp)
           refine append_inner_holds T h ho hc ha hat hd hw.1 hw.2 hh ?_ hg ht hsm hx' (h.eval y) hap hne hl k1 k2
           intro q;subst q;cases hnp
          ·rw[decide_eq_false hl] at hK;cases hK
         ·cases hK
        ·cases hK
       ·cases hK
     ·cases hK
    ·cases hK
   ·cases hK
  ·cases hK
 ·cases hK
end
end Go.Proofs.Ytlipfbihlmlplaa.G
namespace Go.Proofs.Ytlipfbihlmlplaa.G
open Go Go.RowKit
set_option linter.unusedVariables false
set_option linter.unusedSimpArgs false
theorem root_put{w w':World}{own:Bool}{e:TypeId}{t:Ty}{hh:Option (List Stp)}{x:List t.den}{l:Hdr×(Nat→t.loc)}{i:Nat}{p:List Stp}{P:Pl}{y':P.u.den}{ly':P.u.loc}{x':List t.den}
  (q:HoleAt hh (.idx i::p)) (h:getPL (.row e t) x l 0 0 (.idx i::p)=some P) (hs:setP (.row e t) x (.idx i::p) P.u y'=some x') (m:memH w own (.row e t) hh x l) (nd:(blks own (.row e t) hh x l).Nodup)
  (W:Wrote w w' P.b P.o P.u.size) (r':w'.rangeAt P.b P.o (cells P.u y' ly')) (m':memH w' own P.u none y' ly') (nd':(blks own P.u none y' ly').Nodup)
  (hk:∀k,k∈blks own P.u none y' ly'→k∈blks own (.row e t) hh x l→hh=none∧k∈blks own P.u none P.y P.l):
  ∃l',setL (.row e t) l (.idx i::p) P.u ly'=some l'∧memH w' own (.row e t) none x' l'∧(blks own (.row e t) none x' l').Nodup ∧
   ∀k,k∈blks own (.row e t) none x' l'→k∈blks own P.u none y' ly'∨k∈blks own (.row e t) hh x l:=by
 unfold setP at hs
 split at hs
 ·rename_i z hz
  obtain rfl:=Option.some.inj hs
  unfold getPL at h
  split at h
  ·rename_i hi
   split at h
   ·rename_i a ha
    have hl:¬lent hh=true:=by simp[q.not_lent]
    have m:=m.resolve_left hl
    obtain⟨b',o',e',hlt,hr⟩:=m.1.at_ (by omega)
    rw[ha] at e'
    obtain rfl:=Option.some.inj e'
    have hd:hdrBlk own l.1 (List.length x)=[b']:=by unfold hdrBlk;rw[ha];exact if_pos (.inr (by omega))
    simp only[blks,if_neg hl,hd] at nd hk
    simp only[List.nodup_cons,List.mem_append,List.mem_singleton,not_or,List.nodup_append,List.nodup_nil,List.not_mem_nil,not_false_eq_true,true_and] at nd
    obtain⟨nd1,nd2⟩:=nd
    have nb':b'∉(List.range (List.length x)).flatMap fun j=>blks own t (sub hh (.idx j)) (List.getD x j t.dflt) (l.2 j):=fun hb=>nd2 b' (by simp) b' hb rfl
    have nbi:b'∉blks own t (sub hh (.idx i)) (List.getD x i t.dflt) (l.2 i):=fun hb=>nb' (List.mem_flatMap.2 ⟨i,List.mem_range.2 hi,hb⟩)
    have hw:=PL_where (own:=own) t _ _ _ _ _ p P q.sub_idx h
    have hk':∀k,k∈blks own P.u none y' ly'→k≠b':=fun k hk1 e2=>by
     subst e2
     obtain⟨e3,h5⟩:=hk k hk1 (by simp)
     subst e3
     exact nbi (PL_blks t _ _ _ _ p P h k h5)
    obtain⟨lz,e1,r1,m1,n1,k1⟩:=PL_put t _ (List.getD x i t.dflt) (l.2 i) b' _ p P y' ly' z q.sub_idx h hz (m.2 i hi) ((rangeAt_flatMap _ _ (fun i=>cells_length t _ _) _).1 hr i hi)
     (List.nodup_cons.2 ⟨nbi,nodup_flatMap_one nd1 i hi⟩) W r' m' nd'
     (fun k hk1=>⟨hk' k hk1,fun hin=>by
      obtain⟨e1,h5⟩:=hk k hk1 (List.mem_append_right _ (List.mem_flatMap.2 ⟨i,List.mem_range.2 hi,hin⟩))
      exact⟨by rw[e1];rfl,h5⟩⟩)
    obtain⟨g1,g2,g3,g4,g5⟩:=run_put q hi rfl h m.2 hr nb' nd1 W (fun k hk1 hk2=>hk k hk1 (List.mem_append_right _ hk2)) r1 m1 n1 k1
    have hlen:List.length (List.set x i z)=List.length x:=List.length_set
    refine⟨(l.1,updF l.2 i lz),by unfold setL;rw[e1];rfl,?_,?_,?_⟩
    ·refine .inr ⟨⟨by rw[hlen];exact m.1.le,fun _=>⟨b',o',ha,by rw[W.size];exact hlt,by simp only[rowCells,hlen];exact g1⟩,fun ho hc=>?_⟩,fun j hj=>by rw[hlen] at hj;exact g2 j hj⟩
     obtain⟨b2,o2,arr,e2,h6,h7,h8⟩:=m.1.own ho hc
     obtain⟨arr',e3,h9,h10⟩:=W.own ⟨arr,e2,h7,h8⟩
     exact⟨b2,o2,arr',e3,h6,h9,h10⟩
    ·simp only[blks,lent,Bool.false_eq_true,if_false,hlen,hd]
     simp only[List.nodup_cons,List.mem_append,List.mem_singleton,not_or,List.nodup_append,List.nodup_nil,List.not_mem_nil,not_false_eq_true,true_and]
     refine⟨g4,fun k hk1 k2 hk2 e2=>?_⟩
     subst hk1
     subst e2
     exact g3 hk2
    ·intro k hk1
     simp only[blks,lent,Bool.false_eq_true,if_false,hlen,hd] at hk1
     simp only[blks,if_neg hl,hd]
     rcases List.mem_append.1 hk1 with h4|h4
     ·exact .inr (List.mem_append_left _ h4)
     ·rcases g5 k h4 with h5|h5
      ·exact .inl h5
      ·exact .inr (List.mem_append_right _ h5)
   ·cases h
  ·cases h
 ·cases hs
theorem own_blk{w:World}:∀(t:Ty) (h:Option (List Stp)) (x:t.den) (l:t.loc),memH w true t h x l→∀k,k∈blks true t h x l→∃arr e,w.heap[k]? = some (.cells arr e (0,0))
 |.int _,_,_,_,_,_,hk=>by cases hk
 |.bool,_,_,_,_,_,hk=>by cases hk
 |.str,_,_,_,_,_,hk=>by cases hk
 |.pair a b,h,x,l,m,k,hk=>by
  rcases List.mem_append.1 hk with hk|hk
  ·exact own_blk a _ _ _ m.1 k hk
  ·exact own_blk b _ _ _ m.2 k hk
 |.st t,h,x,l,m,k,hk=>own_blk t h x l m k hk
 |.arr n t,h,x,l,m,k,hk=>by
  obtain⟨i,hi,hk⟩:=List.mem_flatMap.1 hk
  exact own_blk t _ _ _ (m.2 i (List.mem_range.1 hi)) k hk
 |.row e t,h,x,l,m,k,hk=>by
  simp only[blks] at hk
  split at hk
  ·cases hk
  ·rename_i hl
   have m:=m.resolve_left hl
   rcases List.mem_append.1 hk with hk|hk
   ·unfold hdrBlk at hk
    split at hk
    ·rename_i ad ha
     split at hk
     ·rename_i hc
      obtain rfl:=List.mem_singleton.1 hk
      have hcap:0<l.1.cap:=by
       rcases hc with⟨_,q⟩|q
       ·exact q
       ·exact Nat.lt_of_lt_of_le q m.1.le
      obtain⟨b,o,arr,e',q1,q2,_⟩:=m.1.own rfl hcap
      rw[ha] at q1
      obtain rfl:=Option.some.inj q1
      exact⟨arr,e',q2⟩
     ·cases hk
    ·cases hk
   ·obtain⟨i,hi,hk⟩:=List.mem_flatMap.1 hk
    exact own_blk t _ _ _ (m.2 i (List.mem_range.1 hi)) k hk
theorem PL_there{w:World}{own:Bool}:∀(t:Ty) (hh:Option (List Stp)) (x:t.den) (l:t.loc) (b o:Nat) (p:List Stp) (P:Pl),HoleAt hh p→getPL t x l b o p=some P→memH w own t hh x l→w.rangeAt b o (cells t x l)→w.rangeAt P.b P.o (cells P.u P.y P.l)
 |t,hh,x,l,b,o,[],P,q,h,m,r=>by
  have e:P=⟨t,x,l,b,o⟩:=by unfold getPL at h;cases t<;>exact (Option.some.inj h).symm
  subst e
  exact r
 |.st t,hh,x,l,b,o,s::p,P,q,h,m,r=>PL_there t hh x l b o (s::p) P q h m r
 |.pair a c,hh,x,l,b,o,.fst::p,P,q,h,m,r=>PL_there a _ x.1 l.1 b o p P q.sub_fst.1 h m.1 (rangeAt_append.1 r).1
 |.pair a c,hh,x,l,b,o,.snd::p,P,q,h,m,r=>PL_there c _ x.2 l.2 b _ p P q.sub_snd.1 h m.2 (by have:=(rangeAt_append.1 r).2;rwa[cells_length] at this)
 |.arr n t,hh,x,l,b,o,.idx i::p,P,q,h,m,r=>by
  unfold getPL at h
  split at h
  ·rename_i hi
   exact PL_there t _ _ _ b _ p P q.sub_idx h (m.2 i hi) ((rangeAt_flatMap _ _ (fun i=>cells_length t _ _) n).1 r i hi)
  ·cases h
 |.row _ t,hh,x,l,b,o,.idx i::p,P,q,h,m,r=>by
  unfold getPL at h
  split at h
  ·rename_i hi
   split at h
   ·rename_i a ha
    have m:=m.resolve_left (by simp[q.not_lent])
    obtain⟨b',o',e,hlt,hr⟩:=m.1.at_ (by omega)
    rw[ha] at e
    obtain rfl:=Option.some.inj e
    exact PL_there t _ _ _ _ _ p P q.sub_idx h (m.2 i hi) ((rangeAt_flatMap _ _ (fun i=>cells_length t _ _) _).1 hr i hi)
   ·cases h
  ·cases h
 |.int _,_,_,_,_,_,_::_,_,_,h,_,_=>by cases h
 |.bool,_,_,_,_,_,_::_,_,_,h,_,_=>by cases h
 |.str,_,_,_,_,_,_::_,_,_,h,_,_=>by cases h
 |.pair _ _,_,_,_,_,_,.idx _::_,_,_,h,_,_=>by cases h
 |.arr _ _,_,_,_,_,_,.fst::_,_,_,h,_,_=>by cases h
 |.arr _ _,_,_,_,_,_,.snd::_,_,_,h,_,_=>by cases h
 |.row _ _,_,_,_,_,_,.fst::_,_,_,h,_,_=>by cases h
 |.row _ _,_,_,_,_,_,.snd::_,_,_,h,_,_=>by cases h
theorem PL_out{own:Bool}:∀(t:Ty) (x:t.den) (l:t.loc) (b o:Nat) (p:List Stp) (P:Pl),getPL t x l b o p=some P→(b::blks own t none x l).Nodup→P.b∉blks own P.u none P.y P.l
 |t,x,l,b,o,[],P,h,nd=>by
  have e:P=⟨t,x,l,b,o⟩:=by unfold getPL at h;cases t<;>exact (Option.some.inj h).symm
  subst e
  exact (List.nodup_cons.1 nd).1
 |.st t,x,l,b,o,s::p,P,h,nd=>PL_out t x l b o (s::p) P h nd
 |.pair a c,x,l,b,o,.fst::p,P,h,nd=>by
  simp only[blks,List.nodup_cons,List.mem_append,List.nodup_append,not_or] at nd
  exact PL_out a x.1 l.1 b o p P h (List.nodup_cons.2 ⟨nd.1.1,nd.2.1⟩)
 |.pair a c,x,l,b,o,.snd::p,P,h,nd=>by
  simp only[blks,List.nodup_cons,List.mem_append,List.nodup_append,not_or] at nd
  exact PL_out c x.2 l.2 b _ p P h (List.nodup_cons.2 ⟨nd.1.2,nd.2.2.1⟩)
 |.arr n t,x,l,b,o,.idx i::p,P,h,nd=>by
  unfold getPL at h
  split at h
  ·rename_i hi
   have nd:=List.nodup_cons.1 nd
   exact PL_out t _ _ b _ p P h (List.nodup_cons.2 ⟨fun hb=>nd.1 (List.mem_flatMap.2 ⟨i,List.mem_range.2 hi,hb⟩),nodup_flatMap_one nd.2 i hi⟩)
  ·cases h
 |.row _ t,x,l,b,o,.idx i::p,P,h,nd=>by
  unfold getPL at h
  split at h
  ·rename_i hi
   split at h
   ·rename_i a ha
    have hd:hdrBlk own l.1 (List.length x)=[a.block]:=by unfold hdrBlk;rw[ha];exact if_pos (.inr (by omega))
    have nd:=(List.nodup_cons.1 nd).2
    simp only[blks,lent,Bool.false_eq_true,if_false,hd,List.nodup_append] at nd
    exact PL_out t _ _ _ _ p P h (List.nodup_cons.2 ⟨fun hb=>nd.2.2 a.block (by simp) _ (List.mem_flatMap.2 ⟨i,List.mem_range.2 hi,hb⟩) rfl,nodup_flatMap_one nd.2.1 i hi⟩)
   ·cases h
  ·cases h
 |.int _,_,_,_,_,_::_,_,h,_=>by cases h
 |.bool,_,_,_,_,_::_,_,h,_=>by cases h
 |.str,_,_,_,_,_::_,_,h,_=>by cases h
 |.pair _ _,_,_,_,_,.idx _::_,_,h,_=>by cases h
 |.arr _ _,_,_,_,_,.fst::_,_,h,_=>by cases h
 |.arr _ _,_,_,_,_,.snd::_,_,h,_=>by cases h
 |.row _ _,_,_,_,_,.fst::_,_,h,_=>by cases h
 |.row _ _,_,_,_,_,.snd::_,_,h,_=>by cases h
theorem PL_shape:∀(t:Ty) (x x':t.den) (l l':t.loc) (b o:Nat) (p:List Stp) (P:Pl),getPL t x l b o p=some P→crosses t p=false→∃P',getPL t x' l' b o p=some P'∧P'.b=P.b∧P'.o=P.o∧P'.u=P.u
 |t,x,x',l,l',b,o,[],P,h,hc=>by
  have e:P=⟨t,x,l,b,o⟩:=by unfold getPL at h;cases t<;>exact (Option.some.inj h).symm
  subst e
  exact⟨⟨t,x',l',b,o⟩,getPL_nil _ _ _ _ _,rfl,rfl,rfl⟩
 |.st t,x,x',l,l',b,o,s::p,P,h,hc=>PL_shape t x x' l l' b o (s::p) P h hc
 |.pair a c,x,x',l,l',b,o,.fst::p,P,h,hc=>PL_shape a _ _ _ _ b o p P h hc
 |.pair a c,x,x',l,l',b,o,.snd::p,P,h,hc=>PL_shape c _ _ _ _ b _ p P h hc
 |.arr n t,x,x',l,l',b,o,.idx i::p,P,h,hc=>by
  unfold getPL at h ⊢
  split at h
  ·rename_i hi
   rw[if_pos hi]
   exact PL_shape t _ _ _ _ b _ p P h hc
  ·cases h
 |.row _ t,x,x',l,l',b,o,.idx i::p,P,h,hc=>by cases hc
 |.int _,_,_,_,_,_,_,_::_,_,h,_=>by cases h
 |.bool,_,_,_,_,_,_,_::_,_,h,_=>by cases h
 |.str,_,_,_,_,_,_,_::_,_,h,_=>by cases h
 |.pair _ _,_,_,_,_,_,_,.idx _::_,_,h,_=>by cases h
 |.arr _ _,_,_,_,_,_,_,.fst::_,_,h,_=>by cases h
 |.arr _ _,_,_,_,_,_,_,.snd::_,_,h,_=>by cases h
 |.row _ _,_,_,_,_,_,_,.fst::_,_,h,_=>by cases h
 |.row _ _,_,_,_,_,_,_,.snd::_,_,h,_=>by cases h
theorem flat_crosses:∀(t:Ty) (x:t.den) (l:t.loc) (b o:Nat) (p:List Stp) (P:Pl),getPL t x l b o p=some P→t.flat=true→crosses t p=false∧P.u.flat=true
 |t,x,l,b,o,[],P,h,hf=>by
  have e:P=⟨t,x,l,b,o⟩:=by unfold getPL at h;cases t<;>exact (Option.some.inj h).symm
  subst e
  exact⟨by cases t<;>rfl,hf⟩
 |.st t,x,l,b,o,s::p,P,h,hf=>flat_crosses t x l b o (s::p) P h hf
 |.pair a c,x,l,b,o,.fst::p,P,h,hf=>flat_crosses a _ _ b o p P h (by simp only[Ty.flat,Bool.and_eq_true] at hf;exact hf.1)
 |.pair a c,x,l,b,o,.snd::p,P,h,hf=>flat_crosses c _ _ b _ p P h (by simp only[Ty.flat,Bool.and_eq_true] at hf;exact hf.2)
 |.arr n t,x,l,b,o,.idx i::p,P,h,hf=>by
  unfold getPL at h
  split at h
  ·exact flat_crosses t _ _ b _ p P h hf
  ·cases h
 |.row _ t,x,l,b,o,.idx i::p,P,h,hf=>by cases hf
 |.int _,_,_,_,_,_::_,_,h,_=>by cases h
 |.bool,_,_,_,_,_::_,_,h,_=>by cases h
 |.str,_,_,_,_,_::_,_,h,_=>by cases h
 |.pair _ _,_,_,_,_,.idx _::_,_,h,_=>by cases h
 |.arr _ _,_,_,_,_,.fst::_,_,h,_=>by cases h
 |.arr _ _,_,_,_,_,.snd::_,_,h,_=>by cases h
 |.row _ _,_,_,_,_,.fst::_,_,h,_=>by cases h
 |.row _ _,_,_,_,_,.snd::_,_,h,_=>by cases h
def hdrSame(Q Q':Pl):Prop:=Q'.b=Q.b∧Q'.o=Q.o∧∀z,hdrP Q=some z→hdrP Q'=some z
theorem hdrSame.refl(Q:Pl):hdrSame Q Q:=⟨rfl,rfl,fun _ h=>h⟩
theorem hdrSame_flat{Q Q':Pl}(h1:Q'.b=Q.b)(h2:Q'.o=Q.o)(h3:Q'.u=Q.u)(hf:Q.u.flat=true):hdrSame Q Q':=by
 refine⟨h1,h2,fun z hz=>?_⟩
 obtain⟨u,y,l,b,o⟩:=Q
 obtain⟨u',y',l',b',o'⟩:=Q'
 simp only at h1 h2 h3 hf
 subst h1 h2 h3
 cases u'<;>first|(cases hz;done)|(cases hf;done)|exact hz
theorem flat_keep{w:World}{own:Bool}:∀(t:Ty) (x:t.den) (l:t.loc) (b o:Nat) (p:List Stp) (P:Pl) (y':P.u.den) (ly':P.u.loc) (x':t.den) (l':t.loc),getPL t x l b o p=some P→P.u.flat=true →
  setP t x p P.u y'=some x'→setL t l p P.u ly'=some l'→memH w own t none x l→∀(q:List Stp) (Q:Pl),getPL t x l b o q=some Q→∃Q',getPL t x' l' b o q=some Q'∧hdrSame Q Q'
 |t,x,l,b,o,[],P,y',ly',x',l',h,hf,hs,hl,m,q,Q,hq=>by
  have e:P=⟨t,x,l,b,o⟩:=by unfold getPL at h;cases t<;>exact (Option.some.inj h).symm
  subst e
  obtain⟨c1,c2⟩:=flat_crosses t x l b o q Q hq hf
  obtain⟨Q',e1,e2,e3,e4⟩:=PL_shape t x x' l l' b o q Q hq c1
  exact⟨Q',e1,hdrSame_flat e2 e3 e4 c2⟩
 |.st t,x,l,b,o,s::p,P,y',ly',x',l',h,hf,hs,hl,m,q,Q,hq=>by
  cases q with
  |nil=>
   rw[getPL_nil] at hq
   obtain rfl:=Option.some.inj hq
   exact⟨_,getPL_nil _ _ _ _ _,rfl,rfl,fun z hz=>by cases hz⟩
  |cons r q=>exact flat_keep t x l b o (s::p) P y' ly' x' l' h hf hs hl m (r::q) Q hq
 |.pair a c,x,l,b,o,.fst::p,P,y',ly',x',l',h,hf,hs,hl,m,q,Q,hq=>by
  unfold setP at hs
  split at hs
  ·rename_i z hz
   obtain rfl:=Option.some.inj hs
   unfold setL at hl
   obtain⟨lz,hlz,rfl⟩:=Option.map_eq_some_iff.1 hl
   match q with
   |[]=>
    rw[getPL_nil] at hq
    obtain rfl:=Option.some.inj hq
    exact⟨_,getPL_nil _ _ _ _ _,rfl,rfl,fun z hz=>by cases hz⟩
   |.fst::q=>exact flat_keep a _ _ b o p P y' ly' z lz h hf hz hlz m.1 q Q hq
   |.snd::q=>exact⟨Q,hq,.refl _⟩
   |.idx _::q=>cases hq
  ·cases hs
 |.pair a c,x,l,b,o,.snd::p,P,y',ly',x',l',h,hf,hs,hl,m,q,Q,hq=>by
  unfold setP at hs
  split at hs
  ·rename_i z hz
   obtain rfl:=Option.some.inj hs
   unfold setL at hl
   obtain⟨lz,hlz,rfl⟩:=Option.map_eq_some_iff.1 hl
   match q with
   |[]=>
    rw[getPL_nil] at hq
    obtain rfl:=Option.some.inj hq
    exact⟨_,getPL_nil _ _ _ _ _,rfl,rfl,fun z hz=>by cases hz⟩
   |.snd::q=>exact flat_keep c _ _ b _ p P y' ly' z lz h hf hz hlz m.2 q Q hq
   |.fst::q=>exact⟨Q,hq,.refl _⟩
   |.idx _::q=>cases hq
  ·cases hs
 |.arr n t,x,l,b,o,.idx i::p,P,y',ly',x',l',h,hf,hs,hl,m,q,Q,hq=>by
  unfold setP at hs
  split at hs
  ·rename_i z hz
   obtain rfl:=Option.some.inj hs
   unfold setL at hl
   obtain⟨lz,hlz,rfl⟩:=Option.map_eq_some_iff.1 hl
   unfold getPL at h
   split at h
   ·rename_i hi
    match q with
    |[]=>
     rw[getPL_nil] at hq
     obtain rfl:=Option.some.inj hq
     exact⟨_,getPL_nil _ _ _ _ _,rfl,rfl,fun z hz=>hz⟩
    |.idx j::q=>
     unfold getPL at hq ⊢
     split at hq
     ·rename_i hj
      rw[if_pos hj]
      have hix:i<List.length x:=by have:=m.1;omega
      by_cases e:j=i
      ·subst e
       obtain⟨Q',e1,e2⟩:=flat_keep t _ _ b _ p P y' ly' z lz h hf hz hlz (m.2 j hj) q Q hq
       refine⟨Q',?_,e2⟩
       simp only[updF,if_pos rfl,getD_set_self hix,↓reduceIte]
       exact e1
      ·refine⟨Q,?_,.refl _⟩
       simp only[updF,if_neg e,getD_set_ne (Ne.symm e)]
       exact hq
     ·cases hq
    |.fst::q=>cases hq
    |.snd::q=>cases hq
   ·cases h
  ·cases hs
 |.row _ t,x,l,b,o,.idx i::p,P,y',ly',x',l',h,hf,hs,hl,m,q,Q,hq=>by
  unfold setP at hs
  split at hs
  ·rename_i z hz
   obtain rfl:=Option.some.inj hs
   unfold setL at hl
   obtain⟨lz,hlz,rfl⟩:=Option.map_eq_some_iff.1 hl
   unfold getPL at h
   split at h
   ·rename_i hi
    split at h
    ·rename_i ad ha
     have hlen:List.length (List.set x i z)=List.length x:=List.length_set
     have m:=m.resolve_left (by simp[lent])
     match q with
     |[]=>
      rw[getPL_nil] at hq
      obtain rfl:=Option.some.inj hq
      exact⟨_,getPL_nil _ _ _ _ _,rfl,rfl,fun z hz=>by simp only[hdrP,hlen] at hz ⊢;exact hz⟩
     |.idx j::q=>
      unfold getPL at hq ⊢
      rw[hlen]
      split at hq
      ·rename_i hj
       rw[if_pos hj]
       rw[ha] at hq
       simp only[ha] at hq ⊢
       by_cases e:j=i
       ·subst e
        obtain⟨Q',e1,e2⟩:=flat_keep t _ _ _ _ p P y' ly' z lz h hf hz hlz (m.2 j hj) q Q hq
        refine⟨Q',?_,e2⟩
        simp only[updF,if_pos rfl,getD_set_self hi,↓reduceIte]
        exact e1
       ·refine⟨Q,?_,.refl _⟩
        simp only[updF,if_neg e,getD_set_ne (Ne.symm e)]
        exact hq
      ·cases hq
     |.fst::q=>cases hq
     |.snd::q=>cases hq
    ·cases h
   ·cases h
  ·cases hs
 |.int _,_,_,_,_,_::_,_,_,_,_,_,h,_,_,_,_,_,_,_=>by cases h
 |.bool,_,_,_,_,_::_,_,_,_,_,_,h,_,_,_,_,_,_,_=>by cases h
 |.str,_,_,_,_,_::_,_,_,_,_,_,h,_,_,_,_,_,_,_=>by cases h
 |.pair _ _,_,_,_,_,.idx _::_,_,_,_,_,_,h,_,_,_,_,_,_,_=>by cases h
 |.arr _ _,_,_,_,_,.fst::_,_,_,_,_,_,h,_,_,_,_,_,_,_=>by cases h
 |.arr _ _,_,_,_,_,.snd::_,_,_,_,_,_,h,_,_,_,_,_,_,_=>by cases h
 |.row _ _,_,_,_,_,.fst::_,_,_,_,_,_,h,_,_,_,_,_,_,_=>by cases h
 |.row _ _,_,_,_,_,.snd::_,_,_,_,_,_,h,_,_,_,_,_,_,_=>by cases h
end Go.Proofs.Ytlipfbihlmlplaa.G
namespace Go.Proofs.Ytlipfbihlmlplaa.G
open Go Go.RowKit
set_option linter.unusedVariables false
set_option linter.unusedSimpArgs false
theorem SRel.keepAll{objs objs':List (Option Ob)}{g g':Gh}
  (hb:∀n e q wn,obAt objs n=some (.bx e q wn)→obAt objs' n=some (.bx e q wn)∧g'.B n=g.B n)
  (hd:∀n d,datAt objs n=some d→∃d',datAt objs' n=some d'∧d'.wr=d.wr∧(d'.hole≠none→d.hole≠none)∧∀p P,rootPL g n d p=some P→∃P',rootPL g' n d' p=some P'∧hdrSame P P'∧(ncross d p→ncross d' p))
  {sv:SV} {v:Value} (h:SRel objs g sv v):SRel objs' g' sv v:=by
 have keepS:∀{n p wn v},SlRel objs g n p wn v→SlRel objs' g' n p wn v:=by
  rintro n p wn v ⟨d,P,sz,hd',tot,g1,g2,g3,g4,g5⟩
  obtain⟨d',e1,e2,e3,e4⟩:=hd n d g1
  obtain⟨P',e5,e6,_⟩:=e4 p P g3
  exact⟨d',P',sz,hd',tot,e1,fun q=>g2 (e3 q),e5,e6.2.2 _ g4,by rw[e2];exact g5⟩
 have keepP:∀{n p c v},PtrRel objs g n p c v→PtrRel objs' g' n p c v:=by
  rintro n p c v (⟨d,P,g1,g2,g3,g4,g5⟩|⟨e,q,wn,g1,g2,g3⟩)
  ·obtain⟨d',e1,e2,e3,e4⟩:=hd n d g1
   obtain⟨P',e5,e6,e7⟩:=e4 p P g2
   exact .inl ⟨d',P',e1,e5,g3,by rw[e6.1,e6.2.1];exact g4,fun q=>e7 (g5 q)⟩
  ·obtain⟨e1,e2⟩:=hb n e q wn g1
   exact .inr ⟨e,q,wn,e1,g2,by rw[e2];exact g3⟩
 cases sv with
 |val t x=>exact h
 |sl n p wn=>exact keepS h
 |ptr n p c=>exact keepP h
 |fn f cs=>
  obtain⟨vs,e1,e2,e3⟩:=h
  exact⟨vs,e1,e2,fun i c u hc hu=>keepP (e3 i c u hc hu)⟩
 |tup ts=>
  obtain⟨vs,e1,e2,e3⟩:=h
  refine⟨vs,e1,e2,fun i t u ht hu=>?_⟩
  have:=e3 i t u ht hu
  cases t with
  |val _ _=>exact this
  |sl n p wn=>exact keepS this
  |nil=>exact this
 |nil=>exact h
 |unk=>exact h
 |dead=>trivial
theorem run_storeV{P:Program}{w:World}{t:TypeId}{b o:Nat}{v:Value}(ht:w.there b o v.cells.size)(hi:(P.info? t).map (·.size)=some v.cells.size)(h1:∀u∈v.cells.toList,u.oneCell'=true):
  (Instr.storeAt t (.pointer (some ⟨b,o,none⟩)) v).run P w = .ok () (w.setCells b o v.cells.toList):=by
 have:=run_storeCells_cells (P:=P) b o v.cells.toList 0 w (fun j hj=>by simpa using (ht j (by simpa using hj)).1) (fun j hj=>by simpa using (ht j (by simpa using hj)).2) h1
 cases hq:P.info? t with
 |none=>simp[hq] at hi
 |some i=>
  have hs:v.cells.size=i.size:=by simp[hq] at hi;omega
  simp only[Nat.add_zero] at this
  simp only[Instr.storeAt,Instr.sureAddr,Sem.run_bind,Sem.run_pure,Result.andThen_ok]
  simp[storeVar,sizeOf,typeInfo,hq,hs,this]
section
variable {P:Program} {E:Env} {m:Nat} {w0:World} {MB:Out} {s:St} {g:Gh} {a:Act} {w:World} {α:Type}
theorem root_idx{n:Nat}{d:Dat}{p:List Stp}{Q:Pl}(hp:p≠[])(hP:rootPL g n d p=some Q):∃i q,p = .idx i::q:=by
 match p,hp with
 |.idx i::q,_=>exact⟨i,q,rfl⟩
 |.fst::p,_=>cases hP
 |.snd::p,_=>cases hP
theorem root_there(h:R m w0 MB s g a w){n:Nat}{d:Dat}{p:List Stp}{Q:Pl}(hd:datAt s.objs n=some d)(hw:d.wr=true)(hh:HoleAt d.hole p)(hp:p≠[])(hP:rootPL g n d p=some Q):w.there Q.b Q.o Q.u.size:=by
 have hm:=h.dat n d hd
 have hb:=root_blk hp hh hP
 rw[hw] at hm hb
 obtain⟨arr,e,harr⟩:=own_blk _ _ _ _ hm _ hb
 obtain⟨i,q,rfl⟩:=root_idx hp hP
 unfold rootPL getPL at hP
 split at hP
 ·rename_i hi
  split at hP
  ·rename_i ad ha
   have m:=hm.resolve_left (by simp[hh.not_lent])
   obtain⟨b',o',e',hlt,hr⟩:=m.1.at_ (by omega)
   rw[ha] at e'
   obtain rfl:=Option.some.inj e'
   have:=PL_there _ _ _ _ _ _ q Q hh.sub_idx hP (m.2 i hi) ((rangeAt_flatMap _ _ (fun i=>cells_length d.t _ _) _).1 hr i hi)
   intro j hj
   have hj':j<(cells Q.u Q.y Q.l).length:=by rw[cells_length];exact hj
   refine⟨by rw[this j _ (List.getElem?_eq_getElem hj')];rfl,by simp[World.frozen?,harr]⟩
  ·cases hP
 ·cases hP
theorem root_out(h:R m w0 MB s g a w){n:Nat}{d:Dat}{p:List Stp}{Q:Pl}(hd:datAt s.objs n=some d)(hw:d.wr=true)(hh:d.hole=none)(hp:p≠[])(hP:rootPL g n d p=some Q):Q.b∉blks true Q.u none Q.y Q.l:=by
 have hs:=(h.sep n d hd hw).1
 unfold blksD at hs
 rw[hh,hw] at hs
 obtain⟨i,q,rfl⟩:=root_idx hp hP
 unfold rootPL getPL at hP
 split at hP
 ·rename_i hi
  split at hP
  ·rename_i ad ha
   have hb:hdrBlk true (g.G n d.t).1 (List.length d.l)=[ad.block]:=by unfold hdrBlk;rw[ha];exact if_pos (.inr (by omega))
   simp only[blks,lent,Bool.false_eq_true,if_false,hb,List.nodup_append] at hs
   exact PL_out (own:=true) d.t _ _ _ _ q Q hP (List.nodup_cons.2 ⟨fun q'=>hs.2.2 ad.block (by simp) _ (List.mem_flatMap.2 ⟨i,List.mem_range.2 hi,q'⟩) rfl,nodup_flatMap_one hs.2.1 i hi⟩)
  ·cases hP
 ·cases hP
theorem R.writeG(h:R m w0 MB s g a w){n:Nat}{d:Dat}{p:List Stp}{Q:Pl}(hd:datAt s.objs n=some d)(hw:d.wr=true)(hh:HoleAt d.hole p)(hp:p≠[])(hP:rootPL g n d p=some Q)
  (y':Q.u.den) (ly':Q.u.loc) {l':List d.t.den} (hs:setP (.row d.e d.t) d.l p Q.u y'=some l') (ks:List Nat) (lo:List Nat)
  (hks:∀k,k∈ks→k≠n∧∃dk,datAt s.objs k=some dk∧dk.wr=true∧dk.fresh=true)
  {w':World} (W:Wrote w w' Q.b Q.o Q.u.size) (hcr:w'.rangeAt Q.b Q.o (cells Q.u y' ly')) (w1:w'.os=w.os) (w2:TD w' w) (w3:w'.output=w.output) (w4:w'.heap.size=w.heap.size)
  (hm':memH w' true Q.u none y' ly') (nd:(blks true Q.u none y' ly').Nodup)
  (hb:∀b,b∈blks true Q.u none y' ly'→(d.hole=none∧b∈blks true Q.u none Q.y Q.l)∨(∃k dk,k∈ks∧datAt s.objs k=some dk∧b∈blksD g k dk) ∨
   (b∉blksD g n d∧(∀j x,j≠n→obAt s.objs j=some x→b∉blksO g j x)∧(d.fresh=true→w0.heap.size≤b)∧(d.fresh=false→b∈MB.b∨w0.heap.size≤b)))
  (hl:(Q.u.flat=true∧d.hole=none∧lo=[]∧ks=[])∨lo=[n]) (dst:Option Tmp) (sv:SV) (v:Value) (hsv:∀(o':List (Option Ob)) (g':Gh),SRel o' g' sv v):
  ∃g',R m w0 MB (Eff.on { v:=sv,upd:=ks.map (fun k=>(k,none))++[(n,some (.dat ⟨d.e,d.t,l',d.wr,d.fresh,none⟩))],kill:=ks,loose:=lo } dst s) g' (a.put dst v) w':=by
 have hn:obAt s.objs n=some (.dat d):=datAt_ob.2 hd
 have hdm:=h.dat n d hd
 obtain⟨s1,s2⟩:=h.sep n d hd hw
 have hPb:Q.b∈blksD g n d:=root_blk hp hh hP
 have hnk:n∉ks:=fun q=>(hks n q).1 rfl
 obtain⟨i,q,rfl⟩:=root_idx hp hP
 unfold blksD at s1
 rw[hw] at hdm s1
 have apart:∀b k dk,k∈ks→datAt s.objs k=some dk→b∈blksD g k dk→b∉blksD g n d:=fun b k dk k1 k2 k3 k4=>by
  obtain⟨k5,dk',k6,k7,_⟩:=hks k k1
  rw[k2] at k6
  obtain rfl:=Option.some.inj k6
  exact (h.sep k dk k2 k7).2 n _ (Ne.symm k5) hn b k3 k4
 obtain⟨l2,e1,m2,nd2,sub2⟩:=root_put (e:=d.e) (own:=true) hh hP hs hdm s1 W hcr hm' nd (fun k hk1 hk2=>by
  rcases hb k hk1 with q1|⟨k',dk,q1,q2,q3⟩|⟨q1,_⟩
  ·exact q1
  ·exact absurd (show k∈blksD g n d by unfold blksD;rw[hw];exact hk2) (apart k k' dk q1 q2 q3)
  ·exact absurd (show k∈blksD g n d by unfold blksD;rw[hw];exact hk2) q1)
 have hlen:l'.length=d.l.length:=by
  obtain⟨z,_,rfl⟩:=setP_length d.e hs
  exact List.length_set
 have hl2:l2.1=(g.G n d.t).1:=by
  unfold setL at e1
  obtain⟨lz,_,rfl⟩:=Option.map_eq_some_iff.1 e1
  rfl
 have hnlt:=obAt_lt hn
 have hob:∀k,obAt (updAll (ks.map (fun k=>(k,none))++[(n,some (.dat ⟨d.e,d.t,l',d.wr,d.fresh,none⟩))]) s.objs) k=if k=n then some (.dat ⟨d.e,d.t,l',d.wr,d.fresh,none⟩) else if k∈ks then none else obAt s.objs k:=fun k=>by
  rw[updAll_append]
  show obAt ((updAll (ks.map fun k=>(k,none)) s.objs).set n _) k=_
  rw[obAt_set _ _ _ _ (by rw[updAll_length];exact hnlt),obAt_gone]
 have hold:∀k x,obAt (updAll (ks.map (fun k=>(k,none))++[(n,some (.dat ⟨d.e,d.t,l',d.wr,d.fresh,none⟩))]) s.objs) k=some x →
   (k=n∧x = .dat ⟨d.e,d.t,l',d.wr,d.fresh,none⟩)∨(k≠n∧k∉ks∧obAt s.objs k=some x):=fun k x hx=>by
  rw[hob k] at hx
  split at hx
  ·rename_i e;exact .inl ⟨e,(Option.some.inj hx).symm⟩
  ·rename_i e
   split at hx
   ·cases hx
   ·rename_i e2;exact .inr ⟨e,e2,hx⟩
 have hnew:datAt (updAll (ks.map (fun k=>(k,none))++[(n,some (.dat ⟨d.e,d.t,l',d.wr,d.fresh,none⟩))]) s.objs) n=some ⟨d.e,d.t,l',d.wr,d.fresh,none⟩:=by rw[←datAt_ob,hob n,if_pos rfl]
 have hG0:∀k,k≠n→(g.put n d.t l2).G k=g.G k:=fun k hk=>Gh.put_ne g _ _ hk
 have bN:blksD (g.put n d.t l2) n ⟨d.e,d.t,l',d.wr,d.fresh,none⟩=blks true (.row d.e d.t) none l' l2:=by unfold blksD;rw[Gh.put_same,hw]
 have old:∀j x,j≠n→blksO (g.put n d.t l2) j x=blksO g j x:=fun j x hj=>blksO_put_ne g _ _ hj x
 have far:∀j x,j≠n→obAt s.objs j=some x→∀b,b∈blksO g j x→w'.heap[b]? = w.heap[b]? := fun j x hj hx b hb'=>W.far b (fun e=>s2 j x hj hx Q.b hPb (e▸hb'))
 have src:∀b,b∈blks true (.row d.e d.t) none l' l2→b∈blksD g n d∨(∃k dk,k∈ks∧datAt s.objs k=some dk∧b∈blksD g k dk) ∨
   (b∉blksD g n d∧(∀j x,j≠n→obAt s.objs j=some x→b∉blksO g j x)∧(d.fresh=true→w0.heap.size≤b)∧(d.fresh=false→b∈MB.b∨w0.heap.size≤b)):=fun b hb1=>by
  rcases sub2 b hb1 with q1|q1
  ·rcases hb b q1 with⟨q2,q3⟩|q2
   ·left
    unfold blksD
    rw[q2,hw]
    exact PL_blks (own:=true) _ _ _ _ _ _ _ hP b q3
   ·exact .inr q2
  ·left;unfold blksD;rw[hw];exact q1
 have srcO:∀b,b∈blks true (.row d.e d.t) none l' l2→∀j x,j≠n→j∉ks→obAt s.objs j=some x→b∉blksO g j x:=fun b hb1 j x hj hjk hx hb2=>by
  rcases src b hb1 with q1|⟨k,dk,k1,k2,k3⟩|⟨_,q1,_⟩
  rotate_right
  ·exact q1 j x hj hx hb2
  ·exact s2 j x hj hx b q1 hb2
  ·obtain⟨k5,dk',k6,k7,_⟩:=hks k k1
   rw[k2] at k6
   obtain rfl:=Option.some.inj k6
   exact (h.sep k dk k2 k7).2 j x (fun e=>hjk (e▸k1)) hx b k3 hb2
 refine⟨g.put n d.t l2,h.step _ dst v _ w' (fun sv u hr hh'=>?_) (hsv _ _) ?_ ?_ ?_ ?_ ?_ (fun k d0 hk hf0=>?_)⟩
 ·rcases hl with⟨hf,hho,rfl,rfl⟩|rfl
  ·refine SRel.keepAll (fun k e0 q' wn hk=>?_) (fun k d0 hk=>?_) hr
   ·have hkn:k≠n:=fun e=>by rw[e,hn] at hk;cases hk
    exact⟨by rw[hob k,if_neg hkn];exact hk,rfl⟩
   ·by_cases hkn:k=n
    ·subst hkn
     rw[hd] at hk
     obtain rfl:=Option.some.inj hk
     refine⟨_,hnew,rfl,fun q=>absurd rfl q,fun p' P' hP'=>?_⟩
     rw[hho] at hdm
     obtain⟨Q',k1,k2⟩:=flat_keep (own:=true) (.row d.e d.t) _ _ 0 0 (.idx i::q) Q y' ly' l' l2 hP hf hs e1 hdm p' P' hP'
     exact⟨Q',by unfold rootPL;rw[Gh.put_same];exact k1,k2,fun z=>z⟩
    ·refine⟨d0,(by rw[←datAt_ob,hob k,if_neg hkn,if_neg (by simp)];exact datAt_ob.2 hk),rfl,fun q=>q,fun p' P' hP'=>⟨P',by unfold rootPL;rw[hG0 k hkn];exact hP',.refl _,fun z=>z⟩⟩
  ·refine SRel.keep (fun k x hx hk hl'=>?_) (fun k d0 hd0 hk hl'=>?_) (fun k e0 q' wn hk hl'=>?_) hr hh'
   ·have hkn:k≠n:=fun e=>hl' (by simp[e])
    exact⟨by rw[hob k,if_neg hkn,if_neg hk];exact hx,hG0 k hkn,rfl⟩
   ·obtain rfl:k=n:=by simpa using hl'
    rw[hd] at hd0
    obtain rfl:=Option.some.inj hd0
    refine⟨_,hnew,fun P0 hP0=>?_,rfl,fun p' P' hc hP'=>?_⟩
    ·unfold rootPL at hP0 ⊢
     rw[getPL_nil] at hP0
     obtain rfl:=Option.some.inj hP0
     refine⟨_,getPL_nil _ _ _ _ _,fun sz hd' tot hz=>?_⟩
     rw[Gh.put_same]
     simp only[hdrP,hlen,hl2] at hz ⊢
     exact hz
    ·match p',hc with
     |.idx j::q',hc=>
      unfold rootPL at hP' ⊢
      rw[Gh.put_same]
      unfold getPL at hP' ⊢
      simp only[hlen,hl2]
      split at hP'
      ·rename_i hj
       rw[if_pos hj]
       split at hP'
       ·rename_i ad ha
        obtain⟨P2,k1,k2,k3,_⟩:=PL_shape d.t _ (List.getD l' j d.t.dflt) _ (l2.2 j) _ _ q' P' hP' hc
        exact⟨P2,k1,k2,k3,hc⟩
       ·cases hP'
      ·cases hP'
   ·obtain rfl:k=n:=by simpa using hl'
    rw[hn] at hk
    cases hk
 ·intro k d0 hk
  rcases hold k _ (datAt_ob.2 hk) with⟨rfl,e⟩|⟨k1,k2,k3⟩
  ·cases e
   rw[Gh.put_same]
   simp only[hw]
   exact m2
  ·rw[hG0 k k1]
   exact memH_frame (Nat.le_of_eq w4.symm) _ _ _ _ (h.dat k d0 (datAt_ob.1 k3)) (fun b hb'=>far k _ k1 k3 b hb')
 ·intro k e0 q' wn hk
  rcases hold k _ hk with⟨_,e⟩|⟨k1,k2,k3⟩
  ·cases e
  ·obtain⟨d1,u,q1,q2,q3,q4⟩:=h.bx k e0 q' wn k3
   have hqn:q'≠n:=fun e=>by
    rw[e,hd] at q1
    obtain rfl:=Option.some.inj q1
    rw[hw] at q2;cases q2
   have hqk:q'∉ks:=fun e=>by
    obtain⟨_,dk,e3,e4,_⟩:=hks q' e
    rw[q1] at e3
    obtain rfl:=Option.some.inj e3
    rw[q2] at e4;cases e4
   refine⟨d1,u,by rw[←datAt_ob,hob q',if_neg hqn,if_neg hqk];exact datAt_ob.2 q1,q2,(World.cell?_of_block (w:=w) (far k _ k1 k3 (g.B k).1 (by simp[blksO]))).trans q3,q4.keep (fun d2 hd2=>⟨?_,hG0 q' hqn⟩)⟩
   rw[←datAt_ob,hob q',if_neg hqn,if_neg hqk]
   exact datAt_ob.2 hd2
 ·intro k d0 hk hwr
  rcases hold k _ (datAt_ob.2 hk) with⟨rfl,e⟩|⟨k1,k2,k3⟩
  ·cases e
   rw[bN]
   refine⟨nd2,fun j x hj hx b hb1 hb2=>?_⟩
   rcases hold j x hx with⟨e,_⟩|⟨j1,j2,j3⟩
   ·exact hj e
   ·rw[old j x j1] at hb2
    exact srcO b hb1 j x j1 j2 j3 hb2
  ·have eb:blksD (g.put n d.t l2) k d0=blksD g k d0:=by unfold blksD;rw[hG0 k k1]
   rw[eb]
   obtain⟨t1,t2⟩:=h.sep k d0 (datAt_ob.1 k3) hwr
   refine⟨t1,fun j x hj hx b hb1 hb2=>?_⟩
   rcases hold j x hx with⟨rfl,e⟩|⟨j1,j2,j3⟩
   ·cases e
    replace hb2:b∈blksD (g.put j d.t l2) j _:=hb2
    rw[bN] at hb2
    exact srcO b hb2 k _ k1 k2 k3 hb1
   ·rw[old j x j1] at hb2
    exact t2 j x hj j3 b hb1 hb2
 ·intro k d0 hk hwr b hb1
  rcases hold k _ (datAt_ob.2 hk) with⟨rfl,e⟩|⟨k1,k2,k3⟩
  ·cases e
   rw[bN] at hb1
   rcases src b hb1 with q1|⟨k',dk,k1,k2,k3⟩|⟨_,_,q1⟩
   rotate_right
   ·exact q1
   ·exact h.fresh k d hd hw b q1
   ·obtain⟨_,dk',k6,k7,k8⟩:=hks k' k1
    rw[k2] at k6
    obtain rfl:=Option.some.inj k6
    have:=(h.fresh k' dk k2 k7 b k3).1 k8
    exact⟨fun _=>this,fun _=>.inr this⟩
  ·have eb:blksD (g.put n d.t l2) k d0=blksD g k d0:=by unfold blksD;rw[hG0 k k1]
   rw[eb] at hb1
   exact h.fresh k d0 (datAt_ob.1 k3) hwr b hb1
 ·refine⟨w1.trans h.frame.os,w2.trans h.frame.tape,w3.trans h.frame.output,by rw[w4];exact h.frame.size,fun b hb1 hb2=>?_⟩
  rw[W.far b (fun e=>?_)]
  ·exact h.frame.block b hb1 hb2
  ·subst e
   have hf:=h.fresh n d hd hw Q.b hPb
   cases hq:d.fresh with
   |true=>have:=hf.1 hq;omega
   |false=>
    rcases hf.2 hq with q1|q1
    ·exact hb2 q1
    ·omega
 ·by_cases hkn:k=n
  ·subst hkn
   rw[hd] at hk
   obtain rfl:=Option.some.inj hk
   exact⟨_,hnew,rfl,rfl,rfl,hf0,hlen,by rw[Gh.put_same,hl2]⟩
  ·have hkk:k∉ks:=fun q'=>by
    obtain⟨_,dk,e4,_,e6⟩:=hks k q'
    rw[hk] at e4
    obtain rfl:=Option.some.inj e4
    rw[hf0] at e6;cases e6
   exact⟨d0,by rw[←datAt_ob,hob k,if_neg hkn,if_neg hkk];exact datAt_ob.2 hk,rfl,rfl,rfl,hf0,rfl,by rw[hG0 k hkn]⟩
theorem R.write(h:R m w0 MB s g a w){n:Nat}{d:Dat}{p:List Stp}{Q:Pl}(hd:datAt s.objs n=some d)(hw:d.wr=true)(hh:HoleAt d.hole p)(hp:p≠[])(hP:rootPL g n d p=some Q)
  (y':Q.u.den) (ly':Q.u.loc) {l':List d.t.den} (hs:setP (.row d.e d.t) d.l p Q.u y'=some l') (ks:List Nat) (lo:List Nat)
  (hks:∀k,k∈ks→k≠n∧∃dk,datAt s.objs k=some dk∧dk.wr=true∧dk.fresh=true)
  (hm:memH w true Q.u none y' ly') (nd:(blks true Q.u none y' ly').Nodup) (hout:Q.b∉blks true Q.u none y' ly')
  (hb:∀b,b∈blks true Q.u none y' ly'→(d.hole=none∧b∈blks true Q.u none Q.y Q.l)∨∃k dk,k∈ks∧datAt s.objs k=some dk∧b∈blksD g k dk)
  (hl:(Q.u.flat=true∧d.hole=none∧lo=[]∧ks=[])∨lo=[n]) (dst:Option Tmp) (v:Value):
  ∃g',R m w0 MB (Eff.on { v:=.dead,upd:=ks.map (fun k=>(k,none))++[(n,some (.dat ⟨d.e,d.t,l',d.wr,d.fresh,none⟩))],kill:=ks,loose:=lo } dst s) g' (a.put dst v) (w.setCells Q.b Q.o (cells Q.u y' ly')):=by
 have hth:=root_there h hd hw hh hp hP
 have W:=sc_wrote (w:=w) (b:=Q.b) (o:=Q.o) (vs:=cells Q.u y' ly')
 rw[cells_length] at W
 have hcr:=World.rangeAt_setCells_same w Q.b Q.o (cells Q.u y' ly') (by rw[cells_length];exact hth)
 obtain⟨w1,w2,w3,w4⟩:=sc_same Q.b (cells Q.u y' ly') Q.o w
 exact h.writeG hd hw hh hp hP y' ly' hs ks lo hks W hcr w1 w2 w3 w4 (memH_frame (Nat.le_of_eq w4.symm) _ _ _ _ hm (fun k hk=>W.far k (fun e=>hout (e▸hk)))) nd (fun b hb1=>(hb b hb1).imp_right .inl) hl dst .dead v (fun _ _=>trivial)
end
theorem pathEq_eq:∀(p q:List Stp),pathEq p q=true→p=q
 |[],[],_=>rfl
 |.fst::p,.fst::q,h=>by rw[pathEq_eq p q h]
 |.snd::p,.snd::q,h=>by rw[pathEq_eq p q h]
 |.idx i::p,.idx j::q,h=>by
  simp only[pathEq,Bool.and_eq_true,beq_iff_eq] at h
  rw[h.1,pathEq_eq p q h.2]
 |[],_::_,h=>by cases h
 |.fst::_,[],h=>by cases h
 |.snd::_,[],h=>by cases h
 |.idx _::_,[],h=>by cases h
 |.fst::_,.snd::_,h=>by cases h
 |.fst::_,.idx _::_,h=>by cases h
 |.snd::_,.fst::_,h=>by cases h
 |.snd::_,.idx _::_,h=>by cases h
 |.idx _::_,.fst::_,h=>by cases h
 |.idx _::_,.snd::_,h=>by cases h
theorem setP_type:∀(t:Ty) (x:t.den) (l:t.loc) (b o:Nat) (p:List Stp) (P:Pl) (u:Ty) (y:u.den) (x':t.den),getPL t x l b o p=some P→setP t x p u y=some x'→P.u=u
 |t,x,l,b,o,[],P,u,y,x',h,hs=>by
  have e:P=⟨t,x,l,b,o⟩:=by unfold getPL at h;cases t<;>exact (Option.some.inj h).symm
  subst e
  unfold setP at hs
  cases t<;>(split at hs<;>first|(rename_i e;exact e.symm)|cases hs)
 |.st t,x,l,b,o,s::p,P,u,y,x',h,hs=>setP_type t x l b o (s::p) P u y x' h hs
 |.pair a c,x,l,b,o,.fst::p,P,u,y,x',h,hs=>by
  unfold setP at hs
  split at hs
  ·rename_i z hz
   exact setP_type a _ _ b o p P u y z h hz
  ·cases hs
 |.pair a c,x,l,b,o,.snd::p,P,u,y,x',h,hs=>by
  unfold setP at hs
  split at hs
  ·rename_i z hz
   exact setP_type c _ _ b _ p P u y z h hz
  ·cases hs
 |.arr n t,x,l,b,o,.idx i::p,P,u,y,x',h,hs=>by
  unfold setP at hs
  split at hs
  ·rename_i z hz
   unfold getPL at h
   split at h
   ·exact setP_type t _ _ b _ p P u y z h hz
   ·cases h
  ·cases hs
 |.row _ t,x,l,b,o,.idx i::p,P,u,y,x',h,hs=>by
  unfold setP at hs
  split at hs
  ·rename_i z hz
   unfold getPL at h
   split at h
   ·split at h
    ·exact setP_type t _ _ _ _ p P u y z h hz
    ·cases h
   ·cases h
  ·cases hs
 |.int _,_,_,_,_,_::_,_,_,_,_,h,_=>by cases h
 |.bool,_,_,_,_,_::_,_,_,_,_,h,_=>by cases h
 |.str,_,_,_,_,_::_,_,_,_,_,h,_=>by cases h
 |.pair _ _,_,_,_,_,.idx _::_,_,_,_,_,h,_=>by cases h
 |.arr _ _,_,_,_,_,.fst::_,_,_,_,_,h,_=>by cases h
 |.arr _ _,_,_,_,_,.snd::_,_,_,_,_,h,_=>by cases h
 |.row _ _,_,_,_,_,.fst::_,_,_,_,_,h,_=>by cases h
 |.row _ _,_,_,_,_,.snd::_,_,_,_,_,h,_=>by cases h
theorem win_row{w:World}{e:TypeId}{u:Ty}{y:List u.den}{H:Hdr}{locs:Nat→u.loc}{wn:Win}{v:Value}(m:memH w true (.row e u) none y (H,locs))(nd:(blks true (.row e u) none y (H,locs)).Nodup)(hv:SlV true u.size H y.length wn v):
  ∃A c,v = .slice A (wn.cut y).length c∧memH w true (.row e u) none (wn.cut y) (⟨A,c⟩,fun i=>locs (wn.off+i))∧(blks true (.row e u) none (wn.cut y) (⟨A,c⟩,fun i=>locs (wn.off+i))).Nodup ∧
   ∀k,k∈blks true (.row e u) none (wn.cut y) (⟨A,c⟩,fun i=>locs (wn.off+i))→k∈blks true (.row e u) none y (H,locs):=by
 obtain⟨A,c,e1,e2,e3,e4,e5⟩:=hv
 have m:=m.resolve_left (by simp[lent])
 obtain⟨k1,k2⟩:=e5 rfl
 have hlen:(wn.cut y).length=wn.lenN y.length:=cut_length e2
 rw[blks_row,List.nodup_append] at nd
 obtain⟨c1,c2⟩:=eblks_cut (u:=u) (Y:=y) (L:=locs) (wn:=wn) e2 nd.2.1
 have hsub:∀k,k∈hdrBlk true ⟨A,c⟩ (wn.cut y).length→k∈hdrBlk true H y.length:=by
  intro k hk
  unfold hdrBlk at hk ⊢
  simp only at hk
  split at hk
  ·rename_i ad
   split at hk
   ·rename_i hc
    obtain rfl:=List.mem_singleton.1 hk
    have hc0:0<c:=by
     rcases hc with⟨_,q⟩|q
     ·exact q
     ·omega
    obtain⟨b,o,q1,q2⟩:=k2 hc0
    obtain rfl:=Option.some.inj q2
    simp only[q1]
    have hcc:0<H.cap:=by omega
    simp[hcc]
   ·cases hk
  ·cases hk
 refine⟨A,c,by rw[hlen];exact e1,.inr ⟨⟨(by rw[hlen];exact e3),fun hn=>?_,fun _ hc=>?_⟩,fun i hi=>?_⟩,?_,fun k hk=>?_⟩
 ·obtain⟨b,o,q1,q2⟩:=e4 (by omega)
  obtain⟨b',o',q3,q4,q5⟩:=m.1.at_ (by omega)
  rw[q1] at q3
  obtain⟨rfl,rfl⟩:b=b'∧o=o':=by simpa using q3
  refine⟨b,_,q2,q4,(rangeAt_flatMap _ _ (fun i=>cells_length u _ _) _).2 (fun i hi=>?_)⟩
  rw[cut_getD hi]
  have:=(rangeAt_flatMap _ _ (fun i=>cells_length u _ _) _).1 q5 (wn.off+i) (by omega)
  rwa[Nat.add_mul,←Nat.add_assoc] at this
 ·obtain⟨b,o,q1,q2⟩:=k2 hc
  simp only at hc
  have hcap:0<H.cap:=by omega
  obtain⟨b',o',arr,e',q3,q4,q5⟩:=m.1.own rfl hcap
  simp only at q3
  rw[q1] at q3
  obtain⟨rfl,rfl⟩:b=b'∧o=o':=by simpa using q3
  refine⟨b,_,arr,e',q2,q4,?_⟩
  have:(wn.off+c)*u.size≤H.cap*u.size:=Nat.mul_le_mul_right _ k1
  rw[Nat.add_mul] at this
  simp only at q5 ⊢
  omega
 ·rw[cut_getD hi]
  exact m.2 (wn.off+i) (by omega)
 ·rw[blks_row,List.nodup_append]
  refine⟨?_,c1,fun k hk k' hk' e'=>?_⟩
  ·unfold hdrBlk
   split
   ·split<;>simp
   ·simp
  ·subst e'
   exact nd.2.2 k (hsub k hk) k (c2 k hk') rfl
 ·rw[blks_row] at hk ⊢
  rcases List.mem_append.1 hk with hk|hk
  ·exact List.mem_append_left _ (hsub k hk)
  ·exact List.mem_append_right _ (c2 k hk)
section
variable {P:Program} {E:Env} {m:Nat} {w0:World} {MB:Out} {s:St} {g:Gh} {a:Act} {w:World} {α:Type}
theorem store_exec{o:Oper}{t:TypeId}{x y:Operand}(ho:o.op = .store t x y){b o':Nat}(hx:a.eval x = .pointer (some ⟨b,o',none⟩)){u:Ty}(T:TTok P E)(ht:E.TT t=some u){cs:List Value}(hc:(a.eval y).cells.toList=cs)(hl:cs.length=u.size)
  (h1:∀v∈cs,v.oneCell'=true) (hth:w.there b o' u.size):(execOp a.eval o).run P w = .ok .skip (w.setCells b o' cs):=by
 obtain⟨i,hi,hsz,_⟩:=T.size ht
 subst hc
 have hs:(a.eval y).cells.size=u.size:=by rw[←Array.length_toList];exact hl
 have hr:=run_storeV (P:=P) (w:=w) (t:=t) (b:=b) (o:=o') (v:=a.eval y) (by rw[hs];exact hth) (by rw[hi];simp[hsz,hs]) h1
 unfold execOp
 rw[ho]
 simp only[hx,Sem.run_bind,hr,Result.andThen_ok,Sem.run_pure]
theorem store_place(T:TTok P E)(h:R m w0 MB s g a w){o:Oper}{t:TypeId}{x y:Operand}(ho:o.op = .store t x y){n:Nat}{d:Dat}{p:List Stp}{Q:Pl}(hd:datAt s.objs n=some d)(hw:d.wr=true)(hh:HoleAt d.hole p)(hp:p≠[])(hP:rootPL g n d p=some Q)
  (hx:a.eval x = .pointer (some ⟨Q.b,Q.o,none⟩)) {u0:Ty} (ht:E.TT t=some u0) (hz:u0.size=Q.u.size)
  (y':Q.u.den) (ly':Q.u.loc) (hc:(a.eval y).cells.toList=cells Q.u y' ly') {l':List d.t.den} (hs:setP (.row d.e d.t) d.l p Q.u y'=some l') (ks:List Nat) (lo:List Nat)
  (hks:∀k,k∈ks→k≠n∧∃dk,datAt s.objs k=some dk∧dk.wr=true∧dk.fresh=true)
  (hm:memH w true Q.u none y' ly') (nd:(blks true Q.u none y' ly').Nodup) (hout:Q.b∉blks true Q.u none y' ly')
  (hb:∀b,b∈blks true Q.u none y' ly'→(d.hole=none∧b∈blks true Q.u none Q.y Q.l)∨∃k dk,k∈ks∧datAt s.objs k=some dk∧b∈blksD g k dk)
  (hl:(Q.u.flat=true∧d.hole=none∧lo=[]∧ks=[])∨lo=[n]):
  Holds P m w0 MB s g o a w { v:=.dead,upd:=ks.map (fun k=>(k,none))++[(n,some (.dat ⟨d.e,d.t,l',d.wr,d.fresh,none⟩))],kill:=ks,loose:=lo }:=by
 have hr:=store_exec (a:=a) (w:=w) ho hx T ht hc (by rw[cells_length];exact hz.symm) (cells_one _ _ _) (by rw[hz];exact root_there h hd hw hh hp hP)
 exact does_skip hr (h.write hd hw hh hp hP y' ly' hs ks lo hks hm nd hout hb hl o.dst undef)
theorem store_holds(T:TTok P E)(h:R m w0 MB s g a w){o:Oper}{t:TypeId}{x y:Operand}(ho:o.op = .store t x y){dn dn2:Nat}{K:Eff→Option α}{r:α}
  (hK:effStore E s.objs t (evalO s.slots x) (evalO s.slots y) K=some r):∃e,K e=some r∧Holds P m w0 MB s g o a w e:=by
 have hx:=h.eval x
 have hy:=h.eval y
 revert hK hx hy
 generalize evalO s.slots x=sx
 generalize evalO s.slots y=sy
 intro hK hx hy
 unfold effStore at hK
 split at hK
 ·rename_i n p c
  split at hK
  ·rename_i d hd
   have hx:∃Q,rootPL g n d p=some Q∧p≠[]∧a.eval x = .pointer (some ⟨Q.b,Q.o,none⟩):=by
    rcases hx with⟨d',Q,g1,g2,g3,g4,_⟩|⟨e,k,wn,g1,_⟩
    ·rw[hd] at g1
     obtain rfl:=Option.some.inj g1
     exact⟨Q,g2,g3,g4⟩
    ·rw[datAt_ob.2 hd] at g1;cases g1
   obtain⟨Q,hP,hp,hxv⟩:=hx
   have putAt_of:∀{u:Ty} {yv:u.den} {d':Dat},putAt d p u yv=some d'→Q.u=u∧∃l',setP (.row d.e d.t) d.l p u yv=some l'∧d'=⟨d.e,d.t,l',d.wr,d.fresh,d.hole⟩:=by
    intro u yv d' hpa
    unfold putAt at hpa
    split at hpa
    ·rename_i l' hs
     exact⟨setP_type _ _ _ _ _ _ _ _ _ _ hP hs,l',hs,(Option.some.inj hpa).symm⟩
    ·cases hpa
   have hdm:=h.dat n d hd
   split at hK
   ·
    rename_i u yv hw
    split at hK
    ·rename_i u' hh ht
     split at hK
     ·rename_i e1
      subst e1
      split at hK
      ·rename_i d' hf hpa
       obtain⟨e2,l',hs,rfl⟩:=putAt_of hpa
       subst e2
       refine⟨_,hK,?_⟩
       rw[hh]
       have hnp:∀b c,Q.u≠.pair b c:=fun b c e=>T.nopair (e▸ht)
       have hcv:(a.eval y).cells.toList=cells Q.u yv Q.u.dloc:=by rw[hy.2.2];exact toV_cells hf hnp yv
       refine store_place T h ho hd hw (.inl hh) hp hP hxv ht rfl yv Q.u.dloc hcv hs [] [] (fun k hk=>by cases hk) (memH_of_ok _ hf _ _ _ hy.2.1) ?_ ?_ ?_ (.inl ⟨hf,hh,rfl,rfl⟩)
       ·rw[blks_flat _ hf];exact List.nodup_nil
       ·rw[blks_flat _ hf];exact List.not_mem_nil
       ·intro b hb;rw[blks_flat _ hf] at hb;cases hb
      ·cases hK
     ·cases hK
    ·cases hK
   ·rename_i n' q wn hw
    split at hK
    ·rename_i e u ht
     split at hK
     ·rename_i e1
      subst e1
      split at hK
      ·rename_i e' u' l hh hg
       cases hq:(pathEq q p&&decide (wn.off=0)) with
       |false=>rw[hq] at hK;cases hK
       |true=>
        rw[hq] at hK
        simp only[Bool.and_eq_true,decide_eq_true_eq] at hq
        obtain⟨hq,hoff⟩:=hq
        obtain rfl:=pathEq_eq _ _ hq
        simp only[cond] at hK
        split at hK
        ·rename_i d' hpa
         obtain⟨e2,l',hs,rfl⟩:=putAt_of hpa
         refine⟨_,hK,?_⟩
         rw[hh]
         obtain⟨d2,Q2,sz,hd',tot,g1,g2,g3,g4,g5⟩:=hy
         rw[hd] at g1
         obtain rfl:=Option.some.inj g1
         rw[hP] at g3
         obtain rfl:=Option.some.inj g3
         have eQ:=getP_of_PL _ _ _ _ _ _ _ hP
         rw[hg] at eQ
         obtain⟨uq,yq,lq,bq,oq⟩:=Q
         simp only at e2
         subst e2
         simp only[Option.some.injEq,Sigma.mk.injEq,heq_eq_eq,true_and] at eQ
         subst eQ
         simp only[hdrP,Option.some.injEq,Prod.mk.injEq] at g4
         obtain⟨rfl,rfl,rfl⟩:=g4
         rw[hw] at g5
         have hread:=root_read h hd hh hp hP
         simp only[hw] at hread
         have hs1:=(h.sep n' d hd hw).1
         unfold blksD at hs1
         rw[hh,hw] at hs1
         have ndq:=PL_nodup (own:=true) _ _ _ _ _ _ _ hP hs1
         obtain⟨A,c2,k1,k2,k3,k4⟩:=win_row (e:=e') (H:=lq.1) (locs:=lq.2) hread.2 ndq g5
         refine store_place T h ho hd hw (.inl hh) hp hP hxv ht rfl (wn.cut l) (⟨A,c2⟩,fun i=>lq.2 (wn.off+i)) (by rw[k1];rfl) hs [] [n'] (fun k hk=>by cases hk) k2 k3 (fun hb=>?_) (fun b hb=>.inl ⟨hh,k4 b hb⟩) (.inr rfl)
         exact root_out h hd hw hh hp hP (k4 _ hb)
        ·cases hK
      ·cases hK
     ·rename_i e1
      split at hK
      ·rename_i l ks hto
       unfold takeOver at hto
       split at hto
       ·rename_i hq;cases hq
       ·rename_i n2 hq
        cases hq
        split at hto
        ·rename_i d2 hd2
         split at hto
         ·rename_i hh2 hw2
          simp only[Bool.and_eq_true] at hw2
          split at hto
          ·rename_i e2
           subst e2
           split at hto
           ·rename_i e3
            subst e3
            simp only[Option.some.injEq,Prod.mk.injEq] at hto
            obtain⟨rfl,rfl⟩:=hto
            obtain⟨A,c2,q1,q2,q3,q4⟩:=take_row h hy hd2 hh2 hw2.1
            have fin:∀{d':Dat},putAt d p (.row d2.e d2.t) d2.l=some d'→HoleAt d.hole p→Holds P m w0 MB s g o a w { v:=.dead,upd:=[n'].map (fun k=>(k,none))++[(n,some (.dat ⟨d'.e,d'.t,d'.l,d'.wr,d'.fresh,none⟩))],kill:=[n'],loose:=[n] }:=by
             intro d' hpa hho
             obtain⟨e4,l',hs,rfl⟩:=putAt_of hpa
             obtain⟨uq,yq,lq,bq,oq⟩:=Q
             simp only at e4
             subst e4
             refine store_place T h ho hd hw hho hp hP hxv ht rfl d2.l (⟨A,c2⟩,(g.G n' d2.t).2) (by rw[q1];rfl) hs [n'] [n] (fun k hk=>?_) q2 q3 (fun hb=>?_) (fun b hb=>.inr ⟨n',d2,by simp,hd2,q4 b hb⟩) (.inr rfl)
             ·obtain rfl:=List.mem_singleton.1 hk
              exact⟨e1,d2,hd2,hw2.1,hw2.2⟩
             ·have:=root_blk hp hho hP
              exact (h.sep n d hd hw).2 n' _ e1 (datAt_ob.2 hd2) bq this (q4 _ hb)
            split at hK
            ·rename_i hh
             split at hK
             ·rename_i d' hpa
              refine⟨_,hK,?_⟩
              have:=fin hpa (.inl hh)
              obtain⟨_,l',_,rfl⟩:=putAt_of hpa
              rw[hh]
              exact this
             ·cases hK
            ·rename_i hp' hh
             cases hq:pathEq hp' p with
             |false=>rw[hq] at hK;cases hK
             |true=>
              obtain rfl:=pathEq_eq _ _ hq
              rw[hq] at hK
              simp only[cond] at hK
              split at hK
              ·rename_i d' hpa
               exact⟨_,hK,fin hpa (.inr hh)⟩
              ·cases hK
           ·cases hto
          ·cases hto
         ·cases hto
        ·cases hto
       ·cases hto
      ·cases hK
    ·cases hK
   ·rename_i hw
    split at hK
    ·rename_i e u ht hh
     split at hK
     ·rename_i d' hpa
      obtain⟨e2,l',hs,rfl⟩:=putAt_of hpa
      refine⟨_,hK,?_⟩
      rw[hh]
      obtain⟨uq,yq,lq,bq,oq⟩:=Q
      simp only at e2
      subst e2
      refine store_place T h ho hd hw (.inl hh) hp hP hxv ht rfl [] (⟨none,0⟩,fun _=>u.dloc) (by rw[hy];rfl) hs [] [n] (fun k hk=>by cases hk) ?_ ?_ ?_ ?_ (.inr rfl)
      ·exact .inr ⟨⟨Nat.le_refl 0,fun q=>absurd q (Nat.lt_irrefl 0),fun _ q=>absurd q (Nat.lt_irrefl 0)⟩,fun i hi=>absurd hi (Nat.not_lt_zero i)⟩
      ·exact List.nodup_nil
      ·exact List.not_mem_nil
      ·intro b hb;cases hb
     ·cases hK
    ·cases hK
   ·cases hK
  ·cases hK
 ·cases hK
end
end Go.Proofs.Ytlipfbihlmlplaa.G
namespace Go.Proofs.Ytlipfbihlmlplaa.G
open Go Go.RowKit
set_option linter.unusedVariables false
set_option linter.unusedSimpArgs false
theorem setCells_app{b:Nat}:∀(xs ys:List Value) (o:Nat) (w:World),w.setCells b o (xs++ys)=(w.setCells b o xs).setCells b (o+xs.length) ys
 |[],ys,o,w=>rfl
 |x::xs,ys,o,w=>by
  show (w.setCell ⟨b,o,none⟩ x).setCells b (o+1) (xs++ys)=((w.setCell ⟨b,o,none⟩ x).setCells b (o+1) xs).setCells b (o+(xs.length+1)) ys
  rw[setCells_app xs ys,show o+1+xs.length=o+(xs.length+1) by omega]
theorem overL_nil{β:Type}(l:List β)(k:Nat):overL l k []=l:=by
 unfold overL
 simp
theorem overL_cons{β:Type}{l:List β}{k:Nat}(y:β)(ys:List β)(h:k<l.length):overL (l.set k y) (k+1) ys=overL l k (y::ys):=by
 unfold overL
 have e1:(l.set k y).take (k+1)=l.take k++[y]:=by
  rw[List.take_succ_eq_append_getElem (by simpa using h),List.take_set_of_le (Nat.le_refl k)]
  simp
 have e2:(l.set k y).drop (k+1+ys.length)=l.drop (k+(ys.length+1)):=by
  rw[List.drop_set_of_lt (by omega),show k+1+ys.length=k+(ys.length+1) by omega]
 rw[e1,e2]
 simp
theorem obAt_get{objs:List (Option Ob)}{n:Nat}{x:Ob}(h:obAt objs n=some x):∃hlt:n<objs.length,objs[n]=some x:=by
 unfold obAt at h
 rw[List.getD_eq_getElem?_getD] at h
 cases hq:objs[n]? with
 |none=>rw[hq] at h;cases h
 |some o=>
  rw[hq] at h
  obtain⟨hlt,e⟩:=List.getElem?_eq_some_iff.1 hq
  exact⟨hlt,e.trans h⟩
section
variable {P:Program} {E:Env} {m:Nat} {w0:World} {MB:Out} {s:St} {g:Gh} {a:Act} {w:World} {α:Type}
theorem rootPL_idx{g:Gh}{n:Nat}{d:Dat}{i b o:Nat}(hi:i<d.l.length)(hA:(g.G n d.t).1.A=some ⟨b,o,none⟩):rootPL g n d [.idx i]=some ⟨d.t,d.l.getD i d.t.dflt,(g.G n d.t).2 i,b,o+i*d.t.size⟩:=by
 unfold rootPL getPL
 rw[if_pos hi,hA]
 simp only
 unfold getPL
 rfl
theorem sl_root(h:R m w0 MB s g a w){x:Operand}{n:Nat}{wn:Win}(hx:evalO s.slots x = .sl n [] wn){d:Dat}(hd:datAt s.objs n=some d):
  ∃A c,a.eval x = .slice A (wn.lenN d.l.length) c∧wn.off+wn.lenN d.l.length≤d.l.length∧(0<wn.lenN d.l.length→∃b o,(g.G n d.t).1.A=some ⟨b,o,none⟩∧A=some ⟨b,o+wn.off*d.t.size,none⟩):=by
 have hv:=h.eval x
 rw[hx] at hv
 obtain⟨d',Q,sz,hd',tot,g1,g2,g3,g4,A,c,e1,e2,e3,e4,e5⟩:=hv
 rw[hd] at g1
 obtain rfl:=Option.some.inj g1
 unfold rootPL getPL at g3
 obtain rfl:=Option.some.inj g3
 simp only[hdrP,Option.some.injEq,Prod.mk.injEq] at g4
 obtain⟨rfl,rfl,rfl⟩:=g4
 exact⟨A,c,e1,e2,e4⟩
theorem R.over{n:Nat}{wn:Win}{x:Operand}{e:TypeId}{t:Ty}{fr:Bool}(hf:t.flat=true){A:Option Addr}{len c:Nat}(hxv:a.eval x = .slice A len c):
  ∀(ys:List t.den) (j:Nat) (s:St) (g:Gh) (w:World) (l:List t.den),R m w0 MB s g a w→evalO s.slots x = .sl n [] wn→datAt s.objs n=some ⟨e,t,l,true,fr,none⟩→(∀y,y∈ys→okV t y)→j+ys.length≤len→∀b o',(0<ys.length→A=some ⟨b,o',none⟩) →
   ∃g',R m w0 MB (Eff.on { v:=.dead,upd:=[(n,some (.dat ⟨e,t,overL l (wn.off+j) ys,true,fr,none⟩))] } none s) g' a (w.setCells b (o'+j*t.size) (ys.flatMap fun y=>cells t y t.dloc))
 |[],j,s,g,w,l,h,hx,hd,ok,hj,b,o',hA=>by
  refine⟨g,?_⟩
  have e1:Eff.on { v:=.dead,upd:=[(n,some (.dat ⟨e,t,overL l (wn.off+j) [],true,fr,none⟩))] } none s=s:=by
   rw[overL_nil]
   have:s.objs.set n (some (.dat ⟨e,t,l,true,fr,none⟩))=s.objs:=by
    obtain⟨hlt,hq⟩:=obAt_get (datAt_ob.2 hd)
    rw[←hq]
    exact List.set_getElem_self hlt
   show St.mk s.slots (s.objs.set n (some (.dat ⟨e,t,l,true,fr,none⟩)))=s
   rw[this]
  rw[e1]
  exact h
 |y::ys,j,s,g,w,l,h,hx,hd,ok,hj,b,o',hA=>by
  obtain⟨A',c',q1,q2,q3⟩:=sl_root h hx hd
  rw[hxv] at q1
  simp only[Value.slice.injEq] at q1
  obtain⟨rfl,rfl,rfl⟩:=q1
  have hlen:0<wn.lenN l.length:=by simp only[List.length_cons] at hj;omega
  obtain⟨b1,o1,r1,r2⟩:=q3 hlen
  have hAA:=hA (by simp)
  rw[hAA] at r2
  simp only[Option.some.injEq,Addr.mk.injEq,and_true] at r2
  obtain⟨rfl,rfl⟩:=r2
  have hi:wn.off+j<l.length:=by simp only[List.length_cons] at hj;simp only at q2;omega
  have hP:=rootPL_idx (g:=g) (n:=n) (d:=⟨e,t,l,true,fr,none⟩) hi r1
  have hok:=ok y (by simp)
  obtain⟨g',hR⟩:=h.write hd rfl (.inl rfl) (by simp) hP y t.dloc (l':=l.set (wn.off+j) y) (by simp[setP,castD]) [] [] (fun k hk=>by cases hk) (memH_of_ok _ hf _ _ _ hok) (by rw[blks_flat _ hf];exact List.nodup_nil) (by rw[blks_flat _ hf];exact List.not_mem_nil) (fun b hb=>by rw[blks_flat _ hf] at hb;cases hb) (.inl ⟨hf,rfl,rfl,rfl⟩) none undef
  obtain⟨g2,hR2⟩:=R.over hf hxv ys (j+1) _ g' _ (l.set (wn.off+j) y) hR hx (by
   show datAt (s.objs.set n (some (.dat ⟨e,t,l.set (wn.off+j) y,true,fr,none⟩))) n=_
   obtain⟨hlt,_⟩:=obAt_get (datAt_ob.2 hd)
   rw[←datAt_ob]
   unfold obAt
   rw[List.getD_eq_getElem?_getD,List.getElem?_set_self hlt]
   rfl) (fun z hz=>ok z (List.mem_cons_of_mem _ hz)) (by simp only[List.length_cons] at hj;omega) b (o1+wn.off*t.size) (fun _=>hAA)
  refine⟨g2,?_⟩
  have e1:overL (l.set (wn.off+j) y) (wn.off+(j+1)) ys=overL l (wn.off+j) (y::ys):=overL_cons y ys hi
  rw[e1] at hR2
  have e2:Eff.on { v:=.dead,upd:=[(n,some (.dat ⟨e,t,overL l (wn.off+j) (y::ys),true,fr,none⟩))] } none (Eff.on { v:=.dead,upd:=([]:List Nat).map (fun k=>(k,none))++[(n,some (.dat ⟨e,t,l.set (wn.off+j) y,true,fr,none⟩))],kill:=[],loose:=[] } none s)=Eff.on { v:=.dead,upd:=[(n,some (.dat ⟨e,t,overL l (wn.off+j) (y::ys),true,fr,none⟩))] } none s:=by
   show St.mk s.slots ((s.objs.set n _).set n _)=St.mk s.slots (s.objs.set n _)
   rw[List.set_set]
  rw[e2] at hR2
  rw[List.flatMap_cons,setCells_app,cells_length]
  rw[show o1+wn.off*t.size+j*t.size+t.size=o1+wn.off*t.size+(j+1)*t.size by rw[Nat.succ_mul];omega]
  rw[show o1+(wn.off+j)*t.size=o1+wn.off*t.size+j*t.size by rw[Nat.add_mul];omega] at hR2
  exact hR2
theorem over_there(h:R m w0 MB s g a w){x:Operand}{n:Nat}{wn:Win}(hx:evalO s.slots x = .sl n [] wn){d:Dat}(hd:datAt s.objs n=some d)(hw:d.wr=true)(hh:d.hole=none){len c b o':Nat}(hxv:a.eval x = .slice (some ⟨b,o',none⟩) len c):w.there b o' (len*d.t.size):=by
 obtain⟨A,c',q1,q2,q3⟩:=sl_root h hx hd
 rw[hxv] at q1
 simp only[Value.slice.injEq] at q1
 obtain⟨rfl,rfl,rfl⟩:=q1
 intro j hj
 have hs:0<d.t.size:=by
  rcases Nat.eq_zero_or_pos d.t.size with q|q
  ·rw[q] at hj;simp at hj
  ·exact q
 have hjd:j / d.t.size<wn.lenN d.l.length:=Nat.div_lt_of_lt_mul (by rw[Nat.mul_comm];exact hj)
 obtain⟨b1,o1,r1,r2⟩:=q3 (Nat.lt_of_le_of_lt (Nat.zero_le _) hjd)
 simp only[Option.some.injEq,Addr.mk.injEq,and_true] at r2
 obtain⟨rfl,rfl⟩:=r2
 have hP:=rootPL_idx (g:=g) (n:=n) (d:=d) (i:=wn.off+j / d.t.size) (by generalize j / d.t.size=z at hjd ⊢;omega) r1
 have:=root_there h hd hw (.inl hh) (by simp) hP (j % d.t.size) (Nat.mod_lt _ hs)
 have e:o1+(wn.off+j / d.t.size)*d.t.size+j % d.t.size=o1+wn.off*d.t.size+j:=by
  have:=Nat.div_add_mod j d.t.size
  rw[Nat.mul_comm] at this
  rw[Nat.add_mul]
  generalize j / d.t.size*d.t.size=z at this ⊢
  generalize j % d.t.size=y at this ⊢
  generalize wn.off*d.t.size=x at *
  omega
 rw[e] at this
 exact this
theorem flat_len{t:Ty}(ys:List t.den):(ys.flatMap fun y=>cells t y t.dloc).length=ys.length*t.size:=by
 induction ys with
 |nil=>simp
 |cons y ys ih=>rw[List.flatMap_cons,List.length_append,ih,cells_length,List.length_cons,Nat.succ_mul];omega
theorem rowCells_flat{t:Ty}(hf:t.flat=true)(ys:List t.den)(l:Nat→t.loc):rowCells t ys l=ys.flatMap fun y=>cells t y t.dloc:=by
 unfold rowCells
 have:∀i,cells t (ys.getD i t.dflt) (l i)=cells t (ys.getD i t.dflt) t.dloc:=fun i=>cells_flat t hf _ _ _
 simp only[this]
 have e:ys=(List.range ys.length).map fun i=>ys.getD i t.dflt:=by
  apply List.ext_getElem
  ·simp
  ·intro i h1 h2
   simp[List.getD_eq_getElem?_getD,h1]
 conv=>rhs;rw[e]
 rw[List.flatMap_map]
theorem effOver_holds(h:R m w0 MB s g a w){o:Oper}{x:Operand}{n:Nat}{wn:Win}(hx:evalO s.slots x = .sl n [] wn){d:Dat}(hd:datAt s.objs n=some d){ys:List d.t.den}(hlen:ys.length≤wn.lenN d.l.length)(hok:d.t.flat=true→∀y,y∈ys→okV d.t y){sv:SV}{v:Value}(hsv:∀objs g,SRel objs g sv v){K:Eff→Option α}{r:α}
  (hK:effOver n d wn.off ys sv K=some r)
  (hrun:d.t.flat=true→∀A c,a.eval x = .slice A (wn.lenN d.l.length) c→∀b o',(0<wn.lenN d.l.length→A=some ⟨b,o',none⟩∧w.there b o' (wn.lenN d.l.length*d.t.size))→(execOp a.eval o).run P w = .ok (.value v) (w.setCells b o' (ys.flatMap fun y=>cells d.t y d.t.dloc))):
  ∃e,K e=some r∧Holds P m w0 MB s g o a w e:=by
 obtain⟨de,dt,dl,dw,df,dh⟩:=d
 unfold effOver at hK
 simp only at hK hlen hok hrun
 split at hK
 ·rename_i hf
  refine⟨_,hK,?_⟩
  obtain⟨A,c,q1,q2,q3⟩:=sl_root h hx hd
  simp only at q1 q2 q3
  obtain⟨b,o',hA⟩:∃b o',0<wn.lenN dl.length→A=some ⟨b,o',none⟩:=by
   rcases Nat.eq_zero_or_pos (wn.lenN dl.length) with q|q
   ·exact⟨0,0,fun z=>by omega⟩
   ·obtain⟨b,o1,_,r2⟩:=q3 q
    exact⟨b,_,fun _=>r2⟩
  have hr:=hrun hf A c q1 b o' fun q=>⟨hA q,by
   have e:=hA q
   subst e
   exact over_there h hx hd rfl rfl q1⟩
  obtain⟨g',hR⟩:=R.over hf q1 ys 0 s g w dl h hx hd (hok hf) (by omega) b o' fun q=>hA (by omega)
  refine does_run hr ⟨g',?_⟩
  have:=hR.quiet sv o.dst v (hsv _ _)
  simp only[Nat.zero_mul,Nat.add_zero] at this
  exact this
 ·cases hK
theorem clear_exec{o:Oper}{c:Call}{t:TypeId}{x:Operand}(ho:o.op = .call c)(hc:c.callee = .builtin .clear)(ha:c.args.toList=[x])(hat:c.argTypes.toList=[t]){v:Value}{w':World}
  (hr:(Builtin.clear_ #[t] o.type #[a.eval x]).run P w = .ok v w'):(execOp a.eval o).run P w = .ok (.value v) w':=by
 have e1:c.args = #[x]:=by rw[←Array.toList_inj];exact ha
 have e2:c.argTypes = #[t]:=by rw[←Array.toList_inj];exact hat
 unfold execOp
 rw[ho]
 simp only[resolve,hc,e1,e2,Sem.run_bind,Sem.run_pure,Result.andThen_ok,invoke,builtin,List.map_cons,List.map_nil,List.map_toArray,hr]
theorem clear_holds(T:TTok P E)(h:R m w0 MB s g a w){o:Oper}{c:Call}{t:TypeId}{x:Operand}(ho:o.op = .call c)(hc:c.callee = .builtin .clear)(ha:c.args.toList=[x])(hat:c.argTypes.toList=[t]){K:Eff→Option α}{r:α}
  (hK:effClear E s.objs t (evalO s.slots x) K=some r):∃e,K e=some r∧Holds P m w0 MB s g o a w e:=by
 unfold effClear at hK
 split at hK
 ·rename_i e u hx ht
  obtain⟨hu,_⟩:=T.row ht
  have hv:=h.eval x
  rw[hx] at hv
  have hv:a.eval x = .slice none 0 0:=hv
  exact⟨_,hK,holds_quiet h (v:=.tuple #[]) (clear_exec ho hc ha hat (by rw[hv];simp[Builtin.clear_,run_underlying hu])) ⟨[],rfl,rfl,fun i t u h=>by simp at h⟩⟩
 ·rename_i n wn e u hx ht
  obtain⟨hu,he⟩:=T.row ht
  split at hK
  ·rename_i d hd
   split at hK
   ·rename_i hdu
    subst hdu
    obtain⟨i,z,hi,hz,hzs,hzl⟩:=zero_list T he
    refine effOver_holds h hx hd (by rw[List.length_replicate,Win.len_eq];exact Nat.le_refl _) (fun _ y hy=>by rw[(List.mem_replicate.1 hy).2];exact dflt_ok _) (sv:=.tup []) (v:=.tuple #[]) (fun _ _=>⟨[],rfl,rfl,fun i t u h=>by simp at h⟩) hK fun hf A c' hv b o' hA=>?_
    refine clear_exec ho hc ha hat ?_
    rw[hv]
    rcases Nat.eq_zero_or_pos (wn.lenN d.l.length) with q|q
    ·rw[Win.len_eq,q]
     cases A<;>simp[Builtin.clear_,run_underlying hu,World.setCells]
    ·obtain⟨rfl,hth⟩:=hA q
     have hzl':=hzl (wn.lenN d.l.length)
     rw[rowCells_flat hf] at hzl'
     have hst:=run_storeCells_cells (P:=P) b o' ((List.replicate (wn.lenN d.l.length) d.t.dflt).flatMap fun y=>cells d.t y d.t.dloc) 0 w (fun j hj=>by
      rw[flat_len,List.length_replicate] at hj
      simpa using (hth j hj).1) (fun j hj=>by
      rw[flat_len,List.length_replicate] at hj
      simpa using (hth j hj).2) (by rw[←rowCells_flat hf _ fun _=>d.t.dloc];exact rowCells_one' _ _ _)
     simp only[Nat.add_zero] at hst
     rw[Win.len_eq]
     obtain⟨k,hk⟩:∃k,wn.lenN d.l.length=k+1:=⟨_,(Nat.succ_pred_eq_of_pos q).symm⟩
     rw[hk] at hst hzl' ⊢
     have hzc:(Builtin.zeroCells z.cells (k+1)).toList=(List.replicate (k+1) d.t.dflt).flatMap fun y=>cells d.t y d.t.dloc:=by
      unfold Builtin.zeroCells
      simp only[hzs] at hzl' ⊢
      exact hzl'
     simp[Builtin.clear_,run_underlying hu,zeroValue,typeInfo,hi,hz,hzc,hst]
   ·cases hK
  ·cases hK
 ·cases hK
theorem copy_exec{o:Oper}{c:Call}{t t':TypeId}{x y:Operand}(ho:o.op = .call c)(hc:c.callee = .builtin .copy)(ha:c.args.toList=[x,y])(hat:c.argTypes.toList=[t,t']){v:Value}{w':World}
  (hr:(Builtin.copy_ #[t,t'] o.type #[a.eval x,a.eval y]).run P w = .ok v w'):(execOp a.eval o).run P w = .ok (.value v) w':=by
 have e1:c.args = #[x,y]:=by rw[←Array.toList_inj];exact ha
 have e2:c.argTypes = #[t,t']:=by rw[←Array.toList_inj];exact hat
 unfold execOp
 rw[ho]
 simp only[resolve,hc,e1,e2,Sem.run_bind,Sem.run_pure,Result.andThen_ok,invoke,builtin,List.map_cons,List.map_nil,List.map_toArray,hr]
theorem copy_holds(T:TTok P E)(h:R m w0 MB s g a w){o:Oper}{c:Call}{t t':TypeId}{x y:Operand}(ho:o.op = .call c)(hc:c.callee = .builtin .copy)(ha:c.args.toList=[x,y])(hat:c.argTypes.toList=[t,t']){K:Eff→Option α}{r:α}
  (hK:effCopy E s.objs t (evalO s.slots x) (evalO s.slots y) K=some r):∃e,K e=some r∧Holds P m w0 MB s g o a w e:=by
 unfold effCopy at hK
 split at hK
 ·rename_i n wn e u hx ht
  obtain⟨hu,he⟩:=T.row ht
  split at hK
  ·rename_i d l2 ks hd hap
   split at hK
   ·rename_i hdu
    subst hdu
    obtain⟨A2,c2,locs2,v2,E2,_,_,_⟩:=appended_holds h (h.eval y) hap
    have e0:(List.take (wn.len d.l) l2).length=min (wn.lenN d.l.length) l2.length:=by rw[List.length_take,Win.len_eq]
    refine effOver_holds h hx hd (by show (List.take (wn.len d.l) l2).length≤_;rw[e0];exact Nat.min_le_left ..) (fun hf z hz=>?_) (sv:=.val (.int .i64) ((min (wn.len d.l) l2.length:Nat):Int)) (v:=.int .i64 ((min (wn.len d.l) l2.length:Nat):Int)) (fun _ _=>⟨rfl,trivial,rfl⟩) hK fun hf A c' hv b o' hA=>?_
    ·obtain⟨i,hi,rfl⟩:=List.mem_iff_getElem.1 (List.mem_of_mem_take hz)
     have:=ok_of_memH _ hf _ _ _ (E2.mem i hi)
     rw[List.getD_eq_getElem?_getD,List.getElem?_eq_getElem hi] at this
     exact this
    ·refine copy_exec ho hc ha hat ?_
     rw[hv,v2,Win.len_eq]
     obtain⟨ti,hti,hs,hp⟩:=T.size he
     have eN:(l2.take (wn.lenN d.l.length)).length=Nat.min l2.length (wn.lenN d.l.length):=by rw[List.length_take];exact Nat.min_comm ..
     have hfc:=run_first (P:=P) (size:=ti.size) (n:=Nat.min l2.length (wn.lenN d.l.length)) (k:=l2.length) (c:=c2) (A:=A2) (cs:=(l2.take (wn.lenN d.l.length)).flatMap fun y=>cells d.t y d.t.dloc) (w:=w) (by rw[flat_len,eN,hs]) (fun hn=>by
      obtain⟨b2,o2,r1,_,r3⟩:=E2.at_ (by have:=Nat.min_le_left l2.length (wn.lenN d.l.length);have e:Nat.min l2.length (wn.lenN d.l.length)=min l2.length (wn.lenN d.l.length):=rfl;omega)
      refine⟨b2,o2,r1,fun j v hj=>r3 j v ?_⟩
      rw[rowCells_flat hf]
      have e:(l2.flatMap fun y=>cells d.t y d.t.dloc)=((l2.take (wn.lenN d.l.length)).flatMap fun y=>cells d.t y d.t.dloc)++((l2.drop (wn.lenN d.l.length)).flatMap fun y=>cells d.t y d.t.dloc):=by rw[←List.flatMap_append,List.take_append_drop]
      rw[e,List.getElem?_append_left (List.getElem?_eq_some_iff.1 hj).1]
      exact hj)
     have hm:((min (wn.lenN d.l.length) l2.length:Nat):Int)=((Nat.min l2.length (wn.lenN d.l.length):Nat):Int):=congrArg _ (Nat.min_comm ..)
     rw[hm]
     rcases Nat.eq_zero_or_pos (wn.lenN d.l.length) with q|q
     ·rw[q] at hfc ⊢
      have ez:Nat.min l2.length 0=0:=Nat.min_zero _
      rw[ez] at hfc ⊢
      simp only[List.take_zero,List.flatMap_nil] at hfc ⊢
      cases A<;>simp[Builtin.copy_,run_underlying hu,sizeOf,typeInfo,hti,Builtin.lenOf,hfc,goInt,storeCells,World.setCells]
     ·obtain⟨rfl,hth⟩:=hA q
      have hst:=run_storeCells_cells (P:=P) b o' ((l2.take (wn.lenN d.l.length)).flatMap fun y=>cells d.t y d.t.dloc) 0 w (fun j hj=>by
       rw[flat_len] at hj
       simpa using (hth j (Nat.lt_of_lt_of_le hj (Nat.mul_le_mul_right _ (by rw[eN];exact Nat.min_le_right ..)))).1) (fun j hj=>by
       rw[flat_len] at hj
       simpa using (hth j (Nat.lt_of_lt_of_le hj (Nat.mul_le_mul_right _ (by rw[eN];exact Nat.min_le_right ..)))).2) (by rw[←rowCells_flat hf _ fun _=>d.t.dloc];exact rowCells_one' _ _ _)
      simp only[Nat.add_zero] at hst
      simp[Builtin.copy_,run_underlying hu,sizeOf,typeInfo,hti,Builtin.lenOf,hfc,goInt,hst]
   ·cases hK
  ·cases hK
 ·cases hK
theorem nil_holds(T:TTok P E)(h:R m w0 MB s g a w){o:Oper}{op:BinOp}{t t2:TypeId}{x y:Operand}(ho:o.op = .binOp op t x y t2)(hy:isNilSV (evalO s.slots y)=true){K:Eff→Option α}{r:α}
  (hK:effNil (E.TT t) s.objs op (evalO s.slots x) K=some r):∃e,K e=some r∧Holds P m w0 MB s g o a w e:=by
 have hyv:a.eval y = .slice none 0 0:=by
  have:=h.eval y
  cases hq:evalO s.slots y with
  |nil=>rw[hq] at this;exact this
  |_=>rw[hq] at hy;cases hy
 have hxv:=h.eval x
 unfold effNil at hK
 split at hK
 ·rename_i n p wn e u hx ht
  obtain⟨hu,_⟩:=T.row ht
  split at hK
  ·rename_i u' l hs
   rw[hx] at hxv
   obtain⟨d,A,c,locs,hd,hv,hc,hE⟩:=sl_elems h hxv hs
   have hr:(execOp a.eval o).run P w = .ok (.value (.bool A.isNone)) w:=run_binop ho hv hyv (by unfold eqGuard;simp) (Lib.run_eql_slice_nil w t e A l.length c 0 0 hu)
   cases q:List.isEmpty l with
   |true=>rw[q] at hK;exact⟨_,hK,holds_quiet h hr ⟨_,rfl⟩⟩
   |false=>
    rw[q] at hK
    refine⟨_,hK,holds_quiet h hr ?_⟩
    have hl:0<l.length:=by cases l with
     |nil=>cases q
     |cons _ _=>simp
    obtain⟨b,o',e1,_⟩:=hE.at_ hl
    subst e1
    exact⟨rfl,trivial,rfl⟩
  ·cases hK
 ·cases hK
end
end Go.Proofs.Ytlipfbihlmlplaa.G
namespace Go.Proofs.Ytlipfbihlmlplaa.G
open Go Go.RowKit
set_option linter.unusedVariables false
set_option linter.unusedSimpArgs false
theorem splice_left{A B vs:List Value}{k:Nat}(h:k+vs.length≤A.length):splice (A++B) k vs=splice A k vs++B:=by
 unfold splice
 rw[List.take_append_of_le_length (by omega),List.drop_append_of_le_length (by omega)]
 simp
theorem splice_right{A B vs:List Value}(k:Nat):splice (A++B) (A.length+k) vs=A++splice B k vs:=by
 unfold splice
 rw[List.take_length_add_append,Nat.add_assoc,List.drop_length_add_append]
 simp
theorem splice_splice{F vs:List Value}{a k sz:Nat}(h1:k+vs.length≤sz)(h2:a+sz≤F.length):splice F a (splice ((F.drop a).take sz) k vs)=splice F (a+k) vs:=by
 have hp:((F.drop a).take sz).length=sz:=by simp;omega
 have hs:(splice ((F.drop a).take sz) k vs).length=sz:=by rw[splice_length (by omega),hp]
 apply List.ext_getElem?
 intro j
 rw[splice_get (by omega),splice_get (by omega),hs]
 by_cases c1:a≤j∧j<a+sz
 ·rw[if_pos c1,splice_get (by omega)]
  by_cases c2:a+k≤j∧j<a+k+vs.length
  ·rw[if_pos (by omega),if_pos c2]
   congr 1
   omega
  ·rw[if_neg (by omega),if_neg c2,List.getElem?_take,if_pos (by omega),List.getElem?_drop]
   congr 1
   omega
 ·rw[if_neg c1,splice_get (by omega),if_neg (by omega)]
theorem put_part:∀(t:Ty),t.flat=true→∀(x:t.den) (l:t.loc) (b o:Nat) (p:List Stp) (Q:Pl) (y':Q.u.den) (x':t.den),getPL t x l b o p=some Q→setP t x p Q.u y'=some x'→okV t x→okV Q.u y' →
  okV t x'∧o≤Q.o∧Q.o+Q.u.size≤o+t.size∧encV t x'=splice (encV t x) (Q.o-o) (encV Q.u y')
 |t,hf,x,l,b,o,[],Q,y',x',h,hs,hx,hy=>by
  have e:Q=⟨t,x,l,b,o⟩:=by unfold getPL at h;cases t<;>exact (Option.some.inj h).symm
  subst e
  have e2:y'=x':=by unfold setP at hs;cases t<;>simpa[castD] using hs
  subst e2
  refine⟨hy,Nat.le_refl _,Nat.le_refl _,?_⟩
  simp only[Nat.sub_self]
  unfold splice
  rw[List.take_zero,List.nil_append,List.drop_eq_nil_of_le,List.append_nil]
  simp[encV,cells_length]
 |.st t,hf,x,l,b,o,s::p,Q,y',x',h,hs,hx,hy=>put_part t hf x l b o (s::p) Q y' x' h hs hx hy
 |.pair a c,hf,x,l,b,o,.fst::p,Q,y',x',h,hs,hx,hy=>by
  simp only[Ty.flat,Bool.and_eq_true] at hf
  unfold setP at hs
  split at hs
  ·rename_i z hz
   obtain rfl:=Option.some.inj hs
   obtain⟨k1,k2,k3,k4⟩:=put_part a hf.1 _ _ b o p Q y' z h hz hx.1 hy
   refine⟨⟨k1,hx.2⟩,k2,by simp only[Ty.size];omega,?_⟩
   rw[encV_pair,encV_pair,k4,splice_left]
   simp only[encV,cells_length]
   omega
  ·cases hs
 |.pair a c,hf,x,l,b,o,.snd::p,Q,y',x',h,hs,hx,hy=>by
  simp only[Ty.flat,Bool.and_eq_true] at hf
  unfold setP at hs
  split at hs
  ·rename_i z hz
   obtain rfl:=Option.some.inj hs
   obtain⟨k1,k2,k3,k4⟩:=put_part c hf.2 _ _ b _ p Q y' z h hz hx.2 hy
   refine⟨⟨hx.1,k1⟩,by omega,by simp only[Ty.size];omega,?_⟩
   rw[encV_pair,encV_pair,k4]
   have:(encV a x.1).length=a.size:=cells_length _ _ _
   rw[←splice_right,this]
   congr 1
   omega
  ·cases hs
 |.arr n t,hf,x,l,b,o,.idx i::p,Q,y',x',h,hs,hx,hy=>by
  unfold setP at hs
  split at hs
  ·rename_i z hz
   obtain rfl:=Option.some.inj hs
   unfold getPL at h
   split at h
   ·rename_i hi
    have hix:i<List.length x:=by have:=hx.1;omega
    obtain⟨k1,k2,k3,k4⟩:=put_part t hf _ _ b _ p Q y' z h hz (hx.2 i hi) hy
    have hle:i*t.size+t.size≤n*t.size:=by rw[←Nat.succ_mul];exact Nat.mul_le_mul_right _ hi
    refine⟨⟨by rw[List.length_set];exact hx.1,fun j hj=>?_⟩,by omega,by simp only[Ty.size];omega,?_⟩
    ·by_cases e:j=i
     ·subst e;rw[getD_set_self hix];exact k1
     ·rw[getD_set_ne (Ne.symm e)];exact hx.2 j hj
    ·have e1:encV (.arr n t) (List.set x i z)=(List.range n).flatMap fun j=>if j=i then encV t z else encV t (List.getD x j t.dflt):=by
      unfold encV
      simp only[cells]
      refine flatMap_congr_range (fun j hj=>?_)
      by_cases e:j=i
      ·subst e;rw[getD_set_self hix,if_pos rfl];rfl
      ·rw[getD_set_ne (Ne.symm e),if_neg e];rfl
     have e2:encV (.arr n t) x=(List.range n).flatMap fun j=>encV t (List.getD x j t.dflt):=rfl
     have hlen:=flatMap_range_length (fun j=>encV t (List.getD x j t.dflt)) t.size (fun j=>cells_length _ _ _) n
     have hpart:=flatMap_range_get (fun j=>encV t (List.getD x j t.dflt)) t.size (fun j=>cells_length _ _ _) n i hi
     rw[e1,e2,flatMap_splice (fun j=>encV t (List.getD x j t.dflt)) t.size (fun j=>cells_length _ _ _) (encV t z) (cells_length _ _ _) i n hi,k4]
     rw[←hpart] at *
     rw[splice_splice]
     ·congr 1
      omega
     ·have:(encV Q.u y').length=Q.u.size:=cells_length _ _ _
      omega
     ·rw[hlen];exact hle
   ·cases h
  ·cases hs
 |.row _ _,hf,_,_,_,_,_,_,_,_,_,_,_,_=>by cases hf
 |.int _,_,_,_,_,_,_::_,_,_,_,h,_,_,_=>by cases h
 |.bool,_,_,_,_,_,_::_,_,_,_,h,_,_,_=>by cases h
 |.str,_,_,_,_,_,_::_,_,_,_,h,_,_,_=>by cases h
 |.pair _ _,_,_,_,_,_,.idx _::_,_,_,_,h,_,_,_=>by cases h
 |.arr _ _,_,_,_,_,_,.fst::_,_,_,_,h,_,_,_=>by cases h
 |.arr _ _,_,_,_,_,_,.snd::_,_,_,_,h,_,_,_=>by cases h
section
variable {P:Program} {E:Env} {m:Nat} {w0:World} {MB:Out} {s:St} {g:Gh} {a:Act} {w:World} {α:Type}
theorem parts_hold(h:R m w0 MB s g a w)(t:Ty)(hf:t.flat=true)(path:Nat→Option (List Stp))(place:Nat→Option (Nat×Nat))
  (hpp:∀f p,path f=some p→∀x:t.den,okV t x→∃Q,getPL t x t.dloc 0 0 p=some Q∧place f=some (Q.o,Q.u.size)∧∀b c,Q.u≠.pair b c):
  ∀(ps:List (Nat×Operand)) (x x':t.den) (arr:Array Value),buildParts path t x (ps.map fun q=>(q.1,evalO s.slots q.2))=some x'→okV t x→arr.toList=encV t x →
   ∃arr',Instr.fill place arr (ps.map fun q=>(q.1,a.eval q.2))=some arr'∧arr'.toList=encV t x'∧okV t x'
 |[],x,x',arr,hb,ho,ha=>by
  simp[buildParts] at hb
  subst hb
  exact⟨arr,rfl,ha,ho⟩
 |(f,v)::ps,x,x',arr,hb,ho,ha=>by
  have hv:=h.eval v
  simp only[List.map_cons] at hb ⊢
  unfold buildParts at hb
  split at hb
  ·rename_i hq;cases hq
  ·rename_i f' u y r hq
   simp only[List.cons.injEq,Prod.mk.injEq] at hq
   obtain⟨⟨rfl,h2⟩,rfl⟩:=hq
   split at hb
   ·rename_i p hp
    split at hb
    ·rename_i z hz
     obtain⟨Q,h3,h4,h5⟩:=hpp f p hp _ ho
     have e:=setP_type _ _ _ _ _ _ _ _ _ _ h3 hz
     subst e
     rw[h2] at hv
     obtain⟨k1,k2,k3,k4⟩:=put_part t hf _ _ 0 0 p Q y z h3 hz ho hv.2.1
     have hcv:(a.eval v).cells.toList=encV Q.u y:=by rw[hv.2.2];exact toV_cells hv.1 h5 y
     have hl:arr.size=t.size:=by rw[←Array.length_toList,ha];exact cells_length _ _ _
     obtain⟨arr',e1,e2,e3⟩:=fill_cons (place:=place) (cells:=arr) (i:=f) (v:=a.eval v) (rest:=ps.map fun q=>(q.1,a.eval q.2)) h4 (by rw[←Array.length_toList,hcv];exact cells_length _ _ _) (by omega)
     rw[e1]
     refine parts_hold h t hf path place hpp ps z x' arr' hb k1 ?_
     rw[e3,ha,hcv,k4]
     rfl
    ·cases hb
   ·cases hb
  ·cases hb
theorem fields_places(T:TTok P E):∀(t:Ty) (off:Nat) (fs:List Field),fieldsOk E.TT t off fs=true →
  ∃places,fs.mapM (fun f=>(P.info? f.type).map fun i=>(f.offset,i.size))=some places∧∀(f:Nat) (fld:Field) (u:Ty),fs[f]? = some fld→E.TT fld.type=some u→places[f]? = some (fld.offset,u.size)
 |t,off,[],h=>by cases t<;>cases h
 |t,off,fl::fs,h=>by
  have one:∀{u:Ty},E.TT fl.type=some u→∃i,P.info? fl.type=some i∧i.size=u.size:=fun hu=>by
   obtain⟨i,q1,q2,_⟩:=T.size hu
   exact⟨i,q1,q2⟩
  have two:∀{u:Ty} {rest:List (Nat×Nat)},E.TT fl.type=some u→fs.mapM (fun f=>(P.info? f.type).map fun i=>(f.offset,i.size))=some rest→(∀(f:Nat) (fld:Field) (u:Ty),fs[f]? = some fld→E.TT fld.type=some u→rest[f]? = some (fld.offset,u.size)) →
    ∃places,(fl::fs).mapM (fun f=>(P.info? f.type).map fun i=>(f.offset,i.size))=some places∧∀(f:Nat) (fld:Field) (u:Ty),(fl::fs)[f]? = some fld→E.TT fld.type=some u→places[f]? = some (fld.offset,u.size):=by
   intro u rest hu hr hrest
   obtain⟨i,q1,q2⟩:=one hu
   refine⟨(fl.offset,i.size)::rest,by simp[List.mapM_cons,q1,hr],fun f fld u' hf hu'=>?_⟩
   cases f with
   |zero=>
    simp only[List.getElem?_cons_zero,Option.some.injEq] at hf
    subst hf
    rw[hu] at hu'
    obtain rfl:=Option.some.inj hu'
    simp[q2]
   |succ f=>
    simp only[List.getElem?_cons_succ] at hf ⊢
    exact hrest f fld u' hf hu'
  have last:(∀a b,t≠.pair a b)→fs=[]∧E.TT fl.type=some t:=fun ht=>by
   cases fs with
   |nil=>cases t<;>first|exact absurd rfl (ht _ _)|(simp[fieldsOk] at h;exact⟨rfl,h.2.1⟩)
   |cons _ _=>cases t<;>first|exact absurd rfl (ht _ _)|simp[fieldsOk] at h
  by_cases hp:∃c d,t = .pair c d
  ·obtain⟨c,d,rfl⟩:=hp
   simp only[fieldsOk,Bool.and_eq_true,beq_iff_eq] at h
   obtain⟨rest,r1,r2⟩:=fields_places T d (off+c.size) fs h.2.2.2.2
   exact two h.2.1 r1 r2
  ·obtain⟨rfl,hu⟩:=last (fun c d e=>hp ⟨c,d,e⟩)
   exact two (rest:=[]) hu (by simp) (fun f fld u hf=>by simp at hf)
theorem build_holds(T:TTok P E)(h:R m w0 MB s g a w){o:Oper}{t:TypeId}{ps:Array (Nat×Operand)}(ho:o.op = .build t ps){K:Eff→Option α}{r:α}
  (hK:effBuild E t (ps.toList.map fun q=>(q.1,evalO s.slots q.2)) K=some r):∃e,K e=some r∧Holds P m w0 MB s g o a w e:=by
 have fin:∀{u:Ty} {x:u.den},u.flat=true→u.isAgg=true→∀arr:Array Value,P.built t (ps.map fun q=>(q.1,a.eval q.2)).toList=some arr→arr.toList=encV u x→okV u x→Holds P m w0 MB s g o a w { v:=.val u x }:=by
  intro u x hf hg arr hb ha ho'
  have hr:=run_build (P:=P) w t (ps.map fun q=>(q.1,a.eval q.2)) arr hb
  have ev:Value.agg arr=toV u x:=by rw[agg_of hg,←ha]
  refine holds_quiet h (v:=toV u x) ?_ ⟨hf,ho',rfl⟩
  unfold execOp
  rw[ho]
  rw[←ev]
  simp only[Sem.run_bind,hr,Result.andThen_ok,Sem.run_pure]
 unfold effBuild at hK
 split at hK
 ·rename_i b ht
  split at hK
  ·rename_i x hf hb
   refine⟨_,hK,?_⟩
   obtain⟨i,z,hi,hz,hc⟩:=T.zero t _ ht
   obtain⟨fs,hu,hfo,_⟩:=T.st ht
   obtain⟨places,hp1,hp2⟩:=fields_places T b 0 fs.toList hfo
   obtain⟨arr',e1,e2,e3⟩:=parts_hold h (.st b) hf (fpath (.st b)) (places.toArray[·]?) (fun f p hp x hx=>by
    obtain⟨c1,c2,e,hq'⟩:=fpath_st hp
    cases e
    obtain⟨fld,Q,h1,h2,h3,h4,h5,h6⟩:=field_PL (.pair c1 c2) f p fs.toList 0 x (Ty.pair c1 c2).dloc 0 0 hfo hq'
    refine⟨Q,?_,?_,fun b c e=>T.nopair (e▸h5)⟩
    ·match p,fpathIn_ne hq' with
     |s::q,_=>exact h2
    ·have:=hp2 f fld Q.u h1 h5
     simp only[List.getElem?_toArray,this]
     rw[show Q.o=fld.offset by omega]) ps.toList _ x z.cells hb (dflt_ok _) hc
   refine fin hf rfl arr' ?_ e2 e3
   unfold Program.built
   simp only[hi,hu,hz,hp1,map_parts]
   exact e1
  ·cases hK
 ·rename_i n u ht
  split at hK
  ·rename_i x hf hb
   refine⟨_,hK,?_⟩
   obtain⟨i,z,hi,hz,hc⟩:=T.zero t _ ht
   obtain⟨e,hu,he⟩:=T.arr ht
   obtain⟨ie,q1,q2,_⟩:=T.size he
   obtain⟨arr',e1,e2,e3⟩:=parts_hold h (.arr n u) hf (fun i=>if i<n then some [.idx i] else none) (fun i=>some (i*ie.size,ie.size)) (fun f p hp x hx=>by
    split at hp
    ·rename_i hlt
     obtain rfl:=Option.some.inj hp
     refine⟨⟨u,List.getD x f u.dflt,u.dloc,0,0+f*u.size⟩,?_,by simp[q2],fun b c e2=>T.nopair (c:=c) (b:=b) (he.trans (congrArg some e2))⟩
     unfold getPL
     rw[if_pos hlt,getPL_nil]
     rfl
    ·cases hp) ps.toList _ x z.cells hb (dflt_ok _) hc
   refine fin hf rfl arr' ?_ e2 e3
   unfold Program.built
   simp only[hi,hu,hz,q1,map_parts]
   exact e1
  ·cases hK
 ·cases hK
end
end Go.Proofs.Ytlipfbihlmlplaa.G
namespace Go.Proofs.Ytlipfbihlmlplaa.G
open Go Go.RowKit
set_option linter.unusedVariables false
set_option linter.unusedSimpArgs false
theorem hdrBlk_weak{own:Bool}{h:Hdr}{n:Nat}:∀k,k∈hdrBlk false h n→k∈hdrBlk own h n:=by
 intro k hk
 unfold hdrBlk at hk ⊢
 split at hk
 ·split at hk
  ·rename_i hc
   simp only[Bool.false_eq_true,false_and,false_or] at hc
   rw[if_pos (.inr hc)]
   exact hk
  ·cases hk
 ·cases hk
theorem memH_weak{w:World}{own:Bool}:∀(t:Ty) (x:t.den) (l:t.loc),memH w own t none x l→memH w false t none x l∧∀k,k∈blks false t none x l→k∈blks own t none x l
 |.int _,_,_,_=>⟨trivial,fun k hk=>by cases hk⟩
 |.bool,_,_,_=>⟨trivial,fun k hk=>by cases hk⟩
 |.str,_,_,_=>⟨trivial,fun k hk=>by cases hk⟩
 |.pair a b,x,l,m=>by
  obtain⟨h1,h2⟩:=memH_weak a _ _ m.1
  obtain⟨h3,h4⟩:=memH_weak b _ _ m.2
  refine⟨⟨h1,h3⟩,fun k hk=>?_⟩
  rcases List.mem_append.1 hk with hk|hk
  ·exact List.mem_append_left _ (h2 k hk)
  ·exact List.mem_append_right _ (h4 k hk)
 |.st t,x,l,m=>memH_weak t x l m
 |.arr n t,x,l,m=>by
  refine⟨⟨m.1,fun i hi=>(memH_weak t _ _ (m.2 i hi)).1⟩,fun k hk=>?_⟩
  obtain⟨i,hi,hk⟩:=List.mem_flatMap.1 hk
  exact List.mem_flatMap.2 ⟨i,hi,(memH_weak t _ _ (m.2 i (List.mem_range.1 hi))).2 k hk⟩
 |.row e t,x,l,m=>by
  have m:=m.resolve_left (by simp[lent])
  refine⟨.inr ⟨⟨m.1.le,m.1.at_,fun q=>by cases q⟩,fun i hi=>(memH_weak t _ _ (m.2 i hi)).1⟩,fun k hk=>?_⟩
  simp only[blks,lent,Bool.false_eq_true,if_false] at hk ⊢
  rcases List.mem_append.1 hk with hk|hk
  ·exact List.mem_append_left _ (hdrBlk_weak k hk)
  ·obtain⟨i,hi,hk⟩:=List.mem_flatMap.1 hk
   exact List.mem_append_right _ (List.mem_flatMap.2 ⟨i,hi,(memH_weak t _ _ (m.2 i (List.mem_range.1 hi))).2 k hk⟩)
section
variable {P:Program} {E:Env} {m:Nat} {w0:World} {MB:Out} {s:St} {g:Gh} {a:Act} {w:World} {α:Type}
theorem sl_shown(h:R m w0 MB s g a w){n:Nat}{p:List Stp}{wn:Win}{v:Value}(hv:SlRel s.objs g n p wn v){u:Ty}{l:List u.den}(hs:shows s.objs n p wn=some ⟨u,l⟩)(e:TypeId):
  ∃d A c locs,datAt s.objs n=some d∧v = .slice A l.length c∧memH w false (.row e u) none l (⟨A,c⟩,locs)∧SlV false u.size ⟨A,c⟩ l.length none v∧∀b,b∈blks false (.row e u) none l (⟨A,c⟩,locs)→b∈blksD g n d:=by
 obtain⟨d,Q,sz,hd,tot,g1,g2,g3,g4,g5⟩:=hv
 obtain⟨A,c,e1,e2,e3,e4,e5⟩:=g5
 have main:∀(Y:List u.den) (locs:Nat→u.loc),Y.length=tot→sz=u.size→wn.cut Y=l →
   (∀b o,hd.A=some ⟨b,o,none⟩→0<tot→b∈blksD g n d∧b<w.heap.size∧∀i,i<tot→w.rangeAt b (o+i*u.size) (cells u (Y.getD i u.dflt) (locs i)))→(∀i,i<tot→memH w false u none (Y.getD i u.dflt) (locs i)∧∀b,b∈blks false u none (Y.getD i u.dflt) (locs i)→b∈blksD g n d) →
   ∃d A c locs,datAt s.objs n=some d∧v = .slice A l.length c∧memH w false (.row e u) none l (⟨A,c⟩,locs)∧SlV false u.size ⟨A,c⟩ l.length none v∧∀b,b∈blks false (.row e u) none l (⟨A,c⟩,locs)→b∈blksD g n d:=by
  intro Y locs hY hsz hl hr hm
  subst hl
  have hlen:(wn.cut Y).length=wn.lenN tot:=by rw[←hY];exact cut_length (by rw[hY];exact e2)
  have hat:0<(wn.cut Y).length→∃b o,A=some ⟨b,o,none⟩∧b∈blksD g n d∧b<w.heap.size∧w.rangeAt b o (rowCells u (wn.cut Y) (fun i=>locs (wn.off+i))):=fun hn=>by
   obtain⟨b,o,q1,q2⟩:=e4 (by omega)
   obtain⟨q5,q3,q4⟩:=hr b o q1 (by omega)
   refine⟨b,_,q2,q5,q3,(rangeAt_flatMap _ _ (fun i=>cells_length u _ _) _).2 (fun i hi=>?_)⟩
   rw[cut_getD hi,hsz]
   have:=q4 (wn.off+i) (by omega)
   rwa[Nat.add_mul,←Nat.add_assoc] at this
  have hel:∀i,i<(wn.cut Y).length→memH w false u none ((wn.cut Y).getD i u.dflt) (locs (wn.off+i))∧∀b,b∈blks false u none ((wn.cut Y).getD i u.dflt) (locs (wn.off+i))→b∈blksD g n d:=fun i hi=>by
   rw[cut_getD hi]
   exact hm _ (by omega)
  refine⟨d,A,c,fun i=>locs (wn.off+i),g1,by rw[hlen];exact e1,.inr ⟨⟨by rw[hlen];exact e3,fun hn=>?_,fun q=>by cases q⟩,fun i hi=>(hel i hi).1⟩,⟨A,c,by rw[e1,hlen];rfl,by simp[Win.off,Win.lenN],by simp only[Win.lenN];rw[hlen];exact e3,fun hn=>?_,fun q=>by cases q⟩,fun b hb=>?_⟩
  ·obtain⟨b,o,q1,q2,q3,q4⟩:=hat hn
   exact⟨b,o,q1,q3,q4⟩
  ·obtain⟨b,o,q1,_⟩:=hat hn
   exact⟨b,o,q1,by simp[Win.off,q1]⟩
  ·simp only[blks,lent,Bool.false_eq_true,if_false] at hb
   rcases List.mem_append.1 hb with hb|hb
   ·unfold hdrBlk at hb
    simp only[Bool.false_eq_true,false_and,false_or] at hb
    split at hb
    ·rename_i ad
     split at hb
     ·rename_i hn
      obtain⟨b',o',q1,q2,_⟩:=hat hn
      obtain rfl:=Option.some.inj q1
      obtain rfl:=List.mem_singleton.1 hb
      exact q2
     ·cases hb
    ·cases hb
   ·obtain⟨i,hi,hb⟩:=List.mem_flatMap.1 hb
    exact (hel i (List.mem_range.1 hi)).2 b hb
 unfold shows at hs
 split at hs
 ·rename_i e' u' Y hz
  obtain⟨hze,hh⟩:=place_of g1 g3 hz
  obtain⟨uq,yq,lq,bq,oq⟩:=Q
  cases hze
  simp only[hdrP,Option.some.injEq,Prod.mk.injEq] at g4
  obtain⟨rfl,rfl,rfl⟩:=g4
  simp only[Option.some.injEq] at hs
  cases hs
  have hm0:memH w d.wr (.row e' u) none yq lq∧∀b,b∈blks d.wr (.row e' u) none yq lq→b∈blksD g n d:=by
   by_cases hp:p=[]
   ·subst hp
    have hm:=h.dat n d g1
    rw[hh] at hm
    unfold rootPL at g3
    rw[getPL_nil] at g3
    cases g3
    exact⟨hm,fun b hb=>by unfold blksD;rw[hh];exact hb⟩
   ·exact⟨(root_read h g1 hh hp g3).2,fun b hb=>by unfold blksD;rw[hh];exact PL_blks (own:=d.wr) _ _ _ _ _ _ _ g3 b hb⟩
  have hm1:=hm0.1.resolve_left (by simp[lent])
  have hbq:∀b,b∈hdrBlk d.wr lq.1 (List.length yq)++(List.range (List.length yq)).flatMap (fun i=>blks d.wr u none (List.getD yq i u.dflt) (lq.2 i))→b∈blksD g n d:=hm0.2
  refine main yq lq.2 rfl rfl rfl (fun b o hA hn=>?_) (fun i hi=>?_)
  ·obtain⟨b',o',q1,q2,q3⟩:=hm1.1.at_ hn
   rw[hA] at q1
   obtain⟨rfl,rfl⟩:b=b'∧o=o':=by simpa using q1
   refine⟨hbq b (List.mem_append_left _ ?_),q2,(rangeAt_flatMap _ _ (fun i=>cells_length u _ _) _).1 q3⟩
   unfold hdrBlk;rw[hA];simp[hn]
  ·obtain⟨q1,q2⟩:=memH_weak _ _ _ (hm1.2 i hi)
   exact⟨q1,fun b hb=>hbq b (List.mem_append_right _ (List.mem_flatMap.2 ⟨i,List.mem_range.2 hi,q2 b hb⟩))⟩
 ·rename_i e' u' Y hz
  obtain⟨hze,hh⟩:=place_of g1 g3 hz
  obtain⟨uq,yq,lq,bq,oq⟩:=Q
  cases hze
  simp only[hdrP,Option.some.injEq,Prod.mk.injEq] at g4
  obtain⟨rfl,rfl,rfl⟩:=g4
  simp only[Option.some.injEq] at hs
  cases hs
  have hp:p≠[]:=fun e=>by
   subst e
   unfold rootPL at g3
   rw[getPL_nil] at g3
   cases g3
  obtain⟨r1,m1⟩:=root_read h g1 hh hp g3
  have hin:∀b,b∈blks d.wr (.arr e' u) none yq lq→b∈blksD g n d:=fun b hb=>by unfold blksD;rw[hh];exact PL_blks (own:=d.wr) _ _ _ _ _ _ _ g3 b hb
  refine main yq lq m1.1 rfl rfl (fun b o hA hn=>?_) (fun i hi=>?_)
  ·obtain⟨rfl,rfl⟩:bq=b∧oq=o:=by simpa using hA
   have r2:=(rangeAt_flatMap _ _ (fun i=>cells_length u _ _) _).1 r1
   have hb:=root_blk hp (by rw[hh];exact .inl rfl) g3
   exact⟨hb,blks_lt _ _ _ _ (h.dat n d g1) _ hb,r2⟩
  ·obtain⟨q1,q2⟩:=memH_weak _ _ _ (m1.2 i hi)
   exact⟨q1,fun b hb=>hin b (List.mem_flatMap.2 ⟨i,List.mem_range.2 hi,q2 b hb⟩)⟩
 ·cases hs
end
end Go.Proofs.Ytlipfbihlmlplaa.G
