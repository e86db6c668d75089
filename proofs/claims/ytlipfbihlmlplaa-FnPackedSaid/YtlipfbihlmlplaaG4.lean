/- A reading of Go's operations over plain values, and its proof against the model: part 4. -/
import Derived.Orders
import Derived.ProofKit
import Derived.OpenShut
import Derived.DataReads
import Derived.Deep.Slices
import Derived.WideShapes
import Derived.IntWalk
import Derived.Below
import Derived.Test.YtlipfbihlmlplaaG3
namespace Go.Proofs.Ytlipfbihlmlplaa.G
open Go Go.RowKit
set_option linter.unusedVariables false
set_option linter.unusedSimpArgs false
section
variable {E:Env} {α:Type} {objs:List (Option Ob)} {n:Nat} {r:α}
theorem Known.mono{l k:List Nat}{e:Eff}(h:Known l e)(hl:∀n,n∈l→n∈k):Known k e:=fun n hn=>(h n hn).imp (hl n) id
theorem rets_names{muts:List Nat}{xs:List SV}:∀(rets:List RV) (ns:List Nat) (ts:List TV) (us:List (Nat×Option Ob)),retsOf objs muts xs ns rets=some (ts,us) →
  ∀n p w,TV.sl n p w∈ts→n∈us.map (·.1)∨∃p' w',SV.sl n p' w'∈xs
 |[],ns,ts,us,h,n,p,w,hm=>by
  simp only[retsOf,Option.some.injEq,Prod.mk.injEq] at h
  obtain⟨rfl,rfl⟩:=h
  cases hm
 |rv::rs,ns,ts,us,h,n,p,w,hm=>by
  unfold retsOf at h
  split at h
  ·rename_i t u ns' h1
   split at h
   ·rename_i ts' us' h2
    simp only[Option.some.injEq,Prod.mk.injEq] at h
    obtain⟨rfl,rfl⟩:=h
    rw[List.map_append]
    rcases List.mem_cons.1 hm with rfl|hm
    ·cases rv with
     |val _ _=>cases ns<;>simp[retOf] at h1
     |nil=>cases ns<;>simp[retOf] at h1
     |own c=>
      cases ns with
      |nil=>simp[retOf] at h1
      |cons nm ns=>
       simp only[retOf,Option.some.injEq,Prod.mk.injEq,TV.sl.injEq] at h1
       obtain⟨⟨rfl,_,_⟩,rfl,_⟩:=h1
       exact .inl (by simp)
     |al i wv=>
      have key:∃p',xs[i]? = some (.sl n p' none):=by
       cases hx:xs[i]? with
       |none=>cases ns<;>simp[retOf,hx] at h1
       |some x=>
        cases x with
        |sl n' p' w'=>
         cases w' with
         |none=>
          cases hd:datAt objs n' with
          |none=>cases ns<;>simp[retOf,hx,hd] at h1
          |some d=>
           have:n'=n:=by
            cases hw:d.wr<;>cases hmu:muts.contains i<;>cases ns<;>simp only[retOf,hx,hd,hw,hmu,Option.some.injEq,Prod.mk.injEq,TV.sl.injEq] at h1<;>first|exact h1.1.1|cases h1
           rw[this]
           exact⟨p',rfl⟩
         |some _=>cases ns<;>simp[retOf,hx] at h1
        |_=>cases ns<;>simp[retOf,hx] at h1
      obtain⟨p',hx⟩:=key
      exact .inr ⟨p',none,List.mem_of_getElem? hx⟩
    ·exact (rets_names rs ns' ts' us' h2 n p w hm).imp (fun q=>List.mem_append_right _ q) id
   ·cases h
  ·cases h
theorem svOf_names{ts:List TV}{n:Nat}(h:n∈dirNames (svOf ts)):∃p w,TV.sl n p w∈ts:=by
 match ts,h with
 |[.val _ _],h=>cases h
 |[.sl k p w],h=>simp only[svOf,dirNames,List.mem_singleton] at h;subst h;exact⟨p,w,by simp⟩
 |[.nil],h=>cases h
 |t1::t2::ts,h=>
  have e1:svOf (t1::t2::ts) = .tup (t1::t2::ts):=by cases t1<;>rfl
  rw[e1] at h
  obtain⟨t,ht,hn⟩:=List.mem_flatMap.1 h
  cases t with
  |sl k p w=>simp only[List.mem_singleton] at hn;subst hn;exact⟨p,w,ht⟩
  |_=>cases hn
theorem law_call{dn dn2:Nat}{f:FuncId}{as:List (TypeId×SV)}{caps:List (Nat×List Stp)}{K:Eff→Option α}(hK:effCall E objs dn dn2 f as caps K=some r):
  ∃e,K e=some r∧Known ((as.map (·.2)).flatMap (namesOf objs)) e∧∀(β:Type) (K':Eff→Option β),effCall E objs dn dn2 f as caps K'=K' e:=by
 unfold effCall at hK
 split at hK
 ·rename_i sig l cs h1 h2 h3
  simp only at hK
  split at hK
  ·rename_i hm
   rw[sig.law] at hK
   obtain⟨res,hres,hK⟩:=Option.bind_eq_some_iff.1 hK
   split at hK
   ·rename_i u ts us hp hr
    refine⟨_,hK,fun n hn=>?_,fun β K'=>?_⟩
    ·obtain⟨p,w,ht⟩:=svOf_names hn
     rcases rets_names _ _ _ _ hr n p w ht with q|⟨p',w',q⟩
     ·right;rw[List.map_append];exact List.mem_append_right _ q
     ·left
      rcases List.mem_append.1 q with q|q
      ·exact List.mem_flatMap.2 ⟨_,q,by simp[namesOf]⟩
      ·obtain⟨c,_,e⟩:=List.mem_map.1 q
       cases e
    ·unfold effCall
     rw[h2,h1]
     simp only[h3,hm]
     rw[sig.law,hres]
     simp only[Option.bind_some,hp,hr]
   ·cases hK
  ·cases hK
 ·cases hK
theorem plain_names{rets:List RV}{ts:List TV}(h:plainRets rets=some ts):∀n p w,TV.sl n p w∉ts:=by
 induction rets generalizing ts with
 |nil=>simp only[plainRets,Option.some.injEq] at h;subst h;simp
 |cons r rs ih=>
  unfold plainRets at h
  split at h
  ·rename_i e;cases e
  ·rename_i t y r' e
   simp only[List.cons.injEq] at e
   obtain⟨rfl,rfl⟩:=e
   split at h
   ·rename_i l hl
    obtain rfl:=Option.some.inj h
    intro n p w hm
    rcases List.mem_cons.1 hm with q|q
    ·cases q
    ·exact ih hl n p w q
   ·cases h
  ·cases h
theorem law_callIn{dn:Nat}{f:FuncId}{as:List (TypeId×SV)}{caps:List (Nat×List Stp)}{K:Eff→Option α}(hK:effCallIn E objs dn f as caps K=some r):
  ∃e,K e=some r∧Known ((as.map (·.2)).flatMap (namesOf objs)) e∧∀(β:Type) (K':Eff→Option β),effCallIn E objs dn f as caps K'=K' e:=by
 unfold effCallIn at hK
 split at hK
 ·rename_i sig l cs h1 h2 h3
  simp only at hK
  split at hK
  ·rename_i i hmu
   split at hK
   ·rename_i n q0 q hxi
    split at hK
    ·rename_i d hd
     split at hK
     ·rename_i e' u' y hw hh hgp
      split at hK
      ·rename_i hno
       rw[sig.law] at hK
       obtain⟨res,hres,hK⟩:=Option.bind_eq_some_iff.1 hK
       split at hK
       ·rename_i c ts hrm hpl
        split at hK
        ·rename_i hct
         split at hK
         ·rename_i d' hput
          refine⟨_,hK,fun n hn=>?_,fun β K'=>?_⟩
          ·obtain⟨p,w,ht⟩:=svOf_names hn
           exact absurd ht (plain_names hpl n p w)
          ·unfold effCallIn
           rw[h2,h1]
           simp only[h3,hmu,hxi,hd,hw,hh,hgp,hno]
           rw[sig.law,hres]
           simp only[Option.bind_some,hrm,hpl,hct,dif_pos,hput]
         ·cases hK
        ·cases hK
       ·cases hK
      ·cases hK
     ·cases hK
    ·cases hK
   ·cases hK
  ·cases hK
 ·cases hK
theorem law_callAny{dn dn2:Nat}{f:FuncId}{as:List (TypeId×SV)}{caps:List (Nat×List Stp)}{K:Eff→Option α}(hK:effCallAny E objs dn dn2 f as caps K=some r):
  ∃e,K e=some r∧Known ((as.map (·.2)).flatMap (namesOf objs)) e∧∀(β:Type) (K':Eff→Option β),effCallAny E objs dn dn2 f as caps K'=K' e:=by
 unfold effCallAny at hK
 split at hK
 ·rename_i hi
  obtain⟨e,e1,e2,e3⟩:=law_callIn hK
  exact⟨e,e1,e2,fun β K'=>by unfold effCallAny;rw[hi];exact e3 β K'⟩
 ·rename_i hi
  obtain⟨e,e1,e2,e3⟩:=law_call hK
  exact⟨e,e1,e2,fun β K'=>by unfold effCallAny;rw[hi];exact e3 β K'⟩
def Hands(slots:List SV)(o:Oper)(e:Eff):Prop:=e.upd=[]∧e.kill=[]∧e.loose=[]∧(∀n,n∈dirNames e.v→n∈(opSVs slots o).flatMap dirNames)∧(inner e.v=true→e.v∈opSVs slots o)
theorem caps_names:∀(l:List SV) (cs:List (Nat×List Stp)),capsOf l=some cs→∀c,c∈cs→c.1∈l.flatMap dirNames
 |[],cs,h,c,hc=>by simp[capsOf] at h;subst h;cases hc
 |x::l,cs,h,c,hc=>by
  unfold capsOf at h
  split at h
  ·rename_i e;cases e
  ·rename_i n p r e
   simp only[List.cons.injEq] at e
   obtain⟨rfl,rfl⟩:=e
   split at h
   ·rename_i l' hl
    obtain rfl:=Option.some.inj h
    rw[List.flatMap_cons]
    rcases List.mem_cons.1 hc with rfl|hc
    ·exact List.mem_append_left _ (by simp[dirNames])
    ·exact List.mem_append_right _ (caps_names _ _ hl c hc)
   ·cases h
  ·cases h
theorem law_binV{tt:Option Ty}{op:BinOp}{x y:SV}{K:SV→Option α}(hK:binV tt op x y K=some r):∃v,K v=some r∧dirNames v=[]∧∀(β:Type) (K':SV→Option β),binV tt op x y K'=K' v:=by
 unfold binV at hK
 split at hK
 ·rename_i k a k' b
  split at hK
  ·rename_i hs
   unfold shiftI at hK
   split at hK
   all_goals first
    |(cases hK;done)
    |(rename_i hc
      cases hd:decide ((b:Int)<0) with
      |true=>rw[hd] at hK;cases hK
      |false=>
       rw[hd] at hK
       refine⟨_,hK,rfl,fun β K'=>?_⟩
       unfold binV shiftI
       simp only[hs,hd,cond])
    |(cases hd:decide ((b:Int)<0) with
      |true=>rw[hd] at hK;cases hK
      |false=>
       rw[hd] at hK
       refine⟨_,hK,rfl,fun β K'=>?_⟩
       unfold binV shiftI
       simp only[hs,hd,cond])
  ·rename_i hs
   split at hK
   ·rename_i e
    subst e
    unfold binI at hK
    split at hK
    all_goals first
     |(cases hK;done)
     |(refine⟨_,hK,rfl,fun β K'=>?_⟩
       unfold binV binI
       simp only[hs,if_true])
     |(cases hd:((b:Int)==0) with
       |true=>rw[hd] at hK;cases hK
       |false=>
        rw[hd] at hK
        refine⟨_,hK,rfl,fun β K'=>?_⟩
        unfold binV binI
        simp only[hs,hd,cond,if_true])
   ·cases hK
 all_goals
  repeat' (split at hK)
  all_goals first
   |(cases hK;done)
   |(refine⟨_,hK,rfl,fun β K'=>?_⟩
     unfold binV;first|(simp_all;done)|(simp only[*];done)|(simp[*];done))
   |(obtain⟨hc,hK⟩:=cond_some hK
     refine⟨_,hK,rfl,fun β K'=>?_⟩
     unfold binV;first|(simp_all;done)|(simp only[*];done)|(simp[*];done))
theorem mm_names(b:Bool)(rs:List SV):∀(x v:SV),mm b x rs=some v→v=x∨dirNames v=[]:=by
 induction rs with
 |nil=>
  intro x v h
  cases x<;>first|(simp[mm] at h;exact .inl h.symm)|(rename_i t y;cases t<;>simp[mm] at h<;>exact .inl h.symm)
 |cons y rs ih=>
  intro x v h
  unfold mm at h
  split at h
  ·rename_i q;cases q
  ·rename_i q
   cases q
   split at h
   ·rcases ih _ _ h with e|e
    ·right;rw[e];rfl
    ·exact .inr e
   ·cases h
  ·cases h
theorem law_op{slots:List SV}{o:Oper}{dn dn2:Nat}{K:Eff→Option α}(hK:effOp E slots objs o dn dn2 K=some r):
  ∃e,K e=some r∧Known ((opSVs slots o).flatMap (namesOf objs)) e∧(copies o.op=true→Hands slots o e)∧∀(β:Type) (K':Eff→Option β),effOp E slots objs o dn dn2 K'=K' e:=by
 obtain⟨cb,hcb⟩:∃b,b=copies o.op:=⟨_,rfl⟩
 rw[←hcb]
 have opm:∀x,x∈o.op.operands.toList→∀n,n∈namesOf objs (evalO slots x)→n∈(opSVs slots o).flatMap (namesOf objs):=fun x hx n hn=>List.mem_flatMap.2 ⟨_,List.mem_map.2 ⟨x,hx,rfl⟩,hn⟩
 have nocopy:∀{nms:List Nat},cb=false→(∀n,n∈nms→n∈(opSVs slots o).flatMap (namesOf objs))→∀{F:(β:Type)→(Eff→Option β)→Option β},(∀(β:Type) (K':Eff→Option β),effOp E slots objs o dn dn2 K'=F β K') →
   (∃e,K e=some r∧Known nms e∧∀(β:Type) (K':Eff→Option β),F β K'=K' e)→∃e,K e=some r∧Known ((opSVs slots o).flatMap (namesOf objs)) e∧(cb=true→Hands slots o e)∧∀(β:Type) (K':Eff→Option β),effOp E slots objs o dn dn2 K'=K' e:=by
  intro nms hc hn F hF ⟨e,h1,h2,h3⟩
  exact⟨e,h1,h2.mono hn,fun q=>(by rw[hc] at q;cases q),fun β K'=>by rw[hF,h3]⟩
 cases ho:o.op with
 |move x=>
  simp only[effOp,ho] at hK
  have hx:evalO slots x∈opSVs slots o:=List.mem_map.2 ⟨x,by simp[ho,Op.operands],rfl⟩
  exact⟨_,hK,fun n hn=>.inl (opm x (by simp[ho,Op.operands]) n (dir_known hn)),fun _=>⟨rfl,rfl,rfl,fun n hn=>List.mem_flatMap.2 ⟨_,hx,hn⟩,fun _=>hx⟩,fun β K'=>by simp only[effOp,ho]⟩
 |assign x=>
  simp only[effOp,ho] at hK
  have hx:evalO slots x∈opSVs slots o:=List.mem_map.2 ⟨x,by simp[ho,Op.operands],rfl⟩
  exact⟨_,hK,fun n hn=>.inl (opm x (by simp[ho,Op.operands]) n (dir_known hn)),fun _=>⟨rfl,rfl,rfl,fun n hn=>List.mem_flatMap.2 ⟨_,hx,hn⟩,fun _=>hx⟩,fun β K'=>by simp only[effOp,ho]⟩
 |makeFunc f first caps=>
  simp only[effOp,ho] at hK
  unfold effMakeFunc at hK
  split at hK
  ·rename_i gf cs hf hc
   have hcs:∀c,c∈cs→c.1∈(opSVs slots o).flatMap dirNames:=fun c hcm=>by
    obtain⟨y,hy,hn⟩:=List.mem_flatMap.1 (caps_names _ _ hc c hcm)
    obtain⟨x,hx,rfl⟩:=List.mem_map.1 hy
    exact List.mem_flatMap.2 ⟨_,List.mem_map.2 ⟨x,by simp only[ho,Op.operands,Array.toList_append];exact List.mem_append_right _ hx,rfl⟩,hn⟩
   refine⟨_,hK,fun n hn=>.inl ?_,fun _=>⟨rfl,rfl,rfl,fun n hn=>?_,fun q=>by cases q⟩,fun β K'=>?_⟩
   ·obtain⟨c,hcm,rfl⟩:=List.mem_map.1 hn
    obtain⟨y,hy,hn2⟩:=List.mem_flatMap.1 (hcs c hcm)
    exact List.mem_flatMap.2 ⟨y,hy,dir_known hn2⟩
   ·obtain⟨c,hcm,rfl⟩:=List.mem_map.1 hn
    exact hcs c hcm
   ·simp only[effOp,ho]
    unfold effMakeFunc
    simp only[hf,hc]
  ·cases hK
 |pick c x y=>
  simp only[effOp,ho] at hK
  refine nocopy (by rw[hcb,ho];rfl) (fun n hn=>?_) (fun β K'=>by simp only[effOp,ho]) (law_pick (objs:=objs) hK)
  rcases List.mem_append.1 hn with hn|hn
  ·exact opm x (by simp[ho,Op.operands]) n hn
  ·exact opm y (by simp[ho,Op.operands]) n hn
 |alloc t=>simp only[effOp,ho] at hK;exact nocopy (by rw[hcb,ho];rfl) (fun n hn=>by cases hn) (fun β K'=>by simp only[effOp,ho]) (law_alloc hK)
 |box t x=>simp only[effOp,ho] at hK;exact nocopy (by rw[hcb,ho];rfl) (fun n hn=>by cases hn) (fun β K'=>by simp only[effOp,ho]) (law_box hK)
 |build t ps=>simp only[effOp,ho] at hK;exact nocopy (by rw[hcb,ho];rfl) (fun n hn=>by cases hn) (fun β K'=>by simp only[effOp,ho]) (law_build hK)
 |buildSlice t n ps=>simp only[effOp,ho] at hK;exact nocopy (by rw[hcb,ho];rfl) (fun n hn=>by cases hn) (fun β K'=>by simp only[effOp,ho]) (law_lit hK)
 |load t x=>simp only[effOp,ho] at hK;exact nocopy (by rw[hcb,ho];rfl) (opm x (by simp[ho,Op.operands])) (fun β K'=>by simp only[effOp,ho]) (law_load hK)
 |store t x y=>simp only[effOp,ho] at hK;exact nocopy (by rw[hcb,ho];rfl) (fun n hn=>by cases hn) (fun β K'=>by simp only[effOp,ho]) (law_store hK)
 |makeSlice t x y=>simp only[effOp,ho] at hK;exact nocopy (by rw[hcb,ho];rfl) (fun n hn=>by cases hn) (fun β K'=>by simp only[effOp,ho]) (law_make hK)
 |slice t x lo hi mx=>simp only[effOp,ho] at hK;exact nocopy (by rw[hcb,ho];rfl) (opm x (by simp[ho,Op.operands])) (fun β K'=>by simp only[effOp,ho]) (law_slice hK)
 |fieldAddr t x f=>simp only[effOp,ho] at hK;exact nocopy (by rw[hcb,ho];rfl) (opm x (by simp[ho,Op.operands])) (fun β K'=>by simp only[effOp,ho]) (law_fieldAddr hK)
 |field t x f=>simp only[effOp,ho] at hK;exact nocopy (by rw[hcb,ho];rfl) (fun n hn=>by cases hn) (fun β K'=>by simp only[effOp,ho]) (law_field hK)
 |indexAddr t x i=>simp only[effOp,ho] at hK;exact nocopy (by rw[hcb,ho];rfl) (opm x (by simp[ho,Op.operands])) (fun β K'=>by simp only[effOp,ho]) (law_indexAddr hK)
 |index t x i=>simp only[effOp,ho] at hK;exact nocopy (by rw[hcb,ho];rfl) (fun n hn=>by cases hn) (fun β K'=>by simp only[effOp,ho]) (law_index hK)
 |extract x i=>simp only[effOp,ho] at hK;exact nocopy (by rw[hcb,ho];rfl) (opm x (by simp[ho,Op.operands])) (fun β K'=>by simp only[effOp,ho]) (law_extract hK)
 |nilCheck x=>
  simp only[effOp,ho] at hK
  split at hK
  ·rename_i k p c hx
   refine⟨_,hK,fun n hn=>.inl (opm x (by simp[ho,Op.operands]) n (by rw[hx];exact dir_known hn)),(fun q=>by rw[hcb,ho] at q;cases q),fun β K'=>by simp only[effOp,ho,hx]⟩
  ·rename_i f cs hx
   refine⟨_,hK,fun n hn=>.inl (opm x (by simp[ho,Op.operands]) n (by rw[hx];exact dir_known hn)),(fun q=>by rw[hcb,ho] at q;cases q),fun β K'=>by simp only[effOp,ho,hx]⟩
  ·cases hK
 |binOp op t x y t2=>
  simp only[effOp,ho] at hK
  split at hK
  ·rename_i hq
   obtain⟨e,h1,h2,h3⟩:=law_nil hK
   exact⟨e,h1,fun n hn=>(by rw[h2] at hn;cases hn),fun q=>(by rw[hcb,ho] at q;cases q),fun β K'=>by simp only[effOp,ho,hq];exact h3 β _⟩
  rename_i hq
  obtain⟨v,h1,h2,h3⟩:=law_binV hK
  exact⟨_,h1,fun n hn=>(by rw[h2] at hn;cases hn),fun q=>(by rw[hcb,ho] at q;cases q),fun β K'=>by simp only[effOp,ho,hq];exact h3 β _⟩
 |unOp op t x=>
  simp only[effOp,ho] at hK
  unfold unV at hK
  split at hK
  ·rename_i k b hx
   exact⟨_,hK,fun n hn=>(by cases hn),fun q=>(by rw[hcb,ho] at q;cases q),fun β K'=>by simp only[effOp,ho,hx,unV]⟩
  ·rename_i b hx
   exact⟨_,hK,fun n hn=>(by cases hn),fun q=>(by rw[hcb,ho] at q;cases q),fun β K'=>by simp only[effOp,ho,hx,unV]⟩
  ·cases hK
 |convert t0 t x=>
  simp only[effOp,ho] at hK
  split at hK
  ·rename_i k n k0 k1 hx h1 h2
   exact⟨_,hK,fun n hn=>(by cases hn),fun q=>(by rw[hcb,ho] at q;cases q),fun β K'=>by simp only[effOp,ho,hx,h1,h2]⟩
  ·rename_i hno
   obtain⟨e,e1,⟨q,rfl⟩,e3⟩:=law_bytes hK
   refine⟨_,e1,fun n hn=>(by cases hn),fun q=>(by rw[hcb,ho] at q;cases q),fun β K'=>?_⟩
   simp only[effOp,ho]
   exact e3 β K'
 |call c=>
  have hargs:∀x,x∈c.args.toList→x∈o.op.operands.toList:=fun x hx=>by
   simp only[ho,Op.operands,Call.operands,Array.toList_append,List.mem_append]
   exact .inr hx
  have ncb:cb=false:=by rw[hcb,ho];rfl
  simp only[effOp,ho] at hK
  split at hK
  ·rename_i hc
   split at hK
   ·rename_i x t h1 h2
    exact nocopy ncb (fun n hn=>by cases hn) (fun β K'=>by simp only[effOp,ho,hc,h1,h2]) (law_len hK)
   ·cases hK
  ·rename_i hc
   split at hK
   ·rename_i x y t t' h1 h2
    split at hK
    ·rename_i e
     exact nocopy ncb (fun n hn=>by cases hn) (fun β K'=>by simp only[effOp,ho,hc,h1,h2,e,if_true]) (law_append hK)
    ·rename_i e
     exact nocopy ncb (fun n hn=>by cases hn) (fun β K'=>by simp only[effOp,ho,hc,h1,h2,if_neg e]) (law_zeros hK)
   ·cases hK
  ·rename_i hc
   split at hK
   ·rename_i x t h1 h2
    exact nocopy ncb (fun n hn=>by cases hn) (fun β K'=>by simp only[effOp,ho,hc,h1,h2]) (law_cap hK)
   ·cases hK
  ·rename_i hc
   split at hK
   ·rename_i x t h1 h2
    exact nocopy ncb (fun n hn=>by cases hn) (fun β K'=>by simp only[effOp,ho,hc,h1,h2]) (law_clear hK)
   ·cases hK
  ·rename_i hc
   split at hK
   ·rename_i x y t t' h1 h2
    exact nocopy ncb (fun n hn=>by cases hn) (fun β K'=>by simp only[effOp,ho,hc,h1,h2]) (law_copy hK)
   ·cases hK
  ·rename_i hc
   split at hK
   ·rename_i x rs hl
    split at hK
    ·rename_i v hv
     refine⟨_,hK,fun n hn=>?_,fun q=>(by rw[ncb] at q;cases q),fun β K'=>by simp only[effOp,ho,hc,hl,hv]⟩
     rcases mm_names _ _ _ _ hv with e|e
     ·left
      have hxm:x∈c.args.toList.map (evalO slots):=by rw[hl];simp
      obtain⟨y,hy,he⟩:=List.mem_map.1 hxm
      refine opm y (hargs y hy) n ?_
      rw[he]
      exact dir_known (by simp only[e] at hn;exact hn)
     ·simp only[e] at hn;cases hn
    ·cases hK
   ·cases hK
  ·rename_i hc
   split at hK
   ·rename_i x rs hl
    split at hK
    ·rename_i v hv
     refine⟨_,hK,fun n hn=>?_,fun q=>(by rw[ncb] at q;cases q),fun β K'=>by simp only[effOp,ho,hc,hl,hv]⟩
     rcases mm_names _ _ _ _ hv with e|e
     ·left
      have hxm:x∈c.args.toList.map (evalO slots):=by rw[hl];simp
      obtain⟨y,hy,he⟩:=List.mem_map.1 hxm
      refine opm y (hargs y hy) n ?_
      rw[he]
      exact dir_known (by simp only[e] at hn;exact hn)
     ·simp only[e] at hn;cases hn
    ·cases hK
   ·cases hK
  ·rename_i f hc
   split at hK
   ·rename_i gid cs hf
    split at hK
    ·rename_i hb
     refine nocopy ncb (fun n hn=>?_) (fun β K'=>by simp only[effOp,ho,hc,hf,hb]) (law_callAny hK)
     obtain⟨y,hy,hn2⟩:=List.mem_flatMap.1 hn
     obtain⟨q,hq,rfl⟩:=List.mem_map.1 hy
     obtain⟨x,hx,he⟩:=List.mem_map.1 (List.of_mem_zip hq).2
     exact opm x (hargs x hx) n (by rw[he];exact hn2)
    ·cases hK
   ·cases hK
  ·cases hK
 |_=>simp only[effOp,ho] at hK;cases hK
end
end Go.Proofs.Ytlipfbihlmlplaa.G
namespace Go.Proofs.Ytlipfbihlmlplaa.G
open Go Go.RowKit
set_option linter.unusedVariables false
set_option linter.unusedSimpArgs false
theorem disj_not{l k:List Nat}(h:disj l k=true):∀n,n∈l→n∉k:=fun n hn hk=>by
 have:=List.all_eq_true.1 h n hn
 simp at this
 exact this hk
theorem hits_names{k l:List Nat}{sv:SV}(h:hits k l sv=true):(∃n,n∈dirNames sv∧n∈k)∨(inner sv=true∧∃n,n∈dirNames sv∧n∈l):=by
 cases sv with
 |sl n p w=>
  simp only[hits,Bool.or_eq_true,Bool.and_eq_true,List.contains_eq_mem,decide_eq_true_eq] at h
  rcases h with h|⟨h1,h2⟩
  ·exact .inl ⟨n,by simp[dirNames],h⟩
  ·refine .inr ⟨?_,n,by simp[dirNames],h1⟩
   cases p with
   |nil=>cases h2
   |cons _ _=>rfl
 |ptr n p c=>
  simp only[hits,Bool.or_eq_true,Bool.and_eq_true,List.contains_eq_mem,decide_eq_true_eq] at h
  rcases h with h|⟨h1,h2⟩
  ·exact .inl ⟨n,by simp[dirNames],h⟩
  ·exact .inr ⟨h1,n,by simp[dirNames],h2⟩
 |fn f cs=>
  simp only[hits,List.any_eq_true,List.contains_eq_mem,decide_eq_true_eq] at h
  obtain⟨c,hc,h⟩:=h
  exact .inl ⟨c.1,List.mem_map.2 ⟨c,hc,rfl⟩,h⟩
 |tup ts=>
  simp only[hits,List.any_eq_true] at h
  obtain⟨t,ht,h⟩:=h
  cases t with
  |sl n p w=>
   simp only[Bool.or_eq_true,List.contains_eq_mem,decide_eq_true_eq] at h
   have hm:n∈dirNames (.tup ts):=List.mem_flatMap.2 ⟨_,ht,by simp⟩
   rcases h with h|h
   ·exact .inl ⟨n,hm,h⟩
   ·exact .inr ⟨rfl,n,hm,h⟩
  |_=>cases h
 |_=>cases h
theorem sweep_keep{k l:List Nat}{sv:SV}(h1:∀n,n∈dirNames sv→n∉k)(h2:inner sv=true→∀n,n∈dirNames sv→n∉l):sweep k l sv=sv:=by
 unfold sweep
 split
 ·rename_i h
  rcases hits_names h with⟨n,a,b⟩|⟨hi,n,a,b⟩
  ·exact absurd b (h1 n a)
  ·exact absurd b (h2 hi n a)
 ·rfl
theorem sweep_live{k l:List Nat}{sv:SV}(h:notDead (sweep k l sv)=true):sweep k l sv=sv:=by
 unfold sweep at h ⊢
 split
 ·rename_i hh;rw[if_pos hh] at h;cases h
 ·rfl
theorem sweep_comm(k l k' l':List Nat)(sv:SV):sweep k l (sweep k' l' sv)=sweep k' l' (sweep k l sv):=by
 have hd:∀a b,sweep a b SV.dead=SV.dead:=fun _ _=>rfl
 have p1:∀{a b:List Nat} {v:SV},hits a b v=true→sweep a b v = .dead:=fun h=>if_pos h
 have p2:∀{a b:List Nat} {v:SV},¬hits a b v=true→sweep a b v=v:=fun h=>if_neg h
 by_cases h1:hits k l sv=true
 ·by_cases h2:hits k' l' sv=true
  ·rw[p1 h2,p1 h1,hd,hd]
  ·rw[p2 h2,p1 h1,hd]
 ·by_cases h2:hits k' l' sv=true
  ·rw[p1 h2,p2 h1,hd,p1 h2]
  ·rw[p2 h2,p2 h1,p2 h2]
theorem upd_not:∀(u:List (Nat×Option Ob)) (o:List (Option Ob)) (k:Nat),k∉u.map (·.1)→obAt (updAll u o) k=obAt o k
 |[],_,_,_=>rfl
 |(n,x)::r,o,k,h=>by
  simp only[List.map_cons,List.mem_cons,not_or] at h
  rw[updAll,upd_not r _ k h.2]
  unfold obAt
  rw[List.getD_eq_getElem?_getD,List.getD_eq_getElem?_getD,List.getElem?_set_ne (Ne.symm h.1)]
theorem upd_set:∀(u:List (Nat×Option Ob)) (o:List (Option Ob)) (n:Nat) (x:Option Ob),n∉u.map (·.1)→updAll u (o.set n x)=(updAll u o).set n x
 |[],_,_,_,_=>rfl
 |(m,y)::r,o,n,x,h=>by
  simp only[List.map_cons,List.mem_cons,not_or] at h
  rw[updAll,updAll,List.set_comm _ _ h.1,upd_set r _ n x h.2]
theorem upd_comm:∀(u v:List (Nat×Option Ob)) (o:List (Option Ob)),(∀n,n∈u.map (·.1)→n∉v.map (·.1))→updAll u (updAll v o)=updAll v (updAll u o)
 |[],_,_,_=>rfl
 |(m,y)::r,v,o,h=>by
  rw[updAll,updAll,←upd_set v o m y (h m (by simp)),upd_comm r v _ (fun n hn=>h n (by simp only[List.map_cons];exact List.mem_cons_of_mem _ hn))]
section
variable {E:Env}
inductive Did (E:Env) (s:St) (o:Oper) (i:Nat):Bool→Eff→Touch→Prop
 |run (e:Eff) (h1:∀(β:Type) (K:Eff→Option β),effOp E s.slots s.objs o (E.base+o.dst.getD 0) (E.base+E.m+o.dst.getD 0) K=K e)
   (h2:newOk e s.objs (E.base+o.dst.getD 0) (E.base+E.m+o.dst.getD 0)=true):Did E s o i true e (touchOf s.slots s.objs o i e (E.base+o.dst.getD 0) (E.base+E.m+o.dst.getD 0))
 |skip:Did E s o i false { v:=.tup [] } { i }
def Wants(ops:List Oper)(slots:List SV)(o:Oper)(w:Bool):Prop:=match o.guard with
 |none=>w=true
 |some (j,want)=>∃g,(ops[j]?).bind (·.dst)=some g∧((∃b,slots.getD g .dead = .val .bool b∧w=(b==want))∨(slots.getD g .dead = .tup []∧w=false))
theorem did_touch{s:St}{o:Oper}{i:Nat}{b:Bool}{e:Eff}{t:Touch}(h:Did E s o i b e t):
  t.kl=e.kill∧(∀n,n∈e.loose→n∈t.wr)∧(∀n,n∈e.upd.map (·.1)→n∈t.wr∨n∈t.nw)∧(∀n,n∈dirNames e.v→n∈t.rs∨n∈t.wr∨n∈t.nw)∧(inner e.v=true→∀n,n∈dirNames e.v→n∈t.rd∨n∈t.wr∨n∈t.nw) ∧
   (b=true→t.ok=true→(∀x,x∈o.op.operands.toList→notDead (evalO s.slots x)=true)∧(∀x,x∈o.op.operands.toList→∀n,n∈dirNames (evalO s.slots x)→n∈t.rs)∧∀x,x∈o.op.operands.toList→inner (evalO s.slots x)=true→∀n,n∈dirNames (evalO s.slots x)→n∈t.rd):=by
 cases h with
 |skip=>exact⟨rfl,fun n hn=>hn,fun n hn=>(by cases hn),fun n hn=>(by cases hn),fun _ n hn=>(by cases hn),fun q=>(by cases q)⟩
 |run _ h1 h2=>
  obtain⟨e',k1,k2,k3,k4⟩:=law_op (α:=Eff) (K:=some) (h1 Eff some)
  obtain rfl:=Option.some.inj k1
  have hupd:∀n,n∈e'.upd.map (·.1)→n∈(touchOf s.slots s.objs o i e' (E.base+o.dst.getD 0) (E.base+E.m+o.dst.getD 0)).wr∨n∈(touchOf s.slots s.objs o i e' (E.base+o.dst.getD 0) (E.base+E.m+o.dst.getD 0)).nw:=fun n hn=>by
   unfold touchOf
   simp only[List.mem_append,List.mem_filter]
   cases hq:(n==E.base+o.dst.getD 0||n==E.base+E.m+o.dst.getD 0) with
   |true=>exact .inr ⟨hn,rfl⟩
   |false=>exact .inl (.inl ⟨hn,rfl⟩)
  refine⟨rfl,fun n hn=>List.mem_append_right _ hn,hupd,fun n hn=>?_,fun hi n hn=>?_,fun _ hok=>⟨fun x hx=>?_,fun x hx n hn=>?_,fun x hx hi n hn=>?_⟩⟩
  ·cases hc:copies o.op with
   |true=>
    left
    simp only[touchOf,hc,if_true]
    exact (k3 hc).2.2.2.1 n hn
   |false=>
    rcases k2 n hn with q|q
    ·left;simp only[touchOf,hc,Bool.false_eq_true,if_false];exact q
    ·exact .inr (hupd n q)
  ·cases hc:copies o.op with
   |true=>
    left
    simp only[touchOf,hc,if_true]
    exact List.mem_flatMap.2 ⟨_,List.mem_filter.2 ⟨(k3 hc).2.2.2.2 hi,hi⟩,hn⟩
   |false=>
    rcases k2 n hn with q|q
    ·left;simp only[touchOf,hc,Bool.false_eq_true,if_false];exact q
    ·exact .inr (hupd n q)
  ·exact List.all_eq_true.1 hok _ (List.mem_map.2 ⟨x,hx,rfl⟩)
  ·cases hc:copies o.op with
   |true=>simp only[touchOf,hc,if_true];exact List.mem_flatMap.2 ⟨_,List.mem_map.2 ⟨x,hx,rfl⟩,hn⟩
   |false=>simp only[touchOf,hc,Bool.false_eq_true,if_false];exact List.mem_flatMap.2 ⟨_,List.mem_map.2 ⟨x,hx,rfl⟩,dir_known hn⟩
  ·cases hc:copies o.op with
   |true=>simp only[touchOf,hc,if_true];exact List.mem_flatMap.2 ⟨_,List.mem_filter.2 ⟨List.mem_map.2 ⟨x,hx,rfl⟩,hi⟩,hn⟩
   |false=>simp only[touchOf,hc,Bool.false_eq_true,if_false];exact List.mem_flatMap.2 ⟨_,List.mem_map.2 ⟨x,hx,rfl⟩,dir_known hn⟩
end
end Go.Proofs.Ytlipfbihlmlplaa.G
namespace Go.Proofs.Ytlipfbihlmlplaa.G
open Go Go.RowKit
set_option linter.unusedVariables false
set_option linter.unusedSimpArgs false
section
variable {E:Env} {α:Type}
theorem copy_op{slots slots':List SV}{objs objs':List (Option Ob)}{o:Oper}{dn dn2:Nat}{K:Eff→Option α}(hc:copies o.op=true)(hs:∀x,x∈o.op.operands.toList→evalO slots' x=evalO slots x):
  effOp E slots' objs' o dn dn2 K=effOp E slots objs o dn dn2 K:=by
 cases ho:o.op with
 |move x=>simp only[effOp,ho];rw[hs x (by simp[ho,Op.operands])]
 |assign x=>simp only[effOp,ho];rw[hs x (by simp[ho,Op.operands])]
 |makeFunc f first caps=>
  simp only[effOp,ho]
  have:caps.toList.map (evalO slots')=caps.toList.map (evalO slots):=List.map_congr_left (fun x hx=>hs x (by simp only[ho,Op.operands,Array.toList_append];exact List.mem_append_right _ hx))
  rw[this]
 |_=>rw[ho] at hc;cases hc
theorem did_move{s s':St}{o:Oper}{i:Nat}{b:Bool}{e:Eff}{t:Touch}(h:Did E s o i b e t)(hop:b=true→∀x,x∈o.op.operands.toList→evalO s'.slots x=evalO s.slots x)(hrd:∀n,n∈t.rd→obAt s'.objs n=obAt s.objs n)
  (hnw:∀n,n∈t.nw→obAt s'.objs n=obAt s.objs n) (hlen:s'.objs.length=s.objs.length):Did E s' o i b e t:=by
 cases h with
 |skip=>exact .skip
 |run _ h1 h2=>
  have hop:=hop rfl
  have hsv:opSVs s'.slots o=opSVs s.slots o:=List.map_congr_left hop
  have hag:copies o.op=false→Agree s.objs s'.objs (opSVs s.slots o):=fun hc x hx k hk=>hrd k (by simp only[touchOf,hc,Bool.false_eq_true,if_false];exact List.mem_flatMap.2 ⟨x,hx,hk⟩)
  have heff:∀(β:Type) (K:Eff→Option β),effOp E s'.slots s'.objs o (E.base+o.dst.getD 0) (E.base+E.m+o.dst.getD 0) K=effOp E s.slots s.objs o (E.base+o.dst.getD 0) (E.base+E.m+o.dst.getD 0) K:=fun β K=>by
   cases hc:copies o.op with
   |true=>exact copy_op hc hop
   |false=>exact loc_op hop (hag hc)
  have htouch:touchOf s'.slots s'.objs o i e (E.base+o.dst.getD 0) (E.base+E.m+o.dst.getD 0)=touchOf s.slots s.objs o i e (E.base+o.dst.getD 0) (E.base+E.m+o.dst.getD 0):=by
   unfold touchOf
   rw[hsv]
   cases hc:copies o.op with
   |true=>simp only[if_true]
   |false=>
    have:(opSVs s.slots o).flatMap (namesOf s'.objs)=(opSVs s.slots o).flatMap (namesOf s.objs):=flatMap_cg _ (fun x hx=>namesOf_congr ((hag hc).one hx))
    simp only[Bool.false_eq_true,if_false,this]
  rw[←htouch]
  refine .run e (fun β K=>by rw[heff];exact h1 β K) ?_
  unfold newOk at h2 ⊢
  rw[List.all_eq_true] at h2 ⊢
  intro u hu
  have:=h2 u hu
  cases hq:(u.1==E.base+o.dst.getD 0||u.1==E.base+E.m+o.dst.getD 0) with
  |false=>rfl
  |true=>
   rw[hq] at this
   have e1:obAt s'.objs u.1=obAt s.objs u.1:=hnw u.1 (by unfold touchOf;simp only[List.mem_filter];exact⟨List.mem_map.2 ⟨u,hu,rfl⟩,hq⟩)
   rw[e1,hlen]
   exact this
theorem looks_op{ops:List Oper}{o:Oper}{t:Tmp}(h:Operand.tmp t∈o.op.operands.toList):t∈looks ops o:=List.mem_append_left _ (List.mem_filterMap.2 ⟨_,h,rfl⟩)
theorem looks_guard{ops:List Oper}{o:Oper}{j:Nat}{want:Bool}{g:Nat}(h:o.guard=some (j,want))(hg:(ops[j]?).bind (·.dst)=some g):g∈looks ops o:=by
 unfold looks
 rw[h]
 exact List.mem_append_right _ (by simp[hg])
theorem eval_on{s:St}{e:Eff}{dst:Option Tmp}{x:Operand}(hne:∀t,x = .tmp t→dst≠some t)(hk:sweep e.kill e.loose (evalO s.slots x)=evalO s.slots x):evalO (e.on dst s).slots x=evalO s.slots x:=by
 cases x with
 |tmp t=>
  show (e.on dst s).slots.getD t .dead=s.slots.getD t .dead
  rw[(Eff.slots_on e dst s t).2,if_neg (fun q=>hne t rfl q.1)]
  exact hk
 |_=>rfl
theorem eval_on_live{s:St}{e:Eff}{dst:Option Tmp}{x:Operand}(hne:∀t,x = .tmp t→dst≠some t)(hk:notDead (evalO (e.on dst s).slots x)=true):evalO (e.on dst s).slots x=evalO s.slots x:=by
 cases x with
 |tmp t=>
  have h1:(e.on dst s).slots.getD t .dead=sweep e.kill e.loose (s.slots.getD t .dead):=by rw[(Eff.slots_on e dst s t).2,if_neg (fun q=>hne t rfl q.1)]
  show (e.on dst s).slots.getD t .dead=s.slots.getD t .dead
  rw[h1]
  refine sweep_live ?_
  rw[←h1]
  exact hk
 |_=>rfl
theorem swap{ops:List Oper}{s:St}{ox oy:Oper}{ix iy:Nat}{bx b_y:Bool}{ex ey:Eff}{tx ty:Touch}(hy:Did E s oy iy b_y ey ty)(wy:Wants ops s.slots oy b_y)(hx:Did E (ey.on oy.dst s) ox ix bx ex tx)(wx:Wants ops (ey.on oy.dst s).slots ox bx)
  (ha:apartB ops ox oy tx ty=true):Did E s ox ix bx ex tx∧Wants ops s.slots ox bx∧Did E (ex.on ox.dst s) oy iy b_y ey ty∧Wants ops (ex.on ox.dst s).slots oy b_y∧ey.on oy.dst (ex.on ox.dst s)=ex.on ox.dst (ey.on oy.dst s):=by
 simp only[apartB,Bool.and_eq_true] at ha
 obtain⟨d1,d2,⟨okx,oky⟩,⟨c1,c2,c3,c4⟩,⟨c5,c6,c7⟩,⟨c8,c9,c10,c11⟩,⟨c12,c13,c14⟩,⟨c15,c16,c17⟩,c18,c19⟩:=ha
 have hdx:∀t,ox.dst=some t→t∉looks ops oy∧oy.dst≠some t:=fun t ht=>by
  rw[ht] at d1
  simp at d1
  exact⟨d1.1,d1.2⟩
 have hdy:∀t,oy.dst=some t→t∉looks ops ox:=fun t ht=>by
  rw[ht] at d2
  simpa using d2
 obtain⟨x1,x2,x3,x4,x5,x6⟩:=did_touch hx
 obtain⟨y1,y2,y3,y4,y5,y6⟩:=did_touch hy
 have updY:∀n,n∈ey.upd.map (·.1)→n∉tx.rd∧n∉tx.nw∧n∉tx.wr:=fun n hn=>by
  rcases y3 n hn with q|q
  ·exact⟨disj_not c5 n q,disj_not c7 n q,fun q2=>disj_not c2 n q2 q⟩
  ·exact⟨disj_not c18 n q,fun q2=>disj_not c17 n q2 q,fun q2=>disj_not c4 n q2 q⟩
 have updX:∀n,n∈ex.upd.map (·.1)→n∉ty.rd∧n∉ty.nw∧n∉ty.wr:=fun n hn=>by
  rcases x3 n hn with q|q
  ·exact⟨disj_not c1 n q,disj_not c4 n q,disj_not c2 n q⟩
  ·exact⟨disj_not c15 n q,disj_not c17 n q,fun q2=>disj_not c7 n q2 q⟩
 have lenOn:∀(e:Eff) (dst:Option Tmp),(e.on dst s).objs.length=s.objs.length:=fun e dst=>updAll_length _ _
 have opx:bx=true→∀x,x∈ox.op.operands.toList→evalO s.slots x=evalO (ey.on oy.dst s).slots x:=fun hb x hxm=>
  (eval_on_live (fun t ht q=>hdy t q (looks_op (ht▸hxm))) ((x6 hb okx).1 x hxm)).symm
 have hx':Did E s ox ix bx ex tx:=did_move hx opx (fun n hn=>(upd_not _ _ _ (fun q=>(updY n q).1 hn)).symm) (fun n hn=>(upd_not _ _ _ (fun q=>(updY n q).2.1 hn)).symm) (lenOn ey oy.dst).symm
 have wx':Wants ops s.slots ox bx:=by
  unfold Wants at wx ⊢
  cases hg:ox.guard with
  |none=>rw[hg] at wx;exact wx
  |some jw=>
   obtain⟨j,want⟩:=jw
   rw[hg] at wx
   obtain⟨g,w1,wq⟩:=wx
   refine⟨g,w1,?_⟩
   have key:notDead ((ey.on oy.dst s).slots.getD g .dead)=true→s.slots.getD g .dead=(ey.on oy.dst s).slots.getD g .dead:=fun hnd=>
    (eval_on_live (s:=s) (e:=ey) (dst:=oy.dst) (x:=.tmp g) (fun t ht q=>by cases ht;exact hdy g q (looks_guard hg w1)) hnd).symm
   rcases wq with⟨b,w2,w3⟩|⟨w2,w3⟩
   ·exact .inl ⟨b,by rw[key (by rw[w2];rfl)];exact w2,w3⟩
   ·exact .inr ⟨by rw[key (by rw[w2];rfl)];exact w2,w3⟩
 have opy:b_y=true→∀x,x∈oy.op.operands.toList→evalO (ex.on ox.dst s).slots x=evalO s.slots x:=fun hb x hxm=>
  eval_on (fun t ht q=>(hdx t q).1 (looks_op (ht▸hxm))) (sweep_keep (fun n hn q=>disj_not c9 n (by rw[x1];exact q) ((y6 hb oky).2.1 x hxm n hn)) (fun hi n hn q=>disj_not c1 n (x2 n q) ((y6 hb oky).2.2 x hxm hi n hn)))
 have hy':Did E (ex.on ox.dst s) oy iy b_y ey ty:=did_move hy opy (fun n hn=>upd_not _ _ _ (fun q=>(updX n q).1 hn)) (fun n hn=>upd_not _ _ _ (fun q=>(updX n q).2.1 hn)) (lenOn ex ox.dst)
 have wy':Wants ops (ex.on ox.dst s).slots oy b_y:=by
  unfold Wants at wy ⊢
  cases hg:oy.guard with
  |none=>rw[hg] at wy;exact wy
  |some jw=>
   obtain⟨j,want⟩:=jw
   rw[hg] at wy
   obtain⟨g,w1,wq⟩:=wy
   refine⟨g,w1,?_⟩
   have key:(∀n,n∉dirNames (s.slots.getD g .dead))→(ex.on ox.dst s).slots.getD g .dead=s.slots.getD g .dead:=fun hnd=>
    eval_on (s:=s) (e:=ex) (dst:=ox.dst) (x:=.tmp g) (fun t ht q=>by cases ht;exact (hdx g q).1 (looks_guard hg w1)) (sweep_keep (fun n hn=>absurd hn (hnd n)) (fun _ n hn=>absurd hn (hnd n)))
   rcases wq with⟨b,w2,w3⟩|⟨w2,w3⟩
   ·exact .inl ⟨b,(key (fun n hn=>by rw[w2] at hn;cases hn)).trans w2,w3⟩
   ·exact .inr ⟨(key (fun n hn=>by rw[w2] at hn;cases hn)).trans w2,w3⟩
 refine⟨hx',wx',hy',wy',?_⟩
 have sxv:sweep ex.kill ex.loose ey.v=ey.v:=sweep_keep (fun n hn q=>by
   rw[←x1] at q
   rcases y4 n hn with z|z|z
   ·exact disj_not c9 n q z
   ·exact disj_not c6 n z q
   ·exact disj_not c11 n q z) (fun hi n hn q=>by
   have q:=x2 n q
   rcases y5 hi n hn with z|z|z
   ·exact disj_not c1 n q z
   ·exact disj_not c2 n q z
   ·exact disj_not c4 n q z)
 have syv:sweep ey.kill ey.loose ex.v=ex.v:=sweep_keep (fun n hn q=>by
   rw[←y1] at q
   rcases x4 n hn with z|z|z
   ·exact disj_not c13 n q z
   ·exact disj_not c3 n z q
   ·exact disj_not c14 n q z) (fun hi n hn q=>by
   have q:=y2 n q
   rcases x5 hi n hn with z|z|z
   ·exact disj_not c5 n q z
   ·exact disj_not c2 n z q
   ·exact disj_not c7 n q z)
 have hobjs:updAll ey.upd (updAll ex.upd s.objs)=updAll ex.upd (updAll ey.upd s.objs):=upd_comm _ _ _ (fun n hn q=>by
  rcases x3 n q with z|z
  ·exact (updY n hn).2.2 z
  ·exact (updY n hn).2.1 z)
 have hslots:(ey.on oy.dst (ex.on ox.dst s)).slots=(ex.on ox.dst (ey.on oy.dst s)).slots:=by
  have l1:∀(e:Eff) (dst:Option Tmp) (s:St),(e.on dst s).slots.length=s.slots.length:=fun e dst s=>(Eff.slots_on e dst s 0).1
  apply List.ext_getElem?
  intro t
  have gd:∀(l:List SV),t<l.length→l[t]? = some (l.getD t .dead):=fun l h=>by rw[List.getD_eq_getElem?_getD,List.getElem?_eq_getElem h];rfl
  rcases Nat.lt_or_ge t s.slots.length with ht|ht
  ·rw[gd _ (by rw[l1,l1];exact ht),gd _ (by rw[l1,l1];exact ht)]
   congr 1
   rw[(Eff.slots_on ey oy.dst _ t).2,(Eff.slots_on ex ox.dst _ t).2,(Eff.slots_on ex ox.dst _ t).2,(Eff.slots_on ey oy.dst _ t).2]
   simp only[l1,ht,and_true]
   by_cases h1:ox.dst=some t
   ·have h2:=(hdx t h1).2
    rw[if_neg h2,if_pos h1,if_pos h1]
    exact syv
   ·by_cases h2:oy.dst=some t
    ·rw[if_pos h2,if_neg h1,if_pos h2]
     exact sxv.symm
    ·rw[if_neg h2,if_neg h1,if_neg h1,if_neg h2]
     exact sweep_comm _ _ _ _ _
  ·rw[List.getElem?_eq_none (by rw[l1,l1];exact ht),List.getElem?_eq_none (by rw[l1,l1];exact ht)]
 have hob2:(ey.on oy.dst (ex.on ox.dst s)).objs=(ex.on ox.dst (ey.on oy.dst s)).objs:=hobjs
 cases h1:ey.on oy.dst (ex.on ox.dst s)
 cases h2:ex.on ox.dst (ey.on oy.dst s)
 rw[h1,h2] at hslots hob2
 simp only at hslots hob2
 rw[hslots,hob2]
end
end Go.Proofs.Ytlipfbihlmlplaa.G
namespace Go.Proofs.Ytlipfbihlmlplaa.G
open Go Go.RowKit
set_option linter.unusedVariables false
set_option linter.unusedSimpArgs false
section
variable {E:Env} {α:Type}
def Run(E:Env)(ops:List Oper):List (Nat×Oper)→St→List Touch→St→Prop
 |[],s,[],s'=>s'=s
 |(i,o)::l,s,t::T,s'=>∃b e,Did E s o i b e t∧Wants ops s.slots o b∧Run E ops l (e.on o.dst s) T s'
 |_,_,_,_=>False
theorem did_i{s:St}{o:Oper}{i:Nat}{b:Bool}{e:Eff}{t:Touch}(h:Did E s o i b e t):t.i=i:=by cases h<;>rfl
theorem step_did{s:St}{o:Oper}{i:Nat}{K:St→Touch→Option α}{r:α}(h:stepOp E o i s K=some r):∃e t,Did E s o i true e t∧K (e.on o.dst s) t=some r:=by
 unfold stepOp at h
 obtain⟨e,h1,_,_,h4⟩:=law_op h
 split at h1
 ·rename_i hn
  exact⟨e,_,.run e h4 hn,h1⟩
 ·cases h1
theorem unroll{ops:List Oper}{K:St→List Touch→Option α}{r:α}:∀(l:List (Nat×Oper)) (s:St) (tr:List Touch),denOps E ops l s tr K=some r→∃T s',Run E ops l s T s'∧K s' (T.reverse++tr)=some r
 |[],s,tr,h=>⟨[],s,rfl,h⟩
 |(i,o)::l,s,tr,h=>by
  have step:∀{s':St},s'=s→Wants ops s.slots o true→stepOp E o i s' (fun s' t=>denOps E ops l s' (t::tr) K)=some r→∃T s',Run E ops ((i,o)::l) s T s'∧K s' (T.reverse++tr)=some r:=by
   intro s' e hw hs
   subst e
   obtain⟨e,t,h1,h2⟩:=step_did hs
   obtain⟨T,sf,h3,h4⟩:=unroll l _ _ h2
   exact⟨t::T,sf,⟨true,e,h1,hw,h3⟩,by simpa using h4⟩
  have skip:∀{s':St},s'=s→Wants ops s.slots o false→denOps E ops l ({ v:=.tup []:Eff }.on o.dst s') ({ i }::tr) K=some r→∃T s',Run E ops ((i,o)::l) s T s'∧K s' (T.reverse++tr)=some r:=by
   intro s' e hw hs
   subst e
   obtain⟨T,sf,h3,h4⟩:=unroll l _ _ hs
   exact⟨{ i }::T,sf,⟨false,_,.skip,hw,h3⟩,by simpa using h4⟩
  unfold denOps at h
  cases hg:o.guard with
  |none=>
   rw[hg] at h
   exact step rfl (by unfold Wants;rw[hg]) h
  |some jw=>
   obtain⟨j,want⟩:=jw
   rw[hg] at h
   simp only at h
   split at h
   ·rename_i gg b hb
    obtain⟨g1,hg1,hgb⟩:=Option.map_eq_some_iff.1 hb
    simp only[Prod.mk.injEq] at hgb
    obtain⟨rfl,hgb⟩:=hgb
    have hlt:g1<s.slots.length:=by
     rcases Nat.lt_or_ge g1 s.slots.length with q|q
     ·exact q
     ·rw[List.getD_eq_getElem?_getD,List.getElem?_eq_none q] at hgb
      cases hgb
    have hset:{ s with slots:=s.slots.set g1 (.val .bool b) }=s:=by rw[set_same hgb hlt]
    have hw:∀c,c=(b==want)→Wants ops s.slots o c:=fun c hc=>by
     unfold Wants
     rw[hg]
     exact⟨g1,hg1,.inl ⟨b,hgb,hc⟩⟩
    cases b with
    |true=>
     simp only[cond] at h
     cases want with
     |true=>exact step hset (hw _ rfl) h
     |false=>exact skip hset (hw _ rfl) h
    |false=>
     simp only[cond] at h
     cases want with
     |true=>exact skip hset (hw _ rfl) h
     |false=>exact step hset (hw _ rfl) h
   ·rename_i gg hb
    obtain⟨g1,hg1,hgb⟩:=Option.map_eq_some_iff.1 hb
    simp only[Prod.mk.injEq] at hgb
    obtain⟨rfl,hgb⟩:=hgb
    exact skip rfl (by unfold Wants;rw[hg];exact⟨g1,hg1,.inr ⟨hgb,rfl⟩⟩) h
   ·cases h
theorem run_len{ops:List Oper}:∀(l:List (Nat×Oper)) (s:St) (T:List Touch) (s':St),Run E ops l s T s'→T.length=l.length
 |[],_,[],_,_=>rfl
 |_::l,_,_::T,_,⟨_,_,_,_,h⟩=>by rw[List.length_cons,List.length_cons,run_len l _ T _ h]
 |[],_,_::_,_,h=>h.elim
 |_::_,_,[],_,h=>h.elim
theorem front{ops:List Oper}{i:Nat}{o:Oper}{t:Touch}{L2:List (Nat×Oper)}{T2:List Touch}{s':St}:∀(L1:List (Nat×Oper)) (T1:List Touch) (s:St),T1.length=L1.length→Run E ops (L1++(i,o)::L2) s (T1++t::T2) s' →
  (∀p,p∈L1.zip T1→apartB ops o p.1.2 t p.2=true)→Run E ops ((i,o)::(L1++L2)) s (t::(T1++T2)) s'
 |[],[],s,_,h,_=>h
 |(j,y)::L1,u::T1,s,hl,h,ha=>by
  obtain⟨b,e,h1,h2,h3⟩:=h
  obtain⟨b',e',k1,k2,k3⟩:=front L1 T1 _ (by simpa using hl) h3 (fun p hp=>ha p (by simp only[List.zip_cons_cons];exact List.mem_cons_of_mem _ hp))
  obtain⟨s1,s2,s3,s4,s5⟩:=swap h1 h2 k1 k2 (ha ((j,y),u) (by simp))
  exact⟨b',e',s1,s2,b,e,s3,s4,by rw[s5];exact k3⟩
 |[],_::_,_,hl,_,_=>by simp at hl
 |_::_,[],_,hl,_,_=>by simp at hl
def Ordered(ops:List Oper)(bf:List (List Nat))(a b:(Nat×Oper)×Touch):Prop:=(bf.getD b.1.1 []).contains a.1.1=true∨apartB ops b.1.2 a.1.2 b.2 a.2=true
theorem pairsOk_all{ops:List Oper}{bf:List (List Nat)}{x:Oper}{t:Touch}:∀(l:List (Oper×Touch)),pairsOk ops bf x t l=true→∀q,q∈l→(bf.getD t.i []).contains q.2.i=true∨apartB ops x q.1 t q.2=true
 |[],_,q,hq=>by cases hq
 |(y,u)::r,h,q,hq=>by
  simp only[pairsOk,Bool.and_eq_true,Bool.or_eq_true] at h
  rcases List.mem_cons.1 hq with rfl|hq
  ·exact h.1
  ·exact pairsOk_all r h.2 q hq
theorem regionOk_pw{ops:List Oper}{bf:List (List Nat)}:∀(l:List (Oper×Touch)),regionOk ops bf l=true→l.Pairwise (fun a b=>(bf.getD a.2.i []).contains b.2.i=true∨apartB ops a.1 b.1 a.2 b.2=true)
 |[],_=>.nil
 |(x,t)::r,h=>by
  simp only[regionOk,Bool.and_eq_true] at h
  exact .cons (fun q hq=>pairsOk_all r h.1 q hq) (regionOk_pw r h.2)
theorem run_idx{ops:List Oper}:∀(l:List (Nat×Oper)) (s:St) (T:List Touch) (s':St),Run E ops l s T s'→∀p,p∈l.zip T→p.2.i=p.1.1
 |[],_,[],_,_,p,hp=>by cases hp
 |(i,o)::l,_,t::T,_,⟨_,_,h1,_,h⟩,p,hp=>by
  simp only[List.zip_cons_cons] at hp
  rcases List.mem_cons.1 hp with rfl|hp
  ·exact did_i h1
  ·exact run_idx l _ T _ h p hp
 |[],_,_::_,_,h,_,_=>h.elim
 |_::_,_,[],_,h,_,_=>h.elim
end
end Go.Proofs.Ytlipfbihlmlplaa.G
namespace Go.Proofs.Ytlipfbihlmlplaa.G
open Go Go.RowKit
set_option linter.unusedVariables false
set_option linter.unusedSimpArgs false
theorem edge_fold{b:Edge→Bool}{g:Nat→List Nat}:∀(l:List Edge) (s0:List Nat) (k:Nat),k∈l.foldl (fun s e=>if b e then e.on::(g e.on++s) else s) s0→k∈s0∨∃e,e∈l∧b e=true∧(k=e.on∨k∈g e.on)
 |[],s0,k,h=>.inl h
 |e::l,s0,k,h=>by
  rw[List.foldl_cons] at h
  rcases edge_fold l _ k h with q|⟨e',h1,h2⟩
  ·split at q
   ·rename_i hb
    rcases List.mem_cons.1 q with q|q
    ·exact .inr ⟨e,by simp,hb,.inl q⟩
    ·rcases List.mem_append.1 q with q|q
     ·exact .inr ⟨e,by simp,hb,.inr q⟩
     ·exact .inl q
   ·exact .inl q
  ·exact .inr ⟨e',by simp[h1],h2⟩
theorem befores_fold:∀(l pre:List Oper) (acc:List (List Nat)),acc.length=pre.length→(∀i k,k∈acc.getD i []→∃o,(pre++l)[i]? = some o∧∃e,e∈o.after.toList∧Region.binds .any e=true∧(k=e.on∨k∈acc.getD e.on [])) →
  ∀i k,k∈(l.foldl (fun acc o=>acc++[o.after.toList.foldl (fun s e=>if Region.binds .any e then e.on::(acc.getD e.on []++s) else s) []]) acc).getD i [] →
   ∃o,(pre++l)[i]? = some o∧∃e,e∈o.after.toList∧Region.binds .any e=true∧(k=e.on∨k∈(l.foldl (fun acc o=>acc++[o.after.toList.foldl (fun s e=>if Region.binds .any e then e.on::(acc.getD e.on []++s) else s) []]) acc).getD e.on [])
 |[],pre,acc,_,h=>h
 |o::l,pre,acc,hl,h=>by
  rw[List.foldl_cons]
  have:=befores_fold l (pre++[o]) (acc++[o.after.toList.foldl (fun s e=>if Region.binds .any e then e.on::(acc.getD e.on []++s) else s) []]) (by simp[hl]) (fun i k hk=>by
   have up:∀j k,k∈acc.getD j []→k∈(acc++[o.after.toList.foldl (fun s e=>if Region.binds .any e then e.on::(acc.getD e.on []++s) else s) []]).getD j []:=fun j k hk=>by
    rcases Nat.lt_or_ge j acc.length with q|q
    ·rw[List.getD_eq_getElem?_getD,List.getElem?_append_left q,←List.getD_eq_getElem?_getD];exact hk
    ·rw[List.getD_eq_getElem?_getD,List.getElem?_eq_none q] at hk;cases hk
   rcases Nat.lt_or_ge i acc.length with q|q
   ·rw[List.getD_eq_getElem?_getD,List.getElem?_append_left q,←List.getD_eq_getElem?_getD] at hk
    obtain⟨o',h1,e,h2,h3,h4⟩:=h i k hk
    exact⟨o',by simpa using h1,e,h2,h3,h4.imp id (up _ _)⟩
   ·rcases Nat.lt_or_ge acc.length i with q2|q2
    ·rw[List.getD_eq_getElem?_getD,List.getElem?_eq_none (by simp;omega)] at hk;cases hk
    ·obtain rfl:i=acc.length:=by omega
     rw[List.getD_eq_getElem?_getD,List.getElem?_append_right (Nat.le_refl _),Nat.sub_self] at hk
     simp only[List.getElem?_cons_zero,Option.getD_some] at hk
     rcases edge_fold (b:=fun e=>Region.binds .any e) (g:=fun n=>acc.getD n []) _ _ _ hk with z|⟨e,h2,h3,h4⟩
     ·cases z
     ·exact⟨o,by simp[hl],e,h2,h3,h4.imp id (up _ _)⟩)
  simpa using this
theorem befores_spec{ops:List Oper}{i k:Nat}(h:k∈(befores ops).getD i []):∃o,ops[i]? = some o∧∃e,e∈o.after.toList∧Region.binds .any e=true∧(k=e.on∨k∈(befores ops).getD e.on []):=
 befores_fold ops [] [] rfl (fun i k hk=>by simp at hk) i k h
theorem edges_lt:∀(ops:List Oper) (k i:Nat) (o:Oper),edgesOk k ops=true→ops[i]? = some o→∀e,e∈o.after.toList→Region.binds .any e=true→e.on<k+i
 |[],_,_,_,_,h,_,_,_=>by simp at h
 |p::ops,k,i,o,h,ho,e,he,hbi=>by
  simp only[edgesOk,Bool.and_eq_true] at h
  cases i with
  |zero=>
   simp only[List.getElem?_cons_zero,Option.some.injEq] at ho
   subst ho
   have:=Array.all_eq_true_iff_forall_mem.1 h.1 e (by simpa using he)
   rw[hbi] at this
   simpa using this
  |succ i=>
   have:=edges_lt ops (k+1) i o h.2 (by simpa using ho) e he hbi
   omega
theorem getD_contra{l:Array Bool}{j:Nat}(h1:l.getD j true=false)(h2:l.getD j false=true):False:=by
 unfold Array.getD at h1 h2
 split at h1
 ·rename_i h
  rw[dif_pos h] at h2
  rw[h1] at h2;cases h2
 ·cases h1
section
variable {P:Program} {E:Env} {w0:World} {MB:Out} {α:Type}
theorem wants_yield{s:St}{g:Gh}{a:Act}{w:World}{ops:Array Oper}{o:Oper}{b:Bool}(h:R E.m w0 MB s g a w)(hw:Wants ops.toList s.slots o b):Region.wanted o (yielded ops a.tmps)=b:=by
 unfold Wants at hw
 unfold Region.wanted
 cases hg:o.guard with
 |none=>rw[hg] at hw;exact hw.symm
 |some jw=>
  obtain⟨j,want⟩:=jw
  rw[hg] at hw
  obtain⟨g1,hg1,hw⟩:=hw
  rcases hw with⟨b',hgb,rfl⟩|⟨hgb,rfl⟩
  rotate_left
  ·have hlt:g1<E.m:=by
    rcases Nat.lt_or_ge g1 E.m with q|q
    ·exact q
    ·rw[List.getD_eq_getElem?_getD,List.getElem?_eq_none (by rw[h.sl];exact q)] at hgb
     cases hgb
   have hv:=h.slots g1 hlt
   rw[hgb] at hv
   obtain⟨vs,hval,hvs⟩:=hv
   obtain rfl:=hvs.nil_left
   have hy:yielded ops a.tmps j=none:=by
    unfold yielded
    have e1:(ops[j]?).bind (·.dst)=some g1:=by rw[←hg1];simp
    rw[e1]
    have hlt2:g1<a.tmps.size:=by rw[h.tm];exact hlt
    have:a.tmps[g1]? = some (.tuple #[]):=by
     rw[Array.getElem?_eq_getElem hlt2]
     rw[←hval]
     simp[Array.getD,hlt2]
    simp[this]
   simp only[hy]
   rfl
  have hlt:g1<E.m:=by
   rcases Nat.lt_or_ge g1 E.m with q|q
   ·exact q
   ·rw[List.getD_eq_getElem?_getD,List.getElem?_eq_none (by rw[h.sl];exact q)] at hgb
    cases hgb
  have hv:=h.slots g1 hlt
  rw[hgb] at hv
  have hval:a.tmps.getD g1 undef = .bool b':=hv.2.2
  have hy:yielded ops a.tmps j=some b':=by
   unfold yielded
   have e1:(ops[j]?).bind (·.dst)=some g1:=by rw[←hg1];simp
   rw[e1]
   have hlt2:g1<a.tmps.size:=by rw[h.tm];exact hlt
   have:a.tmps[g1]? = some (.bool b'):=by
    rw[Array.getElem?_eq_getElem hlt2]
    rw[←hval]
    simp[Array.getD,hlt2]
   simp[this]
  simp only[hy]
  cases b'<;>cases want<;>rfl
theorem any_sound(T:TTok P E)(hS:∀f sig,E.T f=some sig→Sound P f sig)(hm:0<E.m){ops:Array Oper}(hedge:edgesOk 0 ops.toList=true){Q:Exit→Act→World→Prop}{sf:St}(hQ:∀g a w,R E.m w0 MB sf g a w→Q .normal a w):
  ∀(fuel:Nat) (listed:Array Bool) (L:List (Nat×Oper)) (Tr:List Touch) (s:St) (g:Gh) (a:Act) (w:World),R E.m w0 MB s g a w→Run E ops.toList L s Tr sf→(L.zip Tr).Pairwise (Ordered ops.toList (befores ops.toList))→L.length=fuel →
   (∀i o,(i,o)∈L↔(ops[i]? = some o∧listed.getD i true=false))→L.Pairwise (fun a b=>a.1<b.1)→listed.size=ops.size→(∀i k,listed.getD i false=true→k∈(befores ops.toList).getD i []→listed.getD k false=true)→wpAny P .any ops Q fuel listed a w
 |0,listed,L,Tr,s,g,a,w,h,hr,hp,hl,hmem,hs,hsz,hcl=>by
  have hL:L=[]:=List.eq_nil_of_length_eq_zero hl
  subst hL
  have hTr:=run_len _ _ _ _ hr
  have:Tr=[]:=List.eq_nil_of_length_eq_zero hTr
  subst this
  obtain rfl:sf=s:=hr
  refine⟨?_,hQ g a w h⟩
  unfold Region.ready
  rw[List.filter_eq_nil_iff]
  intro i hi hc
  have hi:=List.mem_range.1 hi
  simp only[Bool.and_eq_true,Bool.not_eq_true'] at hc
  have:=(hmem i ops[i]).2 ⟨Array.getElem?_eq_getElem hi,hc.1⟩
  cases this
 |fuel+1,listed,L,Tr,s,g,a,w,h,hr,hp,hl,hmem,hs,hsz,hcl=>by
  have unl:∀j,j<ops.size→listed.getD j false≠true→listed.getD j true=false:=fun j hj hne=>by
   have:j<listed.size:=by omega
   simp only[Array.getD,this,dif_pos] at hne ⊢
   simpa using hne
  refine⟨fun hnil=>?_,fun i hi=>?_⟩
  ·exfalso
   match L,hl with
   |(i,o)::L',_=>
    obtain⟨h1,h2⟩:=(hmem i o).1 (by simp)
    have hi:i<ops.size:=(Array.getElem?_eq_some_iff.1 h1).1
    have:i∈Region.ready .any ops listed:=by
     unfold Region.ready
     refine List.mem_filter.2 ⟨List.mem_range.2 hi,?_⟩
     simp only[h2,h1,Bool.not_false,Bool.true_and,Option.map_some,Option.getD_some]
     refine Array.all_eq_true_iff_forall_mem.2 (fun e he=>?_)
     cases hb:Region.binds .any e with
     |false=>rfl
     |true=>
      simp only[Bool.not_true,Bool.false_or]
      have hlt:=edges_lt _ 0 i o hedge (by simpa using h1) e (by simpa using he) hb
      cases hq:listed.getD e.on false with
      |true=>rfl
      |false=>
       have hmm:=(hmem e.on ops[e.on]).2 ⟨Array.getElem?_eq_getElem (by omega),unl _ (by omega) (by rw[hq];simp)⟩
       rcases List.mem_cons.1 hmm with q|q
       ·simp only[Prod.mk.injEq] at q;omega
       ·have:=(List.pairwise_cons.1 hs).1 _ q
        simp only at this
        omega
    rw[hnil] at this
    cases this
  ·unfold Region.ready at hi
   obtain⟨hi1,hi2⟩:=List.mem_filter.1 hi
   have hi1:=List.mem_range.1 hi1
   have hoi:ops[i]? = some ops[i]:=Array.getElem?_eq_getElem hi1
   rw[hoi] at hi2
   simp only[Bool.and_eq_true,Bool.not_eq_true',Option.map_some,Option.getD_some] at hi2
   obtain⟨hi2,hi3⟩:=hi2
   have hin:(i,ops[i])∈L:=(hmem i _).2 ⟨hoi,hi2⟩
   generalize ho:ops[i]=o at *
   obtain⟨L1,L2,rfl⟩:=List.append_of_mem hin
   have hTl:=run_len _ _ _ _ hr
   obtain⟨T1,t,T2,rfl,hT1⟩:∃T1 t T2,Tr=T1++t::T2∧T1.length=L1.length:=by
    have hlt:L1.length<Tr.length:=by rw[hTl];simp
    refine⟨Tr.take L1.length,Tr[L1.length],Tr.drop (L1.length+1),?_,by simp;omega⟩
    rw[List.getElem_cons_drop,List.take_append_drop]
   have hzip:(L1++(i,o)::L2).zip (T1++t::T2)=L1.zip T1++((i,o),t)::L2.zip T2:=by
    rw[List.zip_append hT1.symm,List.zip_cons_cons]
   rw[hzip] at hp
   have hpw:=List.pairwise_append.1 hp
   have hap:∀p,p∈L1.zip T1→apartB ops.toList o p.1.2 t p.2=true:=fun p hpm=>by
    rcases hpw.2.2 p hpm ((i,o),t) (by simp) with q|q
    ·exfalso
     have hk:p.1.1∈(befores ops.toList).getD i []:=by simpa using q
     obtain⟨o',k1,e,k2,k3,k4⟩:=befores_spec hk
     have:o'=o:=by
      have:ops.toList[i]? = some o:=by simpa using hoi
      rw[this] at k1
      exact (Option.some.inj k1).symm
     subst this
     have he:=Array.all_eq_true_iff_forall_mem.1 hi3 e (by simpa using k2)
     rw[k3] at he
     simp only[Bool.not_true,Bool.false_or] at he
     have hpl:listed.getD p.1.1 false=true:=by
      rcases k4 with q|q
      ·rw[q];exact he
      ·exact hcl _ _ he q
     have hpL:p.1∈L1++(i,o')::L2:=List.mem_append_left _ (List.of_mem_zip hpm).1
     have:=((hmem p.1.1 p.1.2).1 hpL).2
     exact getD_contra this hpl
    ·exact q
   obtain⟨b,e,d1,d2,d3⟩:=front L1 T1 s hT1 hr hap
   have hw:=wants_yield h d2
   have rest:∀g' a' w',R E.m w0 MB (e.on o.dst s) g' a' w'→wpAny P .any ops Q fuel (listed.setIfInBounds i true) a' w':=fun g' a' w' hR=>by
    have hne:∀j o',(j,o')∈L1++L2→j≠i:=fun j o' hj=>by
     rcases List.mem_append.1 hj with q|q
     ·have:=(List.pairwise_append.1 hs).2.2 _ q (i,o) (by simp)
      simp only at this;omega
     ·have:=(List.pairwise_cons.1 (List.pairwise_append.1 hs).2.1).1 _ q
      simp only at this;omega
    have hset:∀j d,(listed.setIfInBounds i true).getD j d=if j=i then true else listed.getD j d:=fun j d=>by
     have hil:i<listed.size:=by omega
     by_cases q:j=i
     ·subst q;simp[Array.getD,hil]
     ·rw[if_neg q]
      simp only[Array.getD_eq_getD_getElem?]
      rw[Array.getElem?_setIfInBounds_ne (Ne.symm q)]
    refine any_sound T hS hm hedge hQ fuel _ (L1++L2) (T1++T2) _ g' a' w' hR d3 ?_ (by simp at hl ⊢;omega) (fun j o'=>?_) ?_ (by simpa using hsz) (fun j k hj hk=>?_)
    ·rw[List.zip_append hT1.symm]
     exact hp.sublist (List.Sublist.append_left (List.sublist_cons_self _ _) _)
    ·rw[hset]
     constructor
     ·intro hj
      have hj2:(j,o')∈L1++(i,o)::L2:=(List.Sublist.append_left (List.sublist_cons_self _ _) _).subset hj
      rw[if_neg (hne j o' hj)]
      exact (hmem j o').1 hj2
     ·rintro⟨k1,k2⟩
      split at k2
      ·cases k2
      ·rename_i hji
       have:=(hmem j o').2 ⟨k1,k2⟩
       rcases List.mem_append.1 this with q|q
       ·exact List.mem_append_left _ q
       ·rcases List.mem_cons.1 q with q|q
        ·simp only[Prod.mk.injEq] at q;exact absurd q.1 hji
        ·exact List.mem_append_right _ q
    ·exact hs.sublist (List.Sublist.append_left (List.sublist_cons_self _ _) _)
    ·rw[hset] at hj ⊢
     split
     ·rfl
     ·split at hj
      ·rename_i hji
       subst hji
       obtain⟨o',k1,e',k2,k3,k4⟩:=befores_spec hk
       have:o'=o:=by
        have:ops.toList[j]? = some o:=by simpa using hoi
        rw[this] at k1
        exact (Option.some.inj k1).symm
       subst this
       have he:=Array.all_eq_true_iff_forall_mem.1 hi3 e' (by simpa using k2)
       rw[k3] at he
       simp only[Bool.not_true,Bool.false_or] at he
       rcases k4 with q|q
       ·rw[q];exact he
       ·exact hcl _ _ he q
      ·exact hcl j k hj hk
   unfold wpOp
   rw[hoi]
   simp only
   rw[hw]
   cases d1 with
   |skip=>exact rest _ _ _ (h.quiet (.tup []) o.dst undef ⟨[],rfl,All2.nil _⟩)
   |run _ h1 h2=>
    left
    obtain⟨e',k1,k2⟩:=op_holds T hS h (dn_ne hm _) (h1 Eff some)
    obtain rfl:=Option.some.inj k1
    exact k2 h2 _ _ (fun v w' ⟨g',hg⟩=>rest g' _ _ hg)
end
end Go.Proofs.Ytlipfbihlmlplaa.G
namespace Go.Proofs.Ytlipfbihlmlplaa.G
open Go Go.RowKit
set_option linter.unusedVariables false
set_option linter.unusedSimpArgs false
theorem zip_rev{β γ:Type}:∀(l:List β) (k:List γ),l.length=k.length→l.reverse.zip k.reverse=(l.zip k).reverse
 |[],[],_=>rfl
 |x::l,y::k,h=>by
  have h':l.length=k.length:=by simpa using h
  rw[List.reverse_cons,List.reverse_cons,List.zip_append (by simp[h']),zip_rev l k h']
  show _=((x,y)::l.zip k).reverse
  rw[List.reverse_cons]
  rfl
 |[],_::_,h=>by cases h
 |_::_,[],h=>by cases h
section
variable {P:Program} {E:Env} {w0:World} {MB:Out} {α:Type}
theorem R.drawn{m:Nat}{s:St}{g:Gh}{a:Act}{w:World}(h:R m w0 MB s g a w)(n:Nat)(hn:w.drawn≤n):R m w0 MB s g a { w with drawn:=n } where
 defers:=h.defers
 sl:=h.sl
 tm:=h.tm
 slots:=h.slots
 dat:=fun k d hk=>memH_frame (w:=w) (w':={ w with drawn:=n }) (Nat.le_refl _) _ _ _ _ (h.dat k d hk) (fun _ _=>rfl)
 bx:=h.bx
 sep:=h.sep
 fresh:=h.fresh
 frame:=⟨h.frame.os,⟨h.frame.tape.1,fun q=>Nat.le_trans (h.frame.tape.2 q) hn⟩,h.frame.output,h.frame.size,h.frame.block⟩
 pins:=h.pins
 go:=h.go
theorem draw_sound(T:TTok P E)(hS:∀f sig,E.T f=some sig→Sound P f sig)(hm:0<E.m)(hmix:P.follows .mixedOrders=true):DrawSound P E w0 MB α:=by
 intro id ops s g a w Q K r h hd hQ
 obtain⟨Tr,sf,hr,hk⟩:=unroll _ s [] hd
 rw[List.append_nil] at hk
 split at hk
 ·rename_i hdo
  simp only[drawOk,Bool.and_eq_true] at hdo
  obtain⟨hedge,hreg⟩:=hdo
  have hlen:Tr.length=ops.toList.length:=by
   have:=run_len _ _ _ _ hr
   rw[this];simp
  have hpw:=regionOk_pw _ hreg
  rw[zip_rev _ _ hlen.symm,List.pairwise_reverse] at hpw
  have hmap:(((List.range ops.size).zip ops.toList).zip Tr).map (fun p=>(p.1.2,p.2))=ops.toList.zip Tr:=by
   apply List.ext_getElem?
   intro j
   simp only[List.getElem?_map,List.getElem?_zip_eq_some,List.zip,List.getElem?_zipWith]
   rcases Nat.lt_or_ge j ops.size with q|q
   ·have e1:(List.range ops.size)[j]? = some j:=List.getElem?_range q
    rw[e1]
    cases ops.toList[j]? <;> cases Tr[j]? <;> rfl
   ·have e1:(List.range ops.size)[j]? = none:=List.getElem?_eq_none (by simpa using q)
    have e2:ops.toList[j]? = none:=List.getElem?_eq_none (by simpa using q)
    rw[e1,e2]
    cases Tr[j]? <;> rfl
  rw[←hmap,List.pairwise_map] at hpw
  refine wp_region_any hmix (any_sound T hS hm hedge (sf:=sf) (fun g' a' w' hR=>hQ sf g' a' w' hR hk) ops.size _ _ Tr s g a _ (h.drawn _ (Nat.le_succ _)) hr ?_ (by simp) (fun i o=>?_) ?_ (by simp) (fun i k hi _=>?_))
  ·refine List.Pairwise.imp_of_mem ?_ hpw
   intro p q hp hq hpq
   have e1:=run_idx _ _ _ _ hr p hp
   have e2:=run_idx _ _ _ _ hr q hq
   unfold Ordered
   rw[←e1,←e2]
   exact hpq
  ·constructor
   ·intro hm'
    obtain⟨j,hj⟩:=List.getElem?_of_mem hm'
    simp only[List.zip,List.getElem?_zipWith] at hj
    rcases Nat.lt_or_ge j ops.size with q|q
    ·have e1:(List.range ops.size)[j]? = some j:=List.getElem?_range q
     have e2:ops.toList[j]? = some ops[j]:=by simp[q]
     rw[e1,e2] at hj
     simp only[Option.some.injEq,Prod.mk.injEq] at hj
     obtain⟨rfl,rfl⟩:=hj
     exact⟨Array.getElem?_eq_getElem q,by simp[Array.getD,q]⟩
    ·have e1:(List.range ops.size)[j]? = none:=List.getElem?_eq_none (by simpa using q)
     rw[e1] at hj
     cases hj
   ·rintro⟨h1,_⟩
    obtain⟨q,h2⟩:=Array.getElem?_eq_some_iff.1 h1
    refine List.mem_of_getElem? (i:=i) ?_
    simp only[List.zip,List.getElem?_zipWith]
    rw[List.getElem?_range q,show ops.toList[i]? = some o by simpa using h1]
  ·have:((List.range ops.size).zip ops.toList).map (·.1)=List.range ops.size:=List.map_fst_zip (by simp)
   have h2:(((List.range ops.size).zip ops.toList).map (·.1)).Pairwise (· < ·):=by rw[this];exact List.pairwise_lt_range
   exact List.pairwise_map.1 h2
  ·exfalso
   simp only[Array.getD,Array.size_replicate] at hi
   split at hi
   ·simp at hi
   ·cases hi
 ·cases hk
theorem fn_sound{TT : TyTab}{small : TypeId → Bool}{Tb : FuncId → Option Sig}(hmix : P.follows .mixedOrders = true)(T : TTok P ⟨TT, small, Tb, 0, 0⟩)(hS : ∀ f sig, Tb f = some sig → Sound P f sig){f : FuncId}{fn : Func}(hf : P.funcs[f]? = some fn)(hname : fn.name ≠ "runtime.NumGoroutine")(hm : 0 < fn.ntmps)
  (ann:Ann) (muts:List Nat) (sig:Sig) (hmu:sig.muts=muts) (hF:∀avs r,sig.F Res avs some=some r→∃fuel,run TT small Tb fn ann muts fuel avs some=some r) (hb:fn.body.isNone=false):Sound P f sig:=
 run_sound T hS hf hname hm (fun n w MB _=>draw_sound ⟨T.ty,T.zero,T.shallow,T.guard,T.small⟩ hS hm hmix) ann muts sig hmu hF hb
end
end Go.Proofs.Ytlipfbihlmlplaa.G
namespace Go.Proofs.Ytlipfbihlmlplaa.G
open Go
set_option linter.unusedVariables false
def iter{X α:Type}(B:(X→Option α)→X→Option α):Nat→X→Option α
 |0,_=>none
 |k+1,x=>B (iter B k) x
theorem loop_sim{X α:Type}{body:(St→Option α)→St→Option α}{emb:X→St}{B:(X→Option α)→X→Option α}(h:∀rec x,body rec (emb x)=B (fun y=>rec (emb y)) x):∀k x,loopN body k (emb x)=iter B k x
 |0,_=>rfl
 |k+1,x=>by
  show body (loopN body k) (emb x)=B (iter B k) x
  rw[h]
  congr 1
  funext y
  exact loop_sim h k y
theorem iter_run{X α:Type}{B:(X→Option α)→X→Option α}(st:Nat→X)(n:Nat)(r:Option α)(hs:∀k,k<n→∀rec,B rec (st k)=rec (st (k+1)))(he:∀rec,B rec (st n)=r):∀j k,k+j=n→∀fuel,j<fuel→iter B fuel (st k)=r
 |0,k,hk,0,hf=>absurd hf (Nat.lt_irrefl 0)
 |j+1,k,hk,0,hf=>absurd hf (Nat.not_lt_zero _)
 |0,k,hk,f+1,hf=>by
  obtain rfl:k=n:=by omega
  exact he _
 |j+1,k,hk,f+1,hf=>by
  show B (iter B f) (st k)=r
  rw[hs k (by omega)]
  exact iter_run st n r hs he j (k+1) (by omega) f (by omega)
theorem iter_to{X α:Type}{B:(X→Option α)→X→Option α}(st:Nat→X)(n:Nat){x:X}{r:Option α}{fuel:Nat}(h0:st 0=x)(hf:n<fuel)(hs:∀k,k<n→∀rec,B rec (st k)=rec (st (k+1)))(he:∀rec,B rec (st n)=r):iter B fuel x=r:=by
 subst h0
 exact iter_run st n r hs he n 0 (by omega) fuel hf
def codeAt:List Bool→Code→Code
 |[],c=>c
 |false::p,.seq a _=>codeAt p a
 |true::p,.seq _ b=>codeAt p b
 |false::p,.cond _ a _=>codeAt p a
 |true::p,.cond _ _ b=>codeAt p b
 |_::p,.block _ b=>codeAt p b
 |_::p,.loop b=>codeAt p b
 |_,c=>c
def annAt:List Bool→Ann→Ann
 |[],n=>n
 |false::p,n=>annAt p n.l
 |true::p,n=>annAt p n.r
noncomputable def contAt{α:Type}(E:Env)(fuel:Nat):List Bool→Code→Ann→List (St→Option α)→(Ex→St→Option α)→Ex→St→Option α
 |false::p,.seq a b,n,rs,K=>contAt E fuel p a n.l rs (seqK (fun s'=>cutK E n s' fun s''=>den E fuel b n.r s'' K) K)
 |true::p,.seq _ b,n,rs,K=>contAt E fuel p b n.r rs K
 |false::p,.cond _ a _,n,rs,K=>contAt E fuel p a n.l rs K
 |true::p,.cond _ _ b,n,rs,K=>contAt E fuel p b n.r rs K
 |_::p,.block id b,n,rs,K=>contAt E fuel p b n.l rs (blockK id K)
 |_::p,.loop b,n,r::rs,K=>contAt E fuel p b n.l rs (loopK E n.live r K)
 |_,_,_,_,K=>K
def bodyOf(f:Func):Code:=f.body.getD .skip
noncomputable def roundV{α:Type}(E:Env)(fuel:Nat)(p:List Bool)(c:Code)(n:Ann)(cont:Ex→St→Option α)(rec:St→Option α)(s:St):Option α:=
 den E fuel (codeAt (p++[false]) c) (annAt (p++[false]) n) s (loopK E (annAt p n).live rec cont)
def mkSl:Nat→Nat→List (Nat×SV)→List SV
 |0,_,_=>[]
 |m+1,i,[]=>.dead::mkSl m (i+1) []
 |m+1,i,(j,v)::l=>match Nat.beq i j with
  |true=>v::mkSl m (i+1) l
  |false=>.dead::mkSl m (i+1) ((j,v)::l)
def mkOb:Nat→Nat→List (Nat×Ob)→List (Option Ob)
 |0,_,_=>[]
 |m+1,i,[]=>none::mkOb m (i+1) []
 |m+1,i,(j,v)::l=>match Nat.beq i j with
  |true=>some v::mkOb m (i+1) l
  |false=>none::mkOb m (i+1) ((j,v)::l)
def mkSlots(m:Nat)(l:List (Nat×SV)):List SV:=mkSl m 0 l
def mkObjs(m:Nat)(l:List (Nat×Ob)):List (Option Ob):=mkOb m 0 l
def inB(i:Int)(n:Nat):Bool:=decide (0≤i)&&decide (i<(n:Int))
def inW(a b:Int)(n:Nat):Bool:=decide (0≤a)&&(decide (a≤b)&&decide (b≤(n:Int)))
def okL(n:Nat):Bool:=decide (n≤LIM)
theorem inB_true{i:Int}{n:Nat}(h0:0≤i)(h:i<(n:Int)):inB i n=true:=by unfold inB;rw[decide_eq_true h0,decide_eq_true h];rfl
theorem inB_nat{i n:Nat}(h:i<n):inB (i:Int) n=true:=inB_true (Int.natCast_nonneg i) (by omega)
theorem inW_true{a b:Int}{n:Nat}(h0:0≤a)(h1:a≤b)(h2:b≤(n:Int)):inW a b n=true:=by unfold inW;rw[decide_eq_true h0,decide_eq_true h1,decide_eq_true h2];rfl
theorem okL_true{n:Nat}(h:n≤4294967296):okL n=true:=decide_eq_true h
theorem toVal_eq{t:Ty}{a:AV}{x:t.den}(h:a.toVal t=some x):a = .val t x:=by
 cases a with
 |val u y=>
  simp only[AV.toVal] at h
  by_cases e:u=t
  ·subst e
   rw[dif_pos rfl] at h
   rw[←Option.some.inj h]
   rfl
  ·rw[dif_neg e] at h
   cases h
 |_=>cases h
theorem toList_eq{t:Ty}{a:AV}{l:List t.den}(h:a.toList t=some l):∃e,a = .obj false ⟨e,t,l⟩:=by
 cases a with
 |obj p c=>
  cases p with
  |true=>cases h
  |false=>
   obtain⟨e,u,y⟩:=c
   simp only[AV.toList] at h
   by_cases q:u=t
   ·subst q
    rw[dif_pos rfl] at h
    rw[←Option.some.inj h]
    exact⟨e,rfl⟩
   ·rw[dif_neg q] at h
    cases h
 |_=>cases h
theorem toBox_eq{t:Ty}{a:AV}{x:t.den}(h:a.toBox t=some x):∃e,a = .obj true ⟨e,t,[x]⟩:=by
 cases a with
 |obj p c=>
  cases p with
  |false=>cases h
  |true=>
   obtain⟨e,u,y⟩:=c
   simp only[AV.toBox] at h
   by_cases q:u=t
   ·subst q
    rw[dif_pos rfl] at h
    match y,h with
    |[z],h=>
     have h:z=x:=Option.some.inj h
     rw[←h]
     exact⟨e,rfl⟩
   ·rw[dif_neg q] at h
    cases h
 |_=>cases h
def AV.toBx(t:Ty):AV→Option (List t.den)
 |.bx _ c=>if h:c.t=t then some (h▸c.l) else none
 |_=>none
theorem toBx_eq{t:Ty}{a:AV}{l:List t.den}(h:a.toBx t=some l):∃e0 e,a = .bx e0 ⟨e,t,l⟩:=by
 cases a with
 |bx e0 c=>
  obtain⟨e,u,y⟩:=c
  simp only[AV.toBx] at h
  by_cases q:u=t
  ·subst q
   rw[dif_pos rfl] at h
   rw[←Option.some.inj h]
   exact⟨e0,e,rfl⟩
  ·rw[dif_neg q] at h
   cases h
 |_=>cases h
def AV.toFn(g:FuncId):AV→Option (List AV)
 |.fn f cs=>cond (Nat.beq f g) (some (cs.map capAV)) none
 |_=>none
def AV.elem:AV→TypeId
 |.obj _ c=>c.e
 |_=>0
theorem toFn_eq{g:FuncId}{a:AV}{l:List AV}(h:a.toFn g=some l):∃cs,a = .fn g cs∧l=cs.map capAV:=by
 cases a with
 |fn f cs=>
  simp only[AV.toFn] at h
  cases q:Nat.beq f g with
  |true=>
   rw[q] at h
   obtain rfl:=Nat.eq_of_beq_eq_true q
   exact⟨cs,rfl,(Option.some.inj h).symm⟩
  |false=>rw[q] at h;cases h
 |_=>cases h
theorem capAV_box{t:Ty}{e:TypeId}{x:t.den}{c:Option TypeId×Cont}(h:capAV c = .obj true ⟨e,t,[x]⟩):c=(none,⟨e,t,[x]⟩):=by
 obtain⟨o,c⟩:=c
 cases o with
 |none=>simp only[capAV,AV.obj.injEq,true_and] at h;rw[h]
 |some e=>cases h
theorem capAV_bx{e0:TypeId}{q:Cont}{c:Option TypeId×Cont}(h:capAV c = .bx e0 q):c=(some e0,q):=by
 obtain⟨o,c⟩:=c
 cases o with
 |none=>cases h
 |some e=>simp only[capAV,AV.bx.injEq] at h;rw[h.1,h.2]
def mkSig{A B:Type}(muts:List Nat)(dec:List AV→Option A)(f:A→Option B)(enc:List AV→B→Res)(nils:List Nat:=[]):Sig where
 muts:=muts
 nils:=nils
 F:=fun α avs K=>match dec avs with
  |some x=>(f x).bind fun r=>K (enc avs r)
  |none=>none
 law:=by
  intro α avs K
  split
  ·rename_i x _;cases f x<;>rfl
  ·rfl
theorem mkSig_run{A B:Type}{muts:List Nat}{dec:List AV→Option A}{f:A→Option B}{enc:List AV→B→Res}{nils:List Nat}{avs:List AV}{r:Res}(h:(mkSig muts dec f enc nils).F Res avs some=some r):∃x y,dec avs=some x∧f x=some y∧r=enc avs y:=by
 simp only[mkSig] at h
 split at h
 ·rename_i x hx
  obtain⟨y,h1,h2⟩:=Option.bind_eq_some_iff.1 h
  exact⟨x,y,hx,h1,(Option.some.inj h2).symm⟩
 ·cases h
def sigCase(c:List AV→Bool)(s1 s2:Sig):Sig where
 muts:=s1.muts
 F:=fun α avs K=>cond (c avs) (s1.F α avs K) (s2.F α avs K)
 law:=by
  intro α avs K
  cases c avs
  ·exact s2.law α avs K
  ·exact s1.law α avs K
theorem Sound.case{P:Program}{f:FuncId}{c:List AV→Bool}{s1 s2:Sig}(hm:s2.muts=s1.muts)(h1:Sound P f s1)(h2:Sound P f s2):Sound P f (sigCase c s1 s2) where
 fn:=h1.fn
 does:=fun avs r hr vs w gh MBb hR=>by
  simp only[sigCase] at hr
  cases hc:c avs with
  |true=>
   rw[hc] at hr
   exact h1.does avs r hr vs w gh MBb hR
  |false=>
   rw[hc] at hr
   have:=h2.does avs r hr vs w gh MBb (by rw[hm];exact hR)
   refine this.mono (fun e w' he=>?_)
   cases e with
   |returned v=>
    simp only[Post,hm] at he
    exact he
   |_=>exact he
def isFn(i:Nat)(g:FuncId)(avs:List AV):Bool:=match avs[i]? with
 |some (.fn f _)=>Nat.beq f g
 |_=>false
def tabOf:List (Nat×Sig)→FuncId→Option Sig
 |[],_=>none
 |(k,s)::r,n=>cond (Nat.beq n k) (some s) (tabOf r n)
theorem tab_sound{P:Program}:∀(l:List (Nat×Sig)),(∀p,p∈l→Sound P p.1 p.2)→∀f sig,tabOf l f=some sig→Sound P f sig
 |[],_,f,sig,h=>by cases h
 |(k,s)::r,H,f,sig,h=>by
  unfold tabOf at h
  cases q:Nat.beq f k with
  |true=>
   rw[q] at h
   obtain rfl:=Option.some.inj h
   obtain rfl:=Nat.eq_of_beq_eq_true q
   exact H _ (List.mem_cons_self ..)
  |false=>
   rw[q] at h
   exact tab_sound r (fun p hp=>H p (List.mem_cons_of_mem _ hp)) f sig h
theorem Sound.mono{P:Program}{f:FuncId}{A B:Type}{muts:List Nat}{dec:List AV→Option A}{enc:List AV→B→Res}{nils:List Nat}{f1 f2:A→Option B}(h:Sound P f (mkSig muts dec f1 enc nils))(hf:∀x r,f2 x=some r→f1 x=some r):Sound P f (mkSig muts dec f2 enc nils) where
 fn:=h.fn
 does:=fun avs r hr vs w gh MBb hR=>by
  obtain⟨x,y,h1,h2,rfl⟩:=mkSig_run hr
  exact h.does avs _ (by simp only[mkSig,h1,hf x y h2];rfl) vs w gh MBb hR
theorem Sound.sup{P:Program}{f:FuncId}{A B:Type}{muts:List Nat}{dec:List AV→Option A}{enc:List AV→B→Res}{nils:List Nat}{fs:Nat→A→Option B}{f2:A→Option B}(h:∀n,Sound P f (mkSig muts dec (fs n) enc nils))(hf:∀x r,f2 x=some r→∃n,fs n x=some r):Sound P f (mkSig muts dec f2 enc nils) where
 fn:=(h 0).fn
 does:=fun avs r hr vs w gh MBb hR=>by
  obtain⟨x,y,h1,h2,rfl⟩:=mkSig_run hr
  obtain⟨n,hn⟩:=hf x y h2
  exact (h n).does avs _ (by simp only[mkSig,h1,hn];rfl) vs w gh MBb hR
theorem cond_bind{α β:Type}(c:Bool)(a b:Option α)(k:α→Option β):(cond c a b).bind k=cond c (a.bind k) (b.bind k):=by cases c<;>rfl
def BIG:Nat:=2 ^ 62
end Go.Proofs.Ytlipfbihlmlplaa.G
namespace Go.Proofs.Ytlipfbihlmlplaa.G
open Go Go.RowKit Go.ChangeShapes Go.WideShapes Go.Deep
set_option linter.unusedVariables false
def goodV:(t:Ty)→t.den→Prop
 |.int k,n=>(Lit.int k n).wf=true
 |.bool,_=>True
 |.str,s=>ByteArray.size s≤maxLen
 |.pair a b,x=>goodV a x.1∧goodV b x.2
 |.st t,x=>goodV t x
 |.arr n t,x=>List.length x=n∧∀i,i<n→goodV t (List.getD x i t.dflt)
 |.row _ t,x=>List.length x≤maxLen∧∀i,i<List.length x→goodV t (List.getD x i t.dflt)
section
variable {H:Type} {enc:TypeId×Value→H} {P:Program} {W:World} {base:Nat} {sp:Nat→Bool} {hd:Bool} {E:Env}
def OpnT(enc:TypeId×Value→H)(P:Program)(W:World)(base:Nat)(sp:Nat→Bool)(hd:Bool)(ty:Ty)(t:TypeId):Prop:=
 ∀(fuel:Nat) (cs:List Value) (x:DataW H×List MemPlace),DataW.trod enc P W base sp hd fuel t cs=some x→∃y loc,cs=cells ty y loc∧memH W false ty none y loc∧goodV ty y
theorem opn_one{ty:Ty}{t:TypeId}{f:Field}{off:Nat}{fuel:Nat}{cs:List Value}(T:TTok P E)(h:E.TT t=some ty)(hO:OpnT enc P W base sp hd ty t){x:Option (DataW H×List MemPlace)}(hx:x.isSome=true)
  (ht:DataW.trod enc P W base sp hd fuel t ((cs.drop off).take (P.cellsOf t))=x) (hl:off+ty.size=cs.length):∃y loc,cs.drop off=cells ty y loc∧memH W false ty none y loc∧goodV ty y:=by
 obtain⟨z,rfl⟩:=Option.isSome_iff_exists.1 hx
 obtain⟨y,loc,h1,h2,h3⟩:=hO _ _ _ ht
 refine⟨y,loc,?_,h2,h3⟩
 rw[←h1,T.cellsOf h,List.take_of_length_le]
 rw[List.length_drop]
 omega
theorem flat_cut:∀(n:Nat) (sz:Nat) (cs:List Value),cs.length=n*sz→cs=(List.range n).flatMap (fun i=>(cs.drop (i*sz)).take sz)
 |0,sz,cs,h=>by
  simp only[Nat.zero_mul] at h
  simp[List.eq_nil_of_length_eq_zero h]
 |n+1,sz,cs,h=>by
  have h1:(cs.take (n*sz)).length=n*sz:=by rw[List.length_take,h,Nat.succ_mul];omega
  have ih:=flat_cut n sz (cs.take (n*sz)) h1
  rw[List.range_succ,List.flatMap_append]
  have e:(List.range n).flatMap (fun i=>(cs.drop (i*sz)).take sz)=cs.take (n*sz):=by
   refine Eq.trans (flatMap_congr_range (fun i hi=>?_)) ih.symm
   have:i*sz+sz≤n*sz:=by rw[←Nat.succ_mul];exact Nat.mul_le_mul_right _ hi
   rw[List.drop_take,List.take_take,Nat.min_eq_left (by omega)]
  rw[e]
  simp only[List.flatMap_cons,List.flatMap_nil,List.append_nil]
  rw[List.take_of_length_le (l:=cs.drop (n*sz)) (by rw[List.length_drop,h,Nat.succ_mul];omega),List.take_append_drop]
theorem opn_all(T:TTok P E):∀(ty:Ty),(∀t,E.TT t=some ty→OpnT enc P W base sp hd ty t) ∧
  (∀(fs:List Field) (off:Nat) (cs:List Value),fieldsOk E.TT ty off fs=true→(∀f,f∈fs→∃fuel x,DataW.trod enc P W base sp hd fuel f.type ((cs.drop f.offset).take (P.cellsOf f.type))=some x)→off+ty.size=cs.length →
   ∃y loc,cs.drop off=cells ty y loc∧memH W false ty none y loc∧goodV ty y):=by
 have single:∀(ty:Ty),(∀b c,ty≠.pair b c)→(∀t,E.TT t=some ty→OpnT enc P W base sp hd ty t)→(∀(fs:List Field) (off:Nat) (cs:List Value),fieldsOk E.TT ty off fs=true→(∀f,f∈fs→∃fuel x,DataW.trod enc P W base sp hd fuel f.type ((cs.drop f.offset).take (P.cellsOf f.type))=some x)→off+ty.size=cs.length →
   ∃y loc,cs.drop off=cells ty y loc∧memH W false ty none y loc∧goodV ty y):=by
  intro ty hnp hO fs off cs hf hx hl
  have key:∃f,fs=[f]∧f.offset=off∧E.TT f.type=some ty:=by
   cases ty with
   |pair b c=>exact absurd rfl (hnp b c)
   |_=>
    unfold fieldsOk at hf
    split at hf
    ·rename_i e;exact absurd e (by simp)
    ·rename_i f _
     simp only[Bool.and_eq_true,beq_iff_eq] at hf
     exact⟨f,rfl,hf.1,hf.2.1⟩
    ·cases hf
  obtain⟨f,rfl,rfl,hft⟩:=key
  obtain⟨fuel,x,ht⟩:=hx f (by simp)
  exact opn_one (f:=f) T hft (hO _ hft) (x:=some x) rfl ht hl
 intro ty
 induction ty with
 |int k=>
  have h1:∀t,E.TT t=some (.int k)→OpnT enc P W base sp hd (.int k) t:=fun t ht fuel cs x h=>by
   obtain⟨n,rfl,_,hw⟩:=DataW.trod_int (T.int ht) h
   exact⟨n,(),rfl,trivial,hw⟩
  exact⟨h1,single _ (fun _ _=>nofun) h1⟩
 |bool=>
  have h1:∀t,E.TT t=some .bool→OpnT enc P W base sp hd .bool t:=fun t ht fuel cs x h=>by
   obtain⟨n,rfl,_⟩:=DataW.trod_bool (T.bool ht) h
   exact⟨n,(),rfl,trivial,trivial⟩
  exact⟨h1,single _ (fun _ _=>nofun) h1⟩
 |str=>
  have h1:∀t,E.TT t=some .str→OpnT enc P W base sp hd .str t:=fun t ht fuel cs x h=>by
   obtain⟨n,rfl,_,hw⟩:=DataW.trod_string (T.str ht) h
   exact⟨n,(),rfl,trivial,hw⟩
  exact⟨h1,single _ (fun _ _=>nofun) h1⟩
 |pair a b iha ihb=>
  refine⟨fun t ht=>absurd ht T.nopair,fun fs off cs hf hx hl=>?_⟩
  cases fs with
  |nil=>cases hf
  |cons f fs=>
   unfold fieldsOk at hf
   simp only[Bool.and_eq_true,beq_iff_eq] at hf
   obtain⟨rfl,hft,_,_,hrest⟩:=hf
   obtain⟨fuel,x,ht⟩:=hx f (by simp)
   obtain⟨y1,l1,e1,m1,g1⟩:=iha.1 _ hft _ _ _ ht
   simp only[Ty.size] at hl
   obtain⟨y2,l2,e2,m2,g2⟩:=ihb.2 fs (f.offset+a.size) cs hrest (fun g hg=>hx g (List.mem_cons_of_mem _ hg)) (by omega)
   refine⟨(y1,y2),(l1,l2),?_,⟨m1,m2⟩,⟨g1,g2⟩⟩
   simp only[cells]
   rw[←e1,←e2,T.cellsOf hft,←List.drop_drop,List.take_append_drop]
 |st b ih=>
  have h1:∀t,E.TT t=some (.st b)→OpnT enc P W base sp hd (.st b) t:=fun t ht fuel cs x h=>by
   obtain⟨fs,hu,hf,_⟩:=T.st ht
   obtain⟨xs,n,_,_,hl,hxl,hall⟩:=DataW.trod_struct hu h
   obtain⟨y,loc,e1,m1,g1⟩:=ih.2 fs.toList 0 cs hf (fun f hfm=>by
    obtain⟨i,hi⟩:=List.mem_iff_getElem?.1 hfm
    have hi':fs[i]? = some f:=by simpa using hi
    have hlt:i<xs.length:=by rw[hxl];exact (Array.getElem?_eq_some_iff.1 hi').1
    exact⟨n,xs[i],(hall i f hi').trans (List.getElem?_eq_getElem hlt)⟩) (by rw[hl,T.cellsOf ht];simp[Ty.size])
   exact⟨y,loc,e1,m1,g1⟩
  exact⟨h1,single _ (fun _ _=>nofun) h1⟩
 |arr n u ih=>
  have h1:∀t,E.TT t=some (.arr n u)→OpnT enc P W base sp hd (.arr n u) t:=fun t ht fuel cs x h=>by
   obtain⟨e,hu,he⟩:=T.arr ht
   obtain⟨xs,m,_,_,hl,hxl,hall⟩:=DataW.trod_array hu h
   have hex:∀i:Fin n,∃y:u.den×u.loc,(cs.drop (i.1*u.size)).take u.size=cells u y.1 y.2∧memH W false u none y.1 y.2∧goodV u y.1:=fun i=>by
    have:=hall i.1 i.2
    rw[List.getElem?_eq_getElem (by rw[hxl];exact i.2)] at this
    obtain⟨y,loc,e1,m1,g1⟩:=ih.1 e he _ _ _ this
    rw[T.cellsOf he] at e1
    exact⟨(y,loc),e1,m1,g1⟩
   classical
   let f:Nat→u.den×u.loc:=fun i=>if hi:i<n then Classical.choose (hex ⟨i,hi⟩) else (u.dflt,u.dloc)
   have hf:∀i,i<n→(cs.drop (i*u.size)).take u.size=cells u (f i).1 (f i).2∧memH W false u none (f i).1 (f i).2∧goodV u (f i).1:=fun i hi=>by
    simp only[f,dif_pos hi]
    exact Classical.choose_spec (hex ⟨i,hi⟩)
   have hg:∀i,i<n→((List.range n).map fun i=>(f i).1).getD i u.dflt=(f i).1:=fun i hi=>by
    rw[List.getD_eq_getElem?_getD,List.getElem?_map,List.getElem?_range hi];rfl
   refine⟨(List.range n).map fun i=>(f i).1,fun i=>(f i).2,?_,⟨by simp,fun i hi=>?_⟩,⟨by simp,fun i hi=>?_⟩⟩
   ·have hlen:cs.length=n*u.size:=by rw[hl,T.cellsOf ht];rfl
    simp only[cells]
    have e2:(List.range n).flatMap (fun i=>cells u (((List.range n).map fun i=>(f i).1).getD i u.dflt) (f i).2)=(List.range n).flatMap (fun i=>(cs.drop (i*u.size)).take u.size):=
     flatMap_congr_range (fun i hi=>by rw[hg i hi,(hf i hi).1])
    rw[e2]
    exact flat_cut n u.size cs hlen
   ·simp only[sub]
    rw[hg i hi]
    exact (hf i hi).2.1
   ·rw[hg i hi]
    exact (hf i hi).2.2
  exact⟨h1,single _ (fun _ _=>nofun) h1⟩
 |row e u ih=>
  have h1:∀t,E.TT t=some (.row e u)→OpnT enc P W base sp hd (.row e u) t:=fun t ht fuel cs x h=>by
   obtain⟨hu,he⟩:=T.row ht
   have hsz:0<u.size:=by obtain⟨_,_,_,h⟩:=T.size he;exact h
   rcases open_slice hu h with⟨rfl,_⟩|⟨a,len,cap,m,n,D,Pl,rfl,hb,hl,hm,hmm,_,hel⟩
   ·exact⟨[],(⟨none,0⟩,fun _=>u.dloc),rfl,.inr ⟨⟨Nat.le_refl 0,fun q=>absurd q (Nat.lt_irrefl 0),fun q=>by cases q⟩,fun i hi=>absurd hi (Nat.not_lt_zero i)⟩,⟨Nat.zero_le _,fun i hi=>absurd hi (Nat.not_lt_zero i)⟩⟩
   ·have hlm:len≤m:=by rw[hmm];split<;>omega
    have hex:∀i:Fin len,∃y:u.den×u.loc,(∃c,W.cells? base (a.add (i.1*u.size)) u.size=some c∧c=cells u y.1 y.2)∧memH W false u none y.1 y.2∧goodV u y.1:=fun i=>by
     obtain⟨c,hc,ht⟩:=hel i.1 (Nat.lt_of_lt_of_le i.2 hlm)
     obtain⟨y,loc,e1,m1,g1⟩:=ih.1 e he _ _ _ ht
     rw[T.cellsOf he] at hc
     exact⟨(y,loc),⟨c,hc,e1⟩,m1,g1⟩
    classical
    let f:Nat→u.den×u.loc:=fun i=>if hi:i<len then Classical.choose (hex ⟨i,hi⟩) else (u.dflt,u.dloc)
    have hf:∀i,i<len→(∃c,W.cells? base (a.add (i*u.size)) u.size=some c∧c=cells u (f i).1 (f i).2)∧memH W false u none (f i).1 (f i).2∧goodV u (f i).1:=fun i hi=>by
     simp only[f,dif_pos hi]
     exact Classical.choose_spec (hex ⟨i,hi⟩)
    have hg:∀i,i<len→((List.range len).map fun i=>(f i).1).getD i u.dflt=(f i).1:=fun i hi=>by
     rw[List.getD_eq_getElem?_getD,List.getElem?_map,List.getElem?_range hi];rfl
    have hll:((List.range len).map fun i=>(f i).1).length=len:=by simp
    refine⟨(List.range len).map fun i=>(f i).1,(⟨some a,cap⟩,fun i=>(f i).2),by simp[cells],.inr ⟨⟨?_,fun hn=>?_,fun q=>by cases q⟩,fun i hi=>?_⟩,⟨?_,fun i hi=>?_⟩⟩
    ·rw[hll];exact hl
    ·rw[hll] at hn
     obtain⟨⟨c,hc,e1⟩,_⟩:=hf 0 hn
     obtain⟨_,hcl,hcc⟩:=World.cells?_some hc
     have hz:a.add (0*u.size)=a:=by rw[Nat.zero_mul];rfl
     have hz0:a.add 0=a:=rfl
     have hcell:W.cell? a=c[0]? := by
      have:=hcc 0 hsz
      rw[hz,hz0] at this
      exact this
     have hsm:(W.cell? a).isSome=true:=by rw[hcell,List.getElem?_eq_getElem (by omega)];rfl
     have hspot:a.spot=none:=by
      unfold World.cell? at hsm
      split at hsm
      ·split at hsm
       ·cases hsm
       ·rename_i h5
        simpa using h5
      ·cases hsm
     have hblk:a.block<W.heap.size:=by
      obtain⟨v,hv⟩:=Option.isSome_iff_exists.1 hsm
      exact World.block_lt_of_cell? W _ hv
     obtain⟨ab,ao,asp⟩:=a
     simp only at hspot hblk
     subst hspot
     refine⟨ab,ao,rfl,hblk,?_⟩
     unfold rowCells
     rw[hll]
     refine (rangeAt_flatMap _ _ (fun i=>cells_length u _ _) len).2 (fun i hi j v hv=>?_)
     rw[hg i hi] at hv
     obtain⟨⟨c,hc,e1⟩,_⟩:=hf i hi
     obtain⟨_,hcl,hcc⟩:=World.cells?_some hc
     have hj:j<u.size:=by rw[←e1] at hv;have:=(List.getElem?_eq_some_iff.1 hv).1;omega
     have:=hcc j hj
     rw[Addr.add_mid,Addr.add_mid,e1,hv] at this
     exact this
    ·rw[hll] at hi
     simp only[sub]
     rw[hg i hi]
     exact (hf i hi).2.1
    ·rw[hll];omega
    ·rw[hll] at hi
     rw[hg i hi]
     exact (hf i hi).2.2
  exact⟨h1,single _ (fun _ _=>nofun) h1⟩
theorem arg_row(T:TTok P E){t e:TypeId}{u:Ty}(ht:E.TT t=some (.row e u)){v:Value}{b0:Nat}{dd:DataW H}{p:List MemPlace}(hv:Value.okWide P W .any b0 t v)(h:DataW.Trod enc P W base sp hd t v dd p):
  ∃A c l locs,v = .slice A (List.length l) c∧memH W false (.row e u) none l (⟨A,c⟩,locs)∧goodV (.row e u) l:=by
 obtain⟨a,len,cap,rfl⟩:=okWide_slice (T.row ht).1 hv
 obtain⟨fuel,hf⟩:=h
 obtain⟨y,loc,e1,m1,g1⟩:=(opn_all T (.row e u)).1 t ht _ _ _ hf
 obtain⟨⟨A,c⟩,locs⟩:=loc
 simp only[Value.cells,cells,List.cons.injEq,Value.slice.injEq,and_true] at e1
 obtain⟨rfl,rfl,rfl⟩:=e1
 exact⟨_,_,y,locs,rfl,m1,g1⟩
theorem arg_int'(T:TTok P E){t:TypeId}{k:IntKind}(ht:E.TT t=some (.int k)){v:Value}{b0:Nat}{dd:DataW H}{p:List MemPlace}(hv:Value.okWide P W .any b0 t v)(h:DataW.Trod enc P W base sp hd t v dd p):
  ∃n,v = .int k n∧(Lit.int k n).wf=true:=by
 obtain⟨a,rfl,_,_,w⟩:=open_int (T.int ht) hv h
 exact⟨a,rfl,w⟩
theorem arg_st(T:TTok P E){t:TypeId}{b:Ty}(ht:E.TT t=some (.st b))(hf:(Ty.st b).flat=true){v:Value}{b0:Nat}{dd:DataW H}{p:List MemPlace}(hv:Value.okWide P W .any b0 t v)(h:DataW.Trod enc P W base sp hd t v dd p):
  ∃y,v=toV (.st b) y∧okV (.st b) y∧goodV (.st b) y:=by
 obtain⟨fs,hu,_,_⟩:=T.st ht
 obtain⟨cs,rfl,hsz⟩:=okWide_struct hu hv
 obtain⟨fuel,hx⟩:=h
 obtain⟨y,loc,e1,m1,g1⟩:=(opn_all T (.st b)).1 t ht _ _ _ hx
 refine⟨y,?_,ok_of_memH _ hf _ _ _ m1,g1⟩
 rw[cells_enc hf] at e1
 have e2:cs.toList=encV (.st b) y:=e1
 show Value.agg cs = .agg (encV (.st b) y).toArray
 rw[←e2]
theorem arg_arr(T:TTok P E){t:TypeId}{n:Nat}{b:Ty}(ht:E.TT t=some (.arr n b))(hf:(Ty.arr n b).flat=true){v:Value}{b0:Nat}{dd:DataW H}{p:List MemPlace}(hv:Value.okWide P W .any b0 t v)(h:DataW.Trod enc P W base sp hd t v dd p):
  ∃y,v=toV (.arr n b) y∧okV (.arr n b) y∧goodV (.arr n b) y:=by
 obtain⟨e,hu,_⟩:=T.arr ht
 obtain⟨cs,rfl⟩:∃cs,v = .agg cs:=by
  simp only[Value.okWide,hu] at hv
  obtain⟨cs,h1,_⟩:=hv
  exact⟨cs,h1⟩
 obtain⟨fuel,hx⟩:=h
 obtain⟨y,loc,e1,m1,g1⟩:=(opn_all T (.arr n b)).1 t ht _ _ _ hx
 refine⟨y,?_,ok_of_memH _ hf _ _ _ m1,g1⟩
 rw[cells_enc hf] at e1
 have e2:cs.toList=encV (.arr n b) y:=e1
 show Value.agg cs = .agg (encV (.arr n b) y).toArray
 rw[←e2]
def EntryOk(W:World):AV→Value→Prop
 |.val t x,v=>t.flat=true∧okV t x∧v=toV t x
 |.obj false c,v=>∃A cap locs,v = .slice A (List.length c.l) cap∧memH W false (.row c.e c.t) none c.l (⟨A,cap⟩,locs)
 |.obj true c,v=>∃b o cap locs,v = .pointer (some ⟨b,o,none⟩)∧0<List.length c.l∧memH W false (.row c.e c.t) none c.l (⟨some ⟨b,o,none⟩,cap⟩,locs)
 |_,_=>False
theorem entry_ok:∀(avs:List AV) (vs:List Value) (i k:Nat),All2 (EntryOk W) avs vs→∃GL:List Gent,(intro [] i k avs).objs.length=GL.length∧(intro [] i k avs).slots.length=vs.length ∧
  ∀OBJS gh,At OBJS gh k (intro [] i k avs).objs GL→All2 (SRel OBJS gh) (intro [] i k avs).slots vs∧∀j ob,(intro [] i k avs).objs[j]? = some ob→∃d,ob=some (.dat d)∧d.wr=false∧d.fresh=false∧d.hole=none∧memH W false (.row d.e d.t) none d.l (gh.G (k+j) d.t)
 |[],[],i,k,_=>⟨[],rfl,rfl,fun _ _ _=>⟨All2.nil _,fun j ob h=>by simp[intro] at h⟩⟩
 |[],_::_,_,_,h=>by have:=h.1;simp at this
 |_::_,[],_,_,h=>by have:=h.1;simp at this
 |a::avs,v::vs,i,k,h=>by
  obtain⟨h1,h2⟩:=All2.cons_iff.1 h
  cases a with
  |val t x=>
   obtain⟨GL,l1,l2,H⟩:=entry_ok avs vs (i+1) k h2
   refine⟨GL,l1,by show _+1=_+1;exact congrArg (· + 1) l2,fun OBJS gh hat=>?_⟩
   obtain⟨q1,q2⟩:=H OBJS gh hat
   exact⟨All2.cons_iff.2 ⟨h1,q1⟩,q2⟩
  |obj p c=>
   cases p with
   |true=>
    obtain⟨b,o,cap,locs,rfl,hn,hm⟩:=h1
    obtain⟨GL,l1,l2,H⟩:=entry_ok avs vs (i+1) (k+1) h2
    refine⟨gent c.t (⟨some ⟨b,o,none⟩,cap⟩,locs)::GL,by show _+1=_+1;exact congrArg (· + 1) l1,by show _+1=_+1;exact congrArg (· + 1) l2,fun OBJS gh hat=>?_⟩
    have hat0:=hat 0 _ _ (show (intro [] i k (.obj true c::avs)).objs[0]? = some _ from rfl) rfl
    rw[Nat.add_zero] at hat0
    obtain⟨t1,t2,t3⟩:=hat0
    obtain⟨q1,q2⟩:=H OBJS gh (fun j ob e ho he=>by
     have:=hat (j+1) ob e (by exact ho) he
     rw[show k+(j+1)=k+1+j by omega] at this
     exact this)
    have hG:gh.G k c.t=(⟨some ⟨b,o,none⟩,cap⟩,locs):=by rw[t2];exact gent_same _ _
    refine⟨All2.cons_iff.2 ⟨.inl ⟨⟨c.e,c.t,c.l,false,false,none⟩,⟨c.t,List.getD c.l 0 c.t.dflt,locs 0,b,o⟩,datAt_ob.1 t1,?_,by simp,rfl,fun _=>?_⟩,q1⟩,fun j ob ho=>?_⟩
    ·show getPL (.row c.e c.t) c.l (gh.G k c.t) 0 0 [.idx 0]=_
     rw[hG]
     simp only[getPL]
     rw[if_pos hn]
     simp only[Nat.zero_mul,Nat.add_zero]
    ·show crosses c.t []=false
     simp[crosses]
    ·cases j with
     |zero=>
      have ho:some (Ob.dat ⟨c.e,c.t,c.l,false,false,none⟩)=ob:=Option.some.inj ho
      exact⟨_,ho.symm,rfl,rfl,rfl,by rw[Nat.add_zero];show memH W false (.row c.e c.t) none c.l (gh.G k c.t);rw[hG];exact hm⟩
     |succ j=>
      obtain⟨d,r1,r2,r3,r4,r5⟩:=q2 j ob ho
      exact⟨d,r1,r2,r3,r4,by rw[show k+(j+1)=k+1+j by omega];exact r5⟩
   |false=>
    obtain⟨A,cap,locs,rfl,hm⟩:=h1
    obtain⟨GL,l1,l2,H⟩:=entry_ok avs vs (i+1) (k+1) h2
    refine⟨gent c.t (⟨A,cap⟩,locs)::GL,by show _+1=_+1;exact congrArg (· + 1) l1,by show _+1=_+1;exact congrArg (· + 1) l2,fun OBJS gh hat=>?_⟩
    have hat0:=hat 0 _ _ (show (intro [] i k (.obj false c::avs)).objs[0]? = some _ from rfl) rfl
    rw[Nat.add_zero] at hat0
    obtain⟨t1,t2,t3⟩:=hat0
    obtain⟨q1,q2⟩:=H OBJS gh (fun j ob e ho he=>by
     have:=hat (j+1) ob e (by exact ho) he
     rw[show k+(j+1)=k+1+j by omega] at this
     exact this)
    have hG:gh.G k c.t=(⟨A,cap⟩,locs):=by rw[t2];exact gent_same _ _
    have hm':=hm.resolve_left (by simp[lent])
    refine⟨All2.cons_iff.2 ⟨⟨⟨c.e,c.t,c.l,false,false,none⟩,_,_,_,_,datAt_ob.1 t1,fun _=>rfl,getPL_nil _ _ _ _ _,rfl,?_⟩,q1⟩,fun j ob ho=>?_⟩
    ·show SlV false c.t.size (gh.G k c.t).1 (List.length c.l) none _
     rw[hG]
     refine⟨A,cap,rfl,by simp[Win.off,Win.lenN],hm'.1.le,fun hn=>?_,fun q=>by cases q⟩
     obtain⟨b,o,e1,_⟩:=hm'.1.at_ hn
     simp only at e1
     exact⟨b,o,e1,by simp[Win.off,e1]⟩
    ·cases j with
     |zero=>
      have ho:some (Ob.dat ⟨c.e,c.t,c.l,false,false,none⟩)=ob:=Option.some.inj ho
      exact⟨_,ho.symm,rfl,rfl,rfl,by rw[Nat.add_zero];show memH W false (.row c.e c.t) none c.l (gh.G k c.t);rw[hG];exact hm⟩
     |succ j=>
      obtain⟨d,r1,r2,r3,r4,r5⟩:=q2 j ob ho
      exact⟨d,r1,r2,r3,r4,by rw[show k+(j+1)=k+1+j by omega];exact r5⟩
  |_=>exact h1.elim
theorem entry_R{avs:List AV}{vs:List Value}(h:All2 (EntryOk W) avs vs)(hgo:GO W []):∃gh,R (intro [] 0 0 avs).slots.length W ⟨[],pinsOf (intro [] 0 0 avs).objs gh⟩ ⟨(intro [] 0 0 avs).slots,(intro [] 0 0 avs).objs⟩ gh ⟨vs.toArray,[]⟩ W:=by
 obtain⟨GL,l1,l2,H⟩:=entry_ok avs vs 0 0 h
 obtain⟨q1,q2⟩:=H _ _ at_self
 have get:∀n ob,obAt (intro [] 0 0 avs).objs n=some ob→∃d,ob = .dat d∧d.wr=false∧d.fresh=false∧d.hole=none∧memH W false (.row d.e d.t) none d.l ((ghOf GL).G n d.t):=fun n ob ho=>by
  have hlt:=obAt_lt ho
  unfold obAt at ho
  rw[List.getD_eq_getElem?_getD,List.getElem?_eq_getElem hlt] at ho
  obtain⟨d,e1,e2,e3,e4,e5⟩:=q2 n _ (List.getElem?_eq_getElem hlt)
  simp only[Option.getD_some] at ho
  rw[ho] at e1
  obtain rfl:=Option.some.inj e1
  rw[Nat.zero_add] at e5
  exact⟨d,rfl,e2,e3,e4,e5⟩
 have getD:∀n d,datAt (intro [] 0 0 avs).objs n=some d→d.wr=false∧d.fresh=false∧d.hole=none∧memH W false (.row d.e d.t) none d.l ((ghOf GL).G n d.t):=fun n d hd=>by
  obtain⟨d',e,r⟩:=get n _ (datAt_ob.2 hd)
  cases e
  exact r
 refine⟨ghOf GL,rfl,rfl,by simp[l2],fun t ht=>?_,fun n d hd=>?_,fun n e k wn hb=>?_,fun n d hd hw=>?_,fun n d hd hw=>?_,Fr.refl _ _,fun q hq=>?_,hgo⟩
 ·have ht2:t<vs.length:=by rw[←l2];exact ht
  have:=q1.2 t _ _ (List.getElem?_eq_getElem ht) (List.getElem?_eq_getElem ht2)
  rw[List.getD_eq_getElem?_getD,List.getElem?_eq_getElem ht]
  simp only[Option.getD_some]
  rw[show (vs.toArray.getD t undef)=vs[t] by simp[ht2]]
  exact this
 ·obtain⟨e2,e3,e4,e5⟩:=getD n d hd
  rw[e2,e4]
  exact e5
 ·obtain⟨d,e,_⟩:=get n _ hb
  cases e
 ·rw[(getD n d hd).1] at hw;cases hw
 ·rw[(getD n d hd).1] at hw;cases hw
 ·obtain⟨d,hd,e⟩:=pins_of hq
  rw[e]
  exact⟨d,hd,rfl,rfl,rfl,(getD _ d hd).2.1,rfl,rfl⟩
theorem Sound.law{f:FuncId}{A:Type}{dec:List AV→Option A}{fn:A→Option Bool}{enc:List AV→Bool→Res}(S:Sound P f (mkSig [] dec fn enc))(henc:∀avs r,enc avs r=⟨[.val .bool r],[]⟩){avs:List AV}{vs:List Value}(h:All2 (EntryOk W) avs vs){x:A}(hd:dec avs=some x)
  {b:Bool} (hx:fn x=some b) (hgo:GO W []):Calls P f vs.toArray W fun e W'=>e = .returned (.bool b)∧Below W.heap.size W W':=by
 obtain⟨gh,hR⟩:=entry_R h hgo
 have:=S.does avs ⟨[.val .bool b],[]⟩ (by simp only[mkSig,hd,hx];rw[←henc avs b];rfl) vs W gh [] hR
 refine this.mono (fun e w' he=>?_)
 cases e with
 |returned v=>
  obtain⟨objs',g',xs',vs',Rc,hou,_,rfl⟩:=he
  have fr:=Rc.frame
  refine⟨?_,fr.os,fr.tape.1,fr.output,fr.size,fun k hk=>fr.block k hk List.not_mem_nil⟩
  have hall:All2 (SRel objs' g') xs' vs':=by
   have t1:=Rc.tm
   simp only[List.size_toArray] at t1
   refine⟨t1.symm,fun i x y hx hy=>?_⟩
   have hi:=(List.getElem?_eq_some_iff.1 hx).1
   have:=Rc.slots i hi
   rw[List.getD_eq_getElem?_getD,hx] at this
   rw[show vs'.toArray.getD i undef=y by
    have hi2:=(List.getElem?_eq_some_iff.1 hy).1
    have e:=(List.getElem?_eq_some_iff.1 hy).2
    simp[hi2,e]] at this
   exact this
  have hrel:=plain_rel xs' vs' [] _ [.val .bool b] hall hou rfl [] g'
  ·match vs',hrel with
   |[v'],hrel=>
    have:=(hrel.2 0 _ _ rfl rfl).2.2
    show Ending.returned v'=_
    rw[this]
    rfl
   |[],hrel=>have:=hrel.1;simp at this
   |_::_::_,hrel=>have:=hrel.1;simp at this
 |panicked _=>exact he.elim
 |outgrown=>exact he.elim
end
end Go.Proofs.Ytlipfbihlmlplaa.G
namespace Go.Proofs.Ytlipfbihlmlplaa.G
open Go Go.RowKit
set_option linter.unusedVariables false
noncomputable def cl{A B:Type}(P:A→Prop)(v:A→B):A→Option B:=fun x=>open Classical in if P x then some (v x) else none
theorem cl_eq{A B:Type}{P:A→Prop}{v:A→B}{x:A}(h:P x):cl P v x=some (v x):=by unfold cl;exact if_pos h
theorem cl_some{A B:Type}{P:A→Prop}{v:A→B}{x:A}{r:B}(h:cl P v x=some r):P x∧v x=r:=by
 unfold cl at h
 by_cases c:P x
 ·rw[if_pos c] at h;exact⟨c,Option.some.inj h⟩
 ·rw[if_neg c] at h;cases h
def tot{A B:Type}(v:A→B):A→Option B:=fun x=>some (v x)
theorem tot_eq{A B:Type}(v:A→B)(x:A):tot v x=some (v x):=rfl
theorem Sound.never{P : Program}{n : FuncId}{A B : Type}{muts : List Nat}{dec : List AV → Option A}{enc : List AV → B → Res}{f : A → Option B}(h : ∃ fn, P.funcs[n]? = some fn ∧ fn.name ≠ "runtime.NumGoroutine" ∧ fn.body.isNone = false)(hf : ∀ x, f x = none) : Sound P n (mkSig muts dec f enc) where
 fn:=h
 does:=fun avs r hr vs w gh MBb hR=>by
  obtain⟨x,y,h1,h2,rfl⟩:=mkSig_run hr
  rw[hf x] at h2
  cases h2
theorem R.ret{m:Nat}{w0:World}{MB:Out}{s:St}{g:Gh}{a:Act}{w w':World}(h:R m w0 MB s g a w)(hb:Below w.heap.size w w')(hdr:DR→w.drawn≤w'.drawn)(xs:List SV)(vs:List Value)(hv:All2 (SRel s.objs g) xs vs):
  R xs.length w0 MB ⟨xs,s.objs⟩ g ⟨vs.toArray,[]⟩ w' where
 defers:=rfl
 sl:=rfl
 tm:=by rw[hv.1];simp
 slots:=fun t ht=>by
  have h2:t<vs.length:=hv.1▸ht
  have:=hv.2 t xs[t] vs[t] (List.getElem?_eq_getElem ht) (List.getElem?_eq_getElem h2)
  rw[List.getD_eq_getElem?_getD,List.getElem?_eq_getElem ht]
  simp only[Option.getD_some]
  have e:vs.toArray.getD t undef=vs[t]:=by simp[Array.getD,h2]
  rw[e]
  exact this
 dat:=fun n d hd=>memH_frame hb.size _ _ _ _ (h.dat n d hd) (fun k hk=>hb.block k (blks_lt _ _ _ _ (h.dat n d hd) k hk))
 bx:=fun n e k wn hx=>by
  obtain⟨d,v,q1,q2,q3,q4⟩:=h.bx n e k wn hx
  refine⟨d,v,q1,q2,?_,q4⟩
  have hlt:(g.B n).1<w.heap.size:=by
   unfold World.cell? at q3
   split at q3
   ·rename_i hc
    exact (Array.getElem?_eq_some_iff.1 hc).1
   ·cases q3
  rw[Below.cell hb (p:=⟨(g.B n).1,(g.B n).2,none⟩) hlt]
  exact q3
 sep:=h.sep
 fresh:=h.fresh
 frame:=h.frame.trans ⟨hb.os,⟨hb.tape,hdr⟩,hb.output,hb.size,fun k hk _=>hb.block k hk⟩
 pins:=h.pins
 go:=h.go
theorem w64{n:Int}(h0:-9223372036854775808≤n)(h1:n≤9223372036854775807):IntKind.i64.wrap n=n:=IntWalk.i64_in n ⟨h0,h1⟩
theorem w64n{k:Nat}(h:k<9223372036854775807):IntKind.i64.wrap ((k:Int)+1)=((k+1:Nat):Int):=by rw[w64 (by omega) (by omega)];rfl
theorem getD_lt{β:Type}{l:List β}{k:Nat}{d:β}(h:k<l.length):l.getD k d=l[k]:=by
 rw[List.getD_eq_getElem?_getD,List.getElem?_eq_getElem h];rfl
theorem drop_cons{β:Type}{l:List β}{k:Nat}(h:k<l.length):l.drop k=l[k]::l.drop (k+1):=List.drop_eq_getElem_cons h
theorem big_lt{n:Nat}(h:n≤4611686018427387903):n<BIG:=by unfold BIG;omega
theorem iter_fold{X α β γ:Type}{B:(X→Option α)→X→Option α}(l:List β)(emb:Nat→γ→X)(F:List β→γ→Option α)(I:Nat→γ→Prop)
  (hs:∀(k:Nat) (h:k<l.length) (c:γ) (rec:X→Option α),I k c→(∀c',I (k+1) c'→rec (emb (k+1) c')=F (l.drop (k+1)) c')→B rec (emb k c)=F (l[k]::l.drop (k+1)) c)
  (he:∀(c:γ) (rec:X→Option α),I l.length c→B rec (emb l.length c)=F [] c):
  ∀(j k:Nat) (c:γ) (fuel:Nat),k+j=l.length→j<fuel→I k c→iter B fuel (emb k c)=F (l.drop k) c
 |_,k,c,0,_,hf,_=>absurd hf (Nat.not_lt_zero _)
 |0,k,c,f+1,hk,hf,hi=>by
  obtain rfl:k=l.length:=by omega
  rw[List.drop_length]
  exact he c _ hi
 |j+1,k,c,f+1,hk,hf,hi=>by
  have hlt:k<l.length:=by omega
  rw[drop_cons hlt]
  exact hs k hlt c _ hi (fun c' hi'=>iter_fold l emb F I hs he j (k+1) c' f (by omega) (by omega) hi')
theorem iter_list{X α β γ:Type}{B:(X→Option α)→X→Option α}(l:List β)(emb:Nat→γ→X)(F:List β→γ→Option α)(I:Nat→γ→Prop){x:X}{c:γ}(hx:emb 0 c=x){fuel:Nat}(hf:l.length<fuel)(hi:I 0 c)
  (hs:∀(k:Nat) (h:k<l.length) (c:γ) (rec:X→Option α),I k c→(∀c',I (k+1) c'→rec (emb (k+1) c')=F (l.drop (k+1)) c')→B rec (emb k c)=F (l[k]::l.drop (k+1)) c)
  (he:∀(c:γ) (rec:X→Option α),I l.length c→B rec (emb l.length c)=F [] c):iter B fuel x=F l c:=by
 subst hx
 have:=iter_fold l emb F I hs he l.length 0 c fuel (by omega) hf hi
 rwa[List.drop_zero] at this
def firstOr{α β:Type}(p:β→Bool)(yes:Nat→β→Option α)(no:Option α):Nat→List β→Option α
 |_,[]=>no
 |k,x::l=>cond (p x) (yes k x) (firstOr p yes no (k+1) l)
theorem firstOr_const{α β:Type}(p:β→Bool)(y no:Option α):∀(l:List β) (k:Nat),firstOr p (fun _ _=>y) no k l=cond (l.any p) y no
 |[],_=>rfl
 |x::l,k=>by
  rw[firstOr,firstOr_const p y no l,List.any_cons]
  cases p x<;>rfl
theorem iter_first{X α β:Type}{B:(X→Option α)→X→Option α}(l:List β)(emb:Nat→X)(p:β→Bool)(yes:Nat→β→Option α)(no:Option α){x:X}(hx:emb 0=x){fuel:Nat}(hf:l.length<fuel)
  (hs:∀(k:Nat) (h:k<l.length) (rec:X→Option α),B rec (emb k)=cond (p l[k]) (yes k l[k]) (rec (emb (k+1))))
  (he:∀rec,B rec (emb l.length)=no):iter B fuel x=firstOr p yes no 0 l:=by
 subst hx
 have key:∀(j k fuel:Nat),k+j=l.length→j<fuel→iter B fuel (emb k)=firstOr p yes no k (l.drop k):=by
  intro j
  induction j with
  |zero=>
   intro k fuel hk hf
   match fuel,hf with
   |f+1,_=>
    obtain rfl:k=l.length:=by omega
    rw[List.drop_length]
    exact he _
  |succ j ih=>
   intro k fuel hk hf
   match fuel,hf with
   |f+1,_=>
    have hlt:k<l.length:=by omega
    rw[drop_cons hlt,firstOr]
    show B (iter B f) (emb k)=_
    rw[hs k hlt,ih (k+1) f (by omega) (by omega)]
 have:=key l.length 0 fuel (by omega) hf
 rwa[List.drop_zero] at this
theorem sum_le{β:Type}(l:List (List β)){x:List β}(h:x∈l):x.length≤(l.map List.length).sum:=by
 induction l with
 |nil=>cases h
 |cons y l ih=>
  rw[List.map_cons,List.sum_cons]
  rcases List.mem_cons.1 h with rfl|h
  ·omega
  ·have:=ih h;omega
def Bd{β:Type}(a:List (List β)):Prop:=a.length+(a.map List.length).sum≤1073741824
theorem Bd.len{β:Type}{a:List (List β)}(h:Bd a):a.length≤1073741824:=by unfold Bd at h;omega
theorem Bd.row{β:Type}{a:List (List β)}(h:Bd a){x:List β}(hx:x∈a):x.length≤1073741824:=by have:=sum_le a hx;unfold Bd at h;omega
theorem Bd.at{β:Type}{a:List (List β)}(h:Bd a){k:Nat}(hk:k<a.length):a[k].length≤1073741824:=h.row (List.getElem_mem hk)
def PL{β:Type}(l:List β):Prop:=l.length≤1073741824
def PL1{β γ:Type}(x:List β×γ):Prop:=x.1.length≤1073741824
def Bd1{β γ:Type}(x:List (List β)×γ):Prop:=Bd x.1
theorem Bd.pl{β:Type}{a:List (List β)}(h:Bd a){k:Nat}(hk:k<a.length):PL a[k]:=h.at hk
theorem bneT{a b:Int}(h:a≠b):(a != b)=true:=by simpa using h
theorem bneF{a b:Int}(h:a=b):(a != b)=false:=by simpa using h
theorem beqT{a b:Int}(h:a=b):(a==b)=true:=by simpa using h
theorem beqF{a b:Int}(h:a≠b):(a==b)=false:=by simpa using h
theorem decT{p:Prop}[Decidable p](h:p):decide p=true:=decide_eq_true h
theorem decF{p:Prop}[Decidable p](h:¬p):decide p=false:=decide_eq_false h
end Go.Proofs.Ytlipfbihlmlplaa.G
namespace Go.Proofs.Ytlipfbihlmlplaa.G
open Go
set_option linter.unusedVariables false
inductive AK where
 |v (t:Ty)|r (t:Ty)|p (t:Ty)|b (t:Ty)
@[reducible] def AK.den:AK→Type
 |.v t=>t.den
 |.r t=>List t.den
 |.p t=>t.den
 |.b t=>List t.den
def AK.get:(k:AK)→AV→Option k.den
 |.v t,a=>a.toVal t
 |.r t,a=>a.toList t
 |.p t,a=>a.toBox t
 |.b t,a=>a.toBx t
def AK.av:(k:AK)→(Nat→TypeId)→k.den→AV
 |.v t,_,x=>.val t x
 |.r t,e,x=>.obj false ⟨e 0,t,x⟩
 |.p t,e,x=>.obj true ⟨e 0,t,[x]⟩
 |.b t,e,x=>.bx (e 0) ⟨e 1,t,x⟩
theorem AK.ok:∀(k:AK) {a:AV} {x:k.den},k.get a=some x→∃e,a=k.av e x
 |.v t,a,x,h=>⟨fun _=>0,toVal_eq h⟩
 |.r t,a,x,h=>by obtain⟨e,rfl⟩:=toList_eq h;exact⟨fun _=>e,rfl⟩
 |.p t,a,x,h=>by obtain⟨e,rfl⟩:=toBox_eq h;exact⟨fun _=>e,rfl⟩
 |.b t,a,x,h=>by obtain⟨e0,e,rfl⟩:=toBx_eq h;exact⟨fun n=>if n=0 then e0 else e,rfl⟩
theorem AK.av_of(k:AK){e e2:Nat→TypeId}{x:k.den}(h0:e2 0=e 0)(h1:e2 1=e 1):k.av e2 x=k.av e x:=by cases k<;>simp only[AK.av,h0,h1]
structure Cod(A:Type) where
 dec:List AV→Option A
 av:(Nat→TypeId)→A→List AV
 ok:∀avs x,dec avs=some x→∃e,avs=av e x
def cE:Cod Unit where
 dec:=fun l=>match l with
  |[]=>some ()
  |_=>none
 av:=fun _ _=>[]
 ok:=fun avs x h=>by cases avs with
  |nil=>exact⟨fun _=>0,rfl⟩
  |cons a l=>cases h
def eCons(e f:Nat→TypeId)(n:Nat):TypeId:=if n<2 then e n else f (n-2)
def c1(k:AK):Cod k.den where
 dec:=fun l=>match l with
  |[a]=>k.get a
  |_=>none
 av:=fun e x=>[k.av e x]
 ok:=fun avs x h=>by
  match avs,h with
  |[a],h=>obtain⟨e,rfl⟩:=k.ok h;exact⟨e,rfl⟩
def cC(k:AK){B:Type}(c:Cod B):Cod (k.den×B) where
 dec:=fun l=>match l with
  |a::as=>(k.get a).bind fun x=>(c.dec as).bind fun y=>some (x,y)
  |[]=>none
 av:=fun e x=>k.av e x.1::c.av (fun n=>e (n+2)) x.2
 ok:=fun avs x h=>by
  match avs,h with
  |a::as,h=>
   obtain⟨y,h1,h2⟩:=Option.bind_eq_some_iff.1 h
   obtain⟨z,h3,h4⟩:=Option.bind_eq_some_iff.1 h2
   obtain rfl:=Option.some.inj h4
   obtain⟨e,rfl⟩:=k.ok h1
   obtain⟨f,rfl⟩:=c.ok _ _ h3
   exact⟨eCons e f,by rw[k.av_of (e:=e) (e2:=eCons e f) rfl rfl];rfl⟩
def cL(k:AK)(c:Cod Unit):Cod k.den where
 dec:=fun l=>match l with
  |a::as=>(k.get a).bind fun x=>(c.dec as).bind fun _=>some x
  |[]=>none
 av:=fun e x=>k.av e x::c.av (fun n=>e (n+2)) ()
 ok:=fun avs x h=>by
  match avs,h with
  |a::as,h=>
   obtain⟨y,h1,h2⟩:=Option.bind_eq_some_iff.1 h
   obtain⟨z,h3,h4⟩:=Option.bind_eq_some_iff.1 h2
   obtain rfl:=Option.some.inj h4
   obtain⟨e,rfl⟩:=k.ok h1
   obtain⟨f,rfl⟩:=c.ok _ _ h3
   exact⟨eCons e f,by rw[k.av_of (e:=e) (e2:=eCons e f) rfl rfl];rfl⟩
def cZ{B:Type}(c:Cod B):Cod B where
 dec:=fun l=>match l with
  |.nil::as=>c.dec as
  |_=>none
 av:=fun e x=>.nil::c.av (fun n=>e (n+2)) x
 ok:=fun avs x h=>by
  match avs,h with
  |.nil::as,h=>obtain⟨f,rfl⟩:=c.ok _ _ h;exact⟨eCons f f,rfl⟩
def cF(g:FuncId){B:Type}(c:Cod B):Cod B where
 dec:=fun l=>match l with
  |a::as=>(a.toFn g).bind fun q=>match q with
   |[]=>c.dec as
   |_=>none
  |[]=>none
 av:=fun e x=>.fn g []::c.av (fun n=>e (n+2)) x
 ok:=fun avs x h=>by
  match avs,h with
  |a::as,h=>
   obtain⟨q,h1,h2⟩:=Option.bind_eq_some_iff.1 h
   obtain⟨cs,rfl,rfl⟩:=toFn_eq h1
   match cs,h2 with
   |[],h2=>obtain⟨f,rfl⟩:=c.ok _ _ h2;exact⟨eCons f f,rfl⟩
abbrev mkS(m:Nat)(l:List (Nat×SV))(n:Nat)(o:List (Nat×Ob)):St:=⟨mkSlots m l,mkObjs n o⟩
abbrev qP(i n:Nat):Nat×SV:=(i,.ptr n [.idx 0] false)
abbrev qL(i n:Nat):Nat×SV:=(i,.sl n [] none)
abbrev qI(i:Nat)(k:IntKind)(x:Int):Nat×SV:=(i,.val (.int k) x)
abbrev qB(i:Nat)(x:Bool):Nat×SV:=(i,.val .bool x)
abbrev qV(i:Nat)(t:Ty)(x:t.den):Nat×SV:=(i,.val t x)
abbrev oA(i:Nat)(e:TypeId)(t:Ty)(x:List t.den):Nat×Ob:=(i,.dat ⟨e,t,x,false,false,none⟩)
abbrev oN(i:Nat)(e:TypeId)(t:Ty)(x:List t.den):Nat×Ob:=(i,.dat ⟨e,t,x,true,true,none⟩)
theorem aN{P:Program}:∀p:Nat×Sig,p∈([]:List (Nat×Sig))→Sound P p.1 p.2:=fun p hp=>nomatch hp
theorem aC{P:Program}{n:Nat}{s:Sig}{l:List (Nat×Sig)}(h:Sound P n s)(hl:∀p,p∈l→Sound P p.1 p.2):∀p,p∈(n,s)::l→Sound P p.1 p.2:=List.forall_mem_cons.2 ⟨h,hl⟩
theorem cl_snd{P:Program}{TT:TyTab}{small:TypeId→Bool}{l:List (Nat×Sig)}(hmix:P.follows .mixedOrders=true)(T:TTok P ⟨TT,small,tabOf l,0,0⟩)(hl:∀p,p∈l→Sound P p.1 p.2){f:FuncId}{fn:Func}(ann:Ann)(muts nils:List Nat)
  {A B : Type} {c : Cod A} {enc : List AV → B → Res} {Pd : A → Prop} {v : A → B} (hf : P.funcs[f]? = some fn) (hname : fn.name ≠ "runtime.NumGoroutine") (hm : 0 < fn.ntmps) (hb : fn.body.isNone = false)
  (hF:∀x,Pd x→∀e,run TT small (tabOf l) fn ann muts BIG (c.av e x) some=some (enc (c.av e x) (v x))):Sound P f (mkSig muts c.dec (cl Pd v) enc nils):=
 fn_sound hmix T (tab_sound l hl) hf hname hm ann muts _ rfl (fun avs r hr=>by
  obtain⟨x,y,h1,h2,rfl⟩:=mkSig_run hr
  obtain⟨e,rfl⟩:=c.ok _ _ h1
  obtain⟨h3,rfl⟩:=cl_some h2
  exact⟨BIG,hF x h3 e⟩) hb
theorem tot_snd{P:Program}{TT:TyTab}{small:TypeId→Bool}{l:List (Nat×Sig)}(hmix:P.follows .mixedOrders=true)(T:TTok P ⟨TT,small,tabOf l,0,0⟩)(hl:∀p,p∈l→Sound P p.1 p.2){f:FuncId}{fn:Func}(ann:Ann)(muts nils:List Nat)
  {A B : Type} {c : Cod A} {enc : List AV → B → Res} {v : A → B} (hf : P.funcs[f]? = some fn) (hname : fn.name ≠ "runtime.NumGoroutine") (hm : 0 < fn.ntmps) (hb : fn.body.isNone = false)
  (hF:∀x,∀e,run TT small (tabOf l) fn ann muts BIG (c.av e x) some=some (enc (c.av e x) (v x))):Sound P f (mkSig muts c.dec (tot v) enc nils):=
 fn_sound hmix T (tab_sound l hl) hf hname hm ann muts _ rfl (fun avs r hr=>by
  obtain⟨x,y,h1,h2,rfl⟩:=mkSig_run hr
  obtain⟨e,rfl⟩:=c.ok _ _ h1
  obtain rfl:=Option.some.inj h2
  exact⟨BIG,hF x e⟩) hb
end Go.Proofs.Ytlipfbihlmlplaa.G
