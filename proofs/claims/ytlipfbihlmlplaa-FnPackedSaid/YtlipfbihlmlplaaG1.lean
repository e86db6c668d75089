/- A reading of Go's operations over plain values, and its proof against the model: part 1. -/
import GoSem.Step
import Derived.KernelRfl
import Derived.Below
import Derived.Deep.MidRow
import Derived.ArgAppend
import Derived.WalkKit
import Derived.Laws.StructEq
import Derived.ChangeKeysEq
import Derived.Laws.Small
namespace Go.Proofs.Ytlipfbihlmlplaa.G
open Go
inductive Ty where
 |int (k:IntKind)|bool|str
 |pair (a b:Ty)|st (t:Ty)|arr (n:Nat) (t:Ty)
 |row (e:TypeId) (t:Ty)
 deriving DecidableEq
@[reducible] def Ty.den:Ty→Type
 |.int _=>Int|.bool=>Bool|.str=>ByteArray
 |.pair a b=>a.den×b.den|.st t=>t.den
 |.arr _ t=>List t.den|.row _ t=>List t.den
def Ty.dflt:(t:Ty)→t.den
 |.int _=>(0:Int)|.bool=>false|.str=>ByteArray.empty
 |.pair a b=>(a.dflt,b.dflt)|.st t=>t.dflt
 |.arr n t=>List.replicate n t.dflt|.row _ _=>[]
def Ty.size:Ty→Nat
 |.pair a b=>a.size+b.size|.st t=>t.size|.arr n t=>n*t.size|_=>1
def Ty.isAgg:Ty→Bool
 |.st _=>true|.arr _ _=>true|_=>false
def Ty.flat:Ty→Bool
 |.row _ _=>false|.pair a b=>a.flat&&b.flat|.st t=>t.flat|.arr _ t=>t.flat|_=>true
def Ty.isRow:Ty→Bool
 |.row _ _=>true|_=>false
inductive Stp where
 |idx (i:Nat)|fst|snd
def getP:(t:Ty)→t.den→List Stp→Option ((u:Ty)×u.den)
 |t,x,[]=>some ⟨t,x⟩
 |.st t,x,s::p=>getP t x (s::p)
 |.pair a _,x,.fst::p=>getP a x.1 p
 |.pair _ b,x,.snd::p=>getP b x.2 p
 |.arr _ t,x,.idx i::p=>getP t (List.getD x i t.dflt) p
 |.row _ t,x,.idx i::p=>getP t (List.getD x i t.dflt) p
 |_,_,_=>none
def castD{u t:Ty}(h:u=t)(y:u.den):t.den:=h▸y
def setP:(t:Ty)→t.den→List Stp→(u:Ty)→u.den→Option t.den
 |t,_,[],u,y=>if h:u=t then some (castD h y) else none
 |.st t,x,s::p,u,y=>setP t x (s::p) u y
 |.pair a _,x,.fst::p,u,y=>match setP a x.1 p u y with
  |some z=>some (z,x.2)
  |none=>none
 |.pair _ b,x,.snd::p,u,y=>match setP b x.2 p u y with
  |some z=>some (x.1,z)
  |none=>none
 |.arr _ t,x,.idx i::p,u,y=>match setP t (List.getD x i t.dflt) p u y with
  |some z=>some (List.set x i z)
  |none=>none
 |.row _ t,x,.idx i::p,u,y=>match setP t (List.getD x i t.dflt) p u y with
  |some z=>some (List.set x i z)
  |none=>none
 |_,_,_,_,_=>none
def crosses:Ty→List Stp→Bool
 |_,[]=>false
 |.st t,s::p=>crosses t (s::p)
 |.pair a _,.fst::p=>crosses a p
 |.pair _ b,.snd::p=>crosses b p
 |.arr _ t,.idx _::p=>crosses t p
 |.row _ _,_::_=>true
 |_,_::_=>true
def fpathIn:Ty→Nat→Option (List Stp)
 |.pair _ _,0=>some [.fst]
 |.pair _ b,f+1=>match fpathIn b f with
  |some p=>some (.snd::p)
  |none=>none
 |_,0=>some []
 |_,_+1=>none
def fpath:Ty→Nat→Option (List Stp)
 |.st (.pair a b),f=>fpathIn (.pair a b) f
 |_,_=>none
def pathEq:List Stp→List Stp→Bool
 |[],[]=>true
 |.fst::p,.fst::q=>pathEq p q
 |.snd::p,.snd::q=>pathEq p q
 |.idx i::p,.idx j::q=>(i==j)&&pathEq p q
 |_,_=>false
abbrev Win:=Option (Nat×Nat)
def Win.cut{α:Type}(w:Win)(l:List α):List α:=match w with
 |none=>l
 |some (o,n)=>(l.drop o).take n
def Win.off(w:Win):Nat:=match w with
 |none=>0
 |some (o,_)=>o
def Win.ix(w:Win)(i:Nat):Nat:=match w with
 |none=>i
 |some (o,_)=>o+i
def Win.len{α:Type}(w:Win)(l:List α):Nat:=match w with
 |none=>l.length
 |some (_,n)=>n
def Win.lenN(w:Win)(tot:Nat):Nat:=match w with
 |none=>tot
 |some (_,n)=>n
inductive TV where
 |val (t:Ty) (x:t.den)
 |sl (n:Nat) (p:List Stp) (w:Win)
 |nil
inductive SV where
 |val (t:Ty) (x:t.den)
 |sl (n:Nat) (p:List Stp) (w:Win)
 |ptr (n:Nat) (p:List Stp) (c:Bool)
 |fn (g:FuncId) (caps:List (Nat×List Stp))
 |tup (l:List TV)
 |nil
 |unk
 |dead
structure Dat where
 e:TypeId
 t:Ty
 l:List t.den
 wr:Bool
 fresh:Bool
 hole:Option (List Stp)
inductive Ob where
 |dat (d:Dat)
 |bx (e:TypeId) (n:Nat) (w:Win)
structure St where
 slots:List SV
 objs:List (Option Ob)
def obAt(objs:List (Option Ob))(n:Nat):Option Ob:=List.getD objs n none
def datAt(objs:List (Option Ob))(n:Nat):Option Dat:=match obAt objs n with
 |some (.dat d)=>some d
 |_=>none
structure Cont where
 e:TypeId
 t:Ty
 l:List t.den
inductive AV where
 |nil
 |val (t:Ty) (x:t.den)
 |obj (ptr:Bool) (c:Cont)
 |bx (e0:TypeId) (c:Cont)
 |fn (g:FuncId) (caps:List (Option TypeId×Cont))
inductive RV where
 |val (t:Ty) (x:t.den)
 |own (c:Cont)
 |al (i:Nat) (w:Win)
 |nil
structure Res where
 rets:List RV
 muts:List Cont
structure Sig where
 muts:List Nat
 nils:List Nat:=[]
 F:(α:Type)→List AV→(Res→Option α)→Option α
 law:∀(α:Type) (avs:List AV) (K:Res→Option α),F α avs K=(F Res avs some).bind K
def AV.toVal(t:Ty):AV→Option t.den
 |.val u x=>if h:u=t then some (castD h x) else none
 |_=>none
def AV.toList(t:Ty):AV→Option (List t.den)
 |.obj false c=>if h:c.t=t then some (h▸c.l) else none
 |_=>none
def AV.toBox(t:Ty):AV→Option t.den
 |.obj true c=>if h:c.t=t then (match c.l with
  |[x]=>some (castD h x)
  |_=>none) else none
 |_=>none
abbrev TyTab:=TypeId→Option Ty
structure Eff where
 v:SV
 upd:List (Nat×Option Ob):=[]
 kill:List Nat:=[]
 loose:List Nat:=[]
def hits(ns loose:List Nat):SV→Bool
 |.sl n p _=>ns.contains n||(loose.contains n&&(match p with|[]=>false|_=>true))
 |.ptr n _ c=>ns.contains n||(c&&loose.contains n)
 |.fn _ cs=>cs.any fun c=>ns.contains c.1
 |.tup l=>l.any fun
  |.sl n _ _=>ns.contains n||loose.contains n
  |_=>false
 |_=>false
def sweep(ns loose:List Nat)(s:SV):SV:=if hits ns loose s then .dead else s
def updAll:List (Nat×Option Ob)→List (Option Ob)→List (Option Ob)
 |[],o=>o
 |(n,x)::r,o=>updAll r (o.set n x)
def swept(k l:List Nat)(slots:List SV):List SV:=match k,l with
 |[],[]=>slots
 |k,l=>slots.map (sweep k l)
def Eff.on(e:Eff)(dst:Option Tmp)(s:St):St:=
 {slots:=match dst with
   |some d=>(swept e.kill e.loose s.slots).set d e.v
   |none=>swept e.kill e.loose s.slots
  objs:=updAll e.upd s.objs }
end Go.Proofs.Ytlipfbihlmlplaa.G
namespace Go.Proofs.Ytlipfbihlmlplaa.G
open Go
variable {α:Type}
structure Env where
 TT:TyTab
 small:TypeId→Bool
 T:FuncId→Option Sig
 base:Nat
 m:Nat
def LIM:Nat:=4294967296
def evalC:Value→SV
 |.int k n=>.val (.int k) n
 |.bool b=>.val .bool b
 |.string s=>.val .str s
 |.slice none 0 0=>.nil
 |_=>.dead
def evalO(slots:List SV):Operand→SV
 |.tmp t=>slots.getD t .dead
 |.const v=>evalC v
 |.func f=>.fn f []
 |.global _=>.dead
def eqV:(t:Ty)→t.den→t.den→Bool
 |.int _,a,b=>(a:Int)==b
 |.bool,a,b=>(a:Bool)==b
 |.str,a,b=>ByteArray.toList a==ByteArray.toList b
 |.pair s t,a,b=>eqV s a.1 b.1&&eqV t a.2 b.2
 |.st t,a,b=>eqV t a b
 |.arr n t,a,b=>(List.range n).all fun i=>eqV t (List.getD a i t.dflt) (List.getD b i t.dflt)
 |.row _ _,_,_=>false
def binI(op:BinOp)(k:IntKind)(a b:Int)(K:SV→Option α):Option α:=
 match op with
 |.add=>K (.val (.int k) (k.wrap (a+b)))
 |.sub=>K (.val (.int k) (k.wrap (a-b)))
 |.mul=>K (.val (.int k) (k.wrap (a*b)))
 |.quo=>cond (b==0) none (K (.val (.int k) (k.wrap (a.tdiv b))))
 |.rem=>cond (b==0) none (K (.val (.int k) (a.tmod b)))
 |.and=>K (.val (.int k) (k.wrap (BitVec.ofInt k.bits a &&& BitVec.ofInt k.bits b).toNat))
 |.or=>K (.val (.int k) (k.wrap (BitVec.ofInt k.bits a ||| BitVec.ofInt k.bits b).toNat))
 |.xor=>K (.val (.int k) (k.wrap (BitVec.ofInt k.bits a ^^^ BitVec.ofInt k.bits b).toNat))
 |.andNot=>K (.val (.int k) (k.wrap (BitVec.ofInt k.bits a &&& ~~~ BitVec.ofInt k.bits b).toNat))
 |.eql=>K (.val .bool (a==b))
 |.neq=>K (.val .bool (a != b))
 |.lss=>K (.val .bool (decide (a<b)))
 |.leq=>K (.val .bool (decide (a≤b)))
 |.gtr=>K (.val .bool (decide (a>b)))
 |.geq=>K (.val .bool (decide (a≥b)))
 |_=>none
def shiftI(op:BinOp)(k:IntKind)(a b:Int)(K:SV→Option α):Option α:=
 match op with
 |.shl=>cond (decide (b<0)) none (K (.val (.int k) (k.wrap (a*2 ^ (min b.toNat k.bits)))))
 |.shr=>cond (decide (b<0)) none (K (.val (.int k) (a.fdiv (2 ^ (min b.toNat k.bits)))))
 |_=>none
def isShift:BinOp→Bool
 |.shl=>true|.shr=>true|_=>false
def binV(tt:Option Ty)(op:BinOp)(x y:SV)(K:SV→Option α):Option α:=
 match x,y with
 |.val (.int k) a,.val (.int k') b=>match isShift op with
  |true=>shiftI op k a b K
  |false=>if k=k' then binI op k a b K else none
 |.val .bool a,.val .bool b=>match tt with
  |some .bool=>(match op with
   |.eql=>K (.val .bool (a==b))
   |.neq=>K (.val .bool (!(a==b)))
   |_=>none)
  |_=>none
 |.val .str a,.val .str b=>match op with
  |.add=>cond (decide (ByteArray.size a+ByteArray.size b≤LIM)) (K (.val .str (a++b))) none
  |.eql=>K (.val .bool (ByteArray.toList a==ByteArray.toList b))
  |.neq=>K (.val .bool (!(ByteArray.toList a==ByteArray.toList b)))
  |_=>none
 |.val t a,.val u b=>if h:u=t then (match t.isAgg&&(t.flat&&(tt==some t)) with
  |true=>(match op with
   |.eql=>K (.val .bool (eqV t a (castD h b)))
   |.neq=>K (.val .bool (!eqV t a (castD h b)))
   |_=>none)
  |false=>none) else none
 |_,_=>none
def unV(op:UnOp)(x:SV)(K:SV→Option α):Option α:=
 match op,x with
 |.neg,.val (.int k) a=>K (.val (.int k) (k.wrap (0-a)))
 |.not,.val .bool a=>K (.val .bool (!a))
 |_,_=>none
def place(objs:List (Option Ob))(n:Nat)(p:List Stp):Option ((u:Ty)×u.den):=
 match datAt objs n with
 |some d=>(match d.hole with
  |none=>getP (.row d.e d.t) d.l p
  |some _=>none)
 |none=>none
def place0(objs:List (Option Ob))(n:Nat)(p:List Stp):Option ((u:Ty)×u.den):=
 match datAt objs n with
 |some d=>(match d.hole,p with
  |none,p=>getP (.row d.e d.t) d.l p
  |some _,[]=>getP (.row d.e d.t) d.l []
  |some _,_=>none)
 |none=>none
def placeTy(objs:List (Option Ob))(n:Nat)(p:List Stp):Option Ty:=
 match datAt objs n with
 |some d=>(match getP (.row d.e d.t) d.l p with
  |some ⟨u,_⟩=>some u
  |none=>none)
 |none=>none
def shows(objs:List (Option Ob))(n:Nat)(p:List Stp)(w:Win):Option ((u:Ty)×List u.den):=
 match place objs n p with
 |some ⟨.row _ u,l⟩=>some ⟨u,w.cut l⟩
 |some ⟨.arr _ u,l⟩=>some ⟨u,w.cut l⟩
 |_=>none
def rowE(objs:List (Option Ob))(n:Nat)(p:List Stp):TypeId:=
 match place objs n p with
 |some ⟨.row e _,_⟩=>e
 |_=>0
def wholeLen(objs:List (Option Ob))(n:Nat)(p:List Stp):Nat:=
 match place0 objs n p with
 |some ⟨.row _ _,l⟩=>List.length l
 |some ⟨.arr m _,_⟩=>m
 |_=>0
def winLen(objs:List (Option Ob))(n:Nat)(p:List Stp)(w:Win):Nat:=
 match w with
 |none=>wholeLen objs n p
 |some (_,k)=>k
def effPick(c a b:SV)(K:Eff→Option α):Option α:=
 match c with
 |.val .bool c'=>(match a,b with
  |.val t x,.val u y=>if h:u=t then K { v:=.val t (cond c' x (castD h y)) } else none
  |a,b=>cond c' (K { v:=a }) (K { v:=b }))
 |_=>none
def takeOver(objs:List (Option Ob))(x:SV)(e:TypeId)(t:Ty):Option (List t.den×List Nat):=
 match x with
 |.nil=>some ([],[])
 |.sl n [] none=>(match datAt objs n with
  |some d=>match d.hole,d.wr&&d.fresh with
   |none,true=>if h:d.t=t then (if d.e=e then some (h▸d.l,[n]) else none) else none
   |_,_=>none
  |none=>none)
 |_=>none
def effBox(E:Env)(objs:List (Option Ob))(dn:Nat)(elem:TypeId)(x:SV)(K:Eff→Option α):Option α:=
 match x with
 |.val t y=>if E.TT elem=some t then K { v:=.ptr dn [.idx 0] false,upd:=[(dn,some (.dat ⟨elem,t,[y],true,true,none⟩))] } else none
 |.sl n [] w=>(match datAt objs n with
  |some d=>match d.wr with
   |false=>K { v:=.ptr dn [.idx 0] false,upd:=[(dn,some (.bx elem n w))] }
   |true=>none
  |none=>none)
 |_=>none
def effAlloc(E:Env)(dn:Nat)(elem:TypeId)(K:Eff→Option α):Option α:=
 match E.TT elem with
 |some t=>K { v:=.ptr dn [.idx 0] false,upd:=[(dn,some (.dat ⟨elem,t,[t.dflt],true,true,none⟩))] }
 |none=>none
def buildParts(path:Nat→Option (List Stp))(t:Ty):t.den→List (Nat×SV)→Option t.den
 |x,[]=>some x
 |x,(f,.val u y)::r=>match path f with
  |some p=>(match setP t x p u y with
   |some x'=>buildParts path t x' r
   |none=>none)
  |none=>none
 |_,_=>none
def effBuild(E:Env)(t:TypeId)(parts:List (Nat×SV))(K:Eff→Option α):Option α:=
 match E.TT t with
 |some (.st b)=>(match (Ty.st b).flat,buildParts (fpath (.st b)) (.st b) (Ty.st b).dflt parts with
  |true,some x=>K { v:=.val (.st b) x }
  |_,_=>none)
 |some (.arr n u)=>(match (Ty.arr n u).flat,buildParts (fun i=>if i<n then some [.idx i] else none) (.arr n u) (Ty.arr n u).dflt parts with
  |true,some x=>K { v:=.val (.arr n u) x }
  |_,_=>none)
 |_=>none
def litFlat(u:Ty):List u.den→List (Nat×SV)→Option (List u.den)
 |l,[]=>some l
 |l,(i,.val s y)::r=>if h:s=u then litFlat u (l.set i (castD h y)) r else none
 |_,_=>none
def effLit(E:Env)(objs:List (Option Ob))(dn:Nat)(t:TypeId)(n:Nat)(parts:List (Nat×SV))(K:Eff→Option α):Option α:=
 match E.TT t with
 |some (.row e u)=>(match u.flat,decide (n≤4096)&&E.small e with
  |true,true=>(match litFlat u (List.replicate n u.dflt) parts,parts.all (fun q=>decide (q.1<n)) with
   |some l,true=>K { v:=.sl dn [] none,upd:=[(dn,some (.dat ⟨e,u,l,true,true,none⟩))] }
   |_,_=>none)
  |false,true=>(match u,n,parts with
   |.row e' u',1,[(0,x)]=>(match takeOver objs x e' u' with
    |some (c,ks)=>K { v:=.sl dn [] none,upd:=ks.map (fun k=>(k,none))++[(dn,some (.dat ⟨e,.row e' u',[c],true,true,none⟩))],kill:=ks }
    |none=>none)
   |.row e' u',0,[]=>K { v:=.sl dn [] none,upd:=[(dn,some (.dat ⟨e,.row e' u',[],true,true,none⟩))] }
   |_,_,_=>none)
  |_,_=>none)
 |_=>none
def effLoad(E:Env)(objs:List (Option Ob))(t:TypeId)(a:SV)(K:Eff→Option α):Option α:=
 match a with
 |.ptr n p _=>(match obAt objs n with
  |some (.bx _ k w)=>(match p,E.TT t with
   |[.idx 0],some (.row _ _)=>K { v:=.sl k [] w }
   |_,_=>none)
  |some (.dat _)=>(match place objs n p,E.TT t with
   |some ⟨.row e u,_⟩,some (.row e' u')=>if e=e'∧u=u' then K { v:=.sl n p none } else none
   |some ⟨u,x⟩,some u'=>if u=u' then (match u.flat with
    |true=>K { v:=.val u x }
    |false=>none) else none
   |_,_=>none)
  |none=>none)
 |_=>none
def putAt(d:Dat)(p:List Stp)(u:Ty)(y:u.den):Option Dat:=
 match setP (.row d.e d.t) d.l p u y with
 |some l=>some ⟨d.e,d.t,l,d.wr,d.fresh,d.hole⟩
 |none=>none
def effStore(E:Env)(objs:List (Option Ob))(t:TypeId)(a x:SV)(K:Eff→Option α):Option α:=
 match a with
 |.ptr n p c=>(match datAt objs n with
  |some d=>(match d.wr,x with
   |true,.val u y=>(match d.hole,E.TT t with
    |none,some u'=>if u=u' then (match u.flat,putAt d p u y with
     |true,some d'=>K { v:=.dead,upd:=[(n,some (.dat d'))] }
     |_,_=>none) else none
    |_,_=>none)
   |true,.sl n' q w=>(match c,E.TT t with
    |false,some (.row e u)=>
     if n'=n then (match d.hole,getP (.row d.e d.t) d.l p with
      |none,some ⟨.row e' u',l⟩=>cond (pathEq q p&&decide (w.off=0)) (match putAt d p (.row e' u') (w.cut l) with
       |some d'=>K { v:=.dead,upd:=[(n,some (.dat d'))],loose:=[n] }
       |none=>none) none
      |_,_=>none)
     else (match takeOver objs (.sl n' q w) e u with
      |some (l,ks)=>(match d.hole with
       |none=>(match putAt d p (.row e u) l with
        |some d'=>K { v:=.dead,upd:=ks.map (fun k=>(k,none))++[(n,some (.dat d'))],kill:=ks,loose:=[n] }
        |none=>none)
       |some h=>cond (pathEq h p) (match putAt d p (.row e u) l with
        |some d'=>K { v:=.dead,upd:=ks.map (fun k=>(k,none))++[(n,some (.dat { d' with hole:=none }))],kill:=ks,loose:=[n] }
        |none=>none) none)
      |none=>none)
    |_,_=>none)
   |true,.nil=>(match c,E.TT t,d.hole with
    |false,some (.row e u),none=>(match putAt d p (.row e u) [] with
     |some d'=>K { v:=.dead,upd:=[(n,some (.dat d'))],loose:=[n] }
     |none=>none)
    |_,_,_=>none)
   |_,_=>none)
  |none=>none)
 |_=>none
def effFieldAddr(E:Env)(objs:List (Option Ob))(s:TypeId)(x:SV)(f:Nat)(K:Eff→Option α):Option α:=
 match x,E.TT s with
 |.ptr n p c,some t=>(match fpath t f with
  |some q=>if placeTy objs n p=some t then K { v:=.ptr n (p++q) c } else none
  |none=>none)
 |_,_=>none
def isNil{β:Type}:List β→Bool
 |[]=>true
 |_=>false
def effIndexAddr(E:Env)(objs:List (Option Ob))(t:TypeId)(x i:SV)(K:Eff→Option α):Option α:=
 match x,i with
 |.sl n p w,.val (.int _) j=>(match place0 objs n p,E.TT t with
  |some ⟨.row _ u,_⟩,some (.row _ u')=>if u=u' then cond (decide (0≤(j:Int))&&decide ((j:Int)<(winLen objs n p w:Int))) (K { v:=.ptr n (p++[.idx (w.ix (Int.toNat j))]) (!isNil p) }) none else none
  |some ⟨.arr _ u,_⟩,some (.row _ u')=>if u=u' then cond (decide (0≤(j:Int))&&decide ((j:Int)<(winLen objs n p w:Int))) (K { v:=.ptr n (p++[.idx (w.ix (Int.toNat j))]) (!isNil p) }) none else none
  |_,_=>none)
 |.ptr n p c,.val (.int _) j=>(match E.TT t with
  |some (.arr m u)=>if placeTy objs n p=some (.arr m u) then cond (decide (0≤(j:Int))&&decide ((j:Int)<(m:Int))) (K { v:=.ptr n (p++[.idx (Int.toNat j)]) c }) none else none
  |_=>none)
 |_,_=>none
def effField(E:Env)(t:TypeId)(x:SV)(f:Nat)(K:Eff→Option α):Option α:=
 match x,E.TT t with
 |.val s y,some t'=>if s=t' then (match fpath s f with
  |some q=>(match getP s y q with
   |some ⟨u,z⟩=>K { v:=.val u z }
   |none=>none)
  |none=>none) else none
 |_,_=>none
def bytesOf(l:List UInt8):ByteArray:=⟨l.toArray⟩
def strAt(s:ByteArray)(i:Nat):Int:=if h:i<s.size then ((s[i]).toNat:Int) else 0
def effIndex(E:Env)(t:TypeId)(x i:SV)(K:Eff→Option α):Option α:=
 match x,i with
 |.val (.arr m u) y,.val (.int _) j=>if E.TT t=some (.arr m u) then cond (decide (0≤(j:Int))&&decide ((j:Int)<(m:Int))) (K { v:=.val u (List.getD y (Int.toNat j) u.dflt) }) none else none
 |.val .str s,.val (.int _) j=>if E.TT t=some .str then cond (decide (0≤(j:Int))&&decide ((j:Int)<(ByteArray.size s:Int))) (K { v:=.val (.int .u8) (strAt s (Int.toNat j)) }) none else none
 |_,_=>none
def boundOf(s:SV):Option Int:=match s with
 |.val (.int _) j=>some j
 |_=>none
def boundOr(d:Int):Option SV→Option Int
 |none=>some d
 |some v=>boundOf v
def elemTy(objs:List (Option Ob))(n:Nat)(p:List Stp):Option Ty:=
 match place0 objs n p with
 |some ⟨.row _ u,_⟩=>some u
 |some ⟨.arr _ u,_⟩=>some u
 |_=>none
def effSlice(E:Env)(objs:List (Option Ob))(t:TypeId)(x:SV)(lo hi:Option SV)(mx:Bool)(K:Eff→Option α):Option α:=
 match mx,x,E.TT t with
 |false,.sl n p w,some (.row _ u)=>if elemTy objs n p=some u then (match lo,hi with
  |none,none=>K { v:=.sl n p w }
  |lo,hi=>(match boundOr 0 lo,boundOr (winLen objs n p w:Int) hi with
   |some a,some b=>cond (decide (0≤a)&&(decide (a≤b)&&decide (b≤(winLen objs n p w:Int)))) (K { v:=.sl n p (some (w.ix a.toNat,(b-a).toNat)) }) none
   |_,_=>none)) else none
 |false,.ptr n p _,some (.arr m u)=>if placeTy objs n p=some (.arr m u) then (match lo,hi,datAt objs n with
  |none,none,some d=>(match d.hole with
   |none=>K { v:=.sl n p none }
   |some _=>none)
  |_,_,_=>none) else none
 |false,.nil,some (.row _ _)=>(match boundOr 0 lo,boundOr 0 hi with
  |some a,some b=>cond (decide (a=0)&&decide (b=0)) (K { v:=.nil }) none
  |_,_=>none)
 |false,.val .str q,some .str=>(match boundOr 0 lo,boundOr (ByteArray.size q:Int) hi with
  |some a,some b=>cond (decide (0≤a)&&(decide (a≤b)&&decide (b≤(ByteArray.size q:Int)))) (K { v:=.val .str (ByteArray.extract q a.toNat b.toNat) }) none
  |_,_=>none)
 |_,_,_=>none
def effMake(E:Env)(dn:Nat)(t:TypeId)(len cap:SV)(K:Eff→Option α):Option α:=
 match E.TT t,boundOf len,boundOf cap with
 |some (.row e u),some a,some c=>if E.small e=true then cond (decide (0≤a)&&(decide (a≤c)&&decide (c≤(LIM:Int)))) (K { v:=.sl dn [] none,upd:=[(dn,some (.dat ⟨e,u,List.replicate a.toNat u.dflt,true,true,none⟩))] }) none else none
 |_,_,_=>none
def capsOf:List SV→Option (List (Nat×List Stp))
 |[]=>some []
 |.ptr n p false::r=>(match capsOf r with
  |some l=>some ((n,p)::l)
  |none=>none)
 |_=>none
def effMakeFunc(f:Fn)(first:Nat)(caps:List SV)(K:Eff→Option α):Option α:=
 match f,first,capsOf caps with
 |.func g,0,some cs=>K { v:=.fn g cs }
 |_,_,_=>none
def effExtract(x:SV)(i:Nat)(K:Eff→Option α):Option α:=
 match x with
 |.tup l=>(match l[i]? with
  |some (.val t y)=>K { v:=.val t y }
  |some (.sl n p w)=>K { v:=.sl n p w }
  |some .nil=>K { v:=.nil }
  |none=>none)
 |_=>none
def appended(objs:List (Option Ob))(x:SV)(t:Ty):Option (List t.den×List Nat):=
 match x with
 |.nil=>some ([],[])
 |.sl n p w=>(match t.flat with
  |true=>(match shows objs n p w with
   |some ⟨u,l⟩=>if h:u=t then some (h▸l,[]) else none
   |none=>none)
  |false=>(match p,w,datAt objs n with
   |[],none,some d=>if h:d.t=t then (match d.wr&&d.fresh,d.hole with
    |true,none=>some (h▸d.l,[n])
    |_,_=>none) else none
   |_,_,_=>none))
 |_=>none
def nameIn(x:SV)(n:Nat):Bool:=match x with
 |.sl k _ _=>k==n
 |_=>false
def effAppend(E:Env)(objs:List (Option Ob))(dn:Nat)(t:TypeId)(s x:SV)(K:Eff→Option α):Option α:=
 match E.TT t with
 |some (.row e u)=>(match appended objs x u,E.small e with
  |some (l2,ks),true=>(match s with
   |.nil=>cond (decide (l2.length≤LIM)) (K { v:=.sl dn [] none,upd:=ks.map (fun k=>(k,none))++[(dn,some (.dat ⟨e,u,l2,true,true,none⟩))],kill:=ks }) none
   |.sl n p w=>(match datAt objs n,nameIn x n with
    |some d,false=>(match d.wr&&d.fresh,d.hole with
     |true,none=>(match p with
      |[]=>if h:d.t=u then cond (decide ((w.cut d.l).length+l2.length≤LIM)) (K { v:=.sl dn [] none,upd:=(ks++[n]).map (fun k=>(k,none))++[(dn,some (.dat ⟨e,u,(h▸w.cut d.l)++l2,true,true,none⟩))],kill:=ks++[n] }) none else none
      |p=>(match getP (.row d.e d.t) d.l p with
       |some ⟨.row e' u',l⟩=>if h:u'=u then (match u'.flat,isNil p with
        |true,false=>cond (decide ((w.cut l).length+l2.length≤LIM)) (K { v:=.sl dn [] none,upd:=[(n,some (.dat ⟨d.e,d.t,d.l,d.wr,d.fresh,some p⟩)),(dn,some (.dat ⟨e',u',l,true,true,none⟩))]++((ks++[dn]).map (fun k=>(k,none))++[(dn,some (.dat ⟨e,u,(h▸w.cut l)++l2,true,true,none⟩))]),kill:=ks++[dn],loose:=[n] }) none
        |_,_=>none) else none
       |_=>none))
     |_,_=>none)
    |_,_=>none)
   |_=>none)
  |_,_=>none)
 |_=>none
def overL{β:Type}(l:List β)(k:Nat)(ys:List β):List β:=l.take k++(ys++l.drop (k+ys.length))
def effOver(n:Nat)(d:Dat)(k:Nat)(ys:List d.t.den)(v:SV)(K:Eff→Option α):Option α:=
 match d.wr,d.hole,d.t.flat with
 |true,none,true=>K { v:=v,upd:=[(n,some (.dat ⟨d.e,d.t,overL d.l k ys,d.wr,d.fresh,none⟩))] }
 |_,_,_=>none
def effClear(E:Env)(objs:List (Option Ob))(t:TypeId)(x:SV)(K:Eff→Option α):Option α:=
 match x,E.TT t with
 |.nil,some (.row _ _)=>K { v:=.tup [] }
 |.sl n [] w,some (.row _ u)=>(match datAt objs n with
  |some d=>if d.t=u then effOver n d w.off (List.replicate (w.len d.l) d.t.dflt) (.tup []) K else none
  |_=>none)
 |_,_=>none
def effCopy(E:Env)(objs:List (Option Ob))(t:TypeId)(x y:SV)(K:Eff→Option α):Option α:=
 match x,E.TT t with
 |.sl n [] w,some (.row _ u)=>(match datAt objs n,appended objs y u with
  |some d,some (l2,_)=>if h:u=d.t then effOver n d w.off (h▸l2.take (w.len d.l)) (.val (.int .i64) ((min (w.len d.l) l2.length:Nat):Int)) K else none
  |_,_=>none)
 |_,_=>none
def effNil(tt:Option Ty)(objs:List (Option Ob))(op:BinOp)(x:SV)(K:Eff→Option α):Option α:=
 match op,x,tt with
 |.eql,.sl n p w,some (.row _ _)=>(match shows objs n p w with
  |some ⟨_,l⟩=>cond (List.isEmpty l) (K { v:=.unk }) (K { v:=.val .bool false })
  |none=>none)
 |_,_,_=>none
def isNilSV:SV→Bool
 |.nil=>true
 |_=>false
def isSlSV:SV→Bool
 |.sl _ _ _=>true
 |_=>false
def effLen(tt:Option Ty)(objs:List (Option Ob))(x:SV)(K:Eff→Option α):Option α:=
 match x,tt with
 |.sl n p w,some (.row _ _)=>(match place0 objs n p with
  |some ⟨.row _ _,l⟩=>K { v:=.val (.int .i64) ((w.len l:Nat):Int) }
  |some ⟨.arr m _,_⟩=>K { v:=.val (.int .i64) ((w.lenN m:Nat):Int) }
  |_=>none)
 |.nil,some (.row _ _)=>K { v:=.val (.int .i64) (0:Int) }
 |.val .str s,some .str=>K { v:=.val (.int .i64) (ByteArray.size s:Int) }
 |.val (.arr m u) _,some (.arr m' u')=>if m=m'∧u=u' then K { v:=.val (.int .i64) (m:Int) } else none
 |_,_=>none
def strOf(l:List Int):ByteArray:=l.foldl (fun s n=>s.push (UInt8.ofNat n.toNat)) ByteArray.empty
def effBytes(E:Env)(objs:List (Option Ob))(t0 t:TypeId)(x:SV)(K:Eff→Option α):Option α:=
 match appended objs x (.int .u8),E.TT t0,E.TT t with
 |some (l,_),some (.row _ (.int .u8)),some .str=>K { v:=.val .str (strOf l) }
 |_,_,_=>none
def effZeros(E:Env)(dn:Nat)(t t':TypeId)(s x:SV)(K:Eff→Option α):Option α:=
 match E.TT t,E.TT t',s,x with
 |some (.row e u),some (.int _),.nil,.val (.int _) j=>(match E.small e with
  |true=>cond (decide (0<(j:Int))&&decide ((j:Int)≤(LIM:Int))) (K { v:=.sl dn [] none,upd:=[(dn,some (.dat ⟨e,u,List.replicate (Int.toNat j) u.dflt,true,true,none⟩))] }) none
  |false=>none)
 |_,_,_,_=>none
def effCap(tt:Option Ty)(x:SV)(K:Eff→Option α):Option α:=
 match x,tt with
 |.nil,some (.row _ _)=>K { v:=.val (.int .i64) (0:Int) }
 |_,_=>none
def mm(isMax:Bool):SV→List SV→Option SV
 |x,[]=>some x
 |.val (.int k) a,.val (.int k') b::r=>if k=k' then mm isMax (.val (.int k) (cond isMax (if (a:Int)<b then b else a) (if (b:Int)<a then b else a))) r else none
 |_,_=>none
end Go.Proofs.Ytlipfbihlmlplaa.G
namespace Go.Proofs.Ytlipfbihlmlplaa.G
open Go
variable {α:Type}
def contOf(objs:List (Option Ob))(n:Nat)(p:List Stp)(w:Win):Option Cont:=
 match shows objs n p w with
 |some ⟨u,l⟩=>some ⟨rowE objs n p,u,l⟩
 |none=>none
def capOf(objs:List (Option Ob))(n:Nat)(p:List Stp):Option (Option TypeId×Cont):=
 match obAt objs n with
 |some (.dat _)=>(match place objs n p with
  |some ⟨u,y⟩=>if u.flat then some (none,⟨0,u,[y]⟩) else none
  |none=>none)
 |some (.bx e k w)=>(match p,contOf objs k [] w with
  |[.idx 0],some c=>some (some e,c)
  |_,_=>none)
 |none=>none
def capAV:Option TypeId×Cont→AV
 |(none,c)=>.obj true c
 |(some e,c)=>.bx e c
def avOf(E:Env)(objs:List (Option Ob))(t:TypeId)(x:SV):Option AV:=
 match x with
 |.val u y=>if u.flat then some (.val u y) else none
 |.nil=>(match E.TT t with
  |some (.row e u)=>some (.obj false ⟨e,u,[]⟩)
  |none=>some .nil
  |_=>none)
 |.sl n p w=>(contOf objs n p w).map (.obj false ·)
 |.ptr n p _=>(capOf objs n p).map capAV
 |.fn g caps=>(caps.mapM fun c=>capOf objs c.1 c.2).map (.fn g ·)
 |_=>none
def avsOf(E:Env)(objs:List (Option Ob)):List (TypeId×SV)→Option (List AV)
 |[]=>some []
 |(t,x)::r=>(match avOf E objs t x,avsOf E objs r with
  |some a,some l=>some (a::l)
  |_,_=>none)
def namesOf(objs:List (Option Ob)):SV→List Nat
 |.sl n _ _=>[n]
 |.ptr n _ _=>(match obAt objs n with
  |some (.bx _ k _)=>[n,k]
  |_=>[n])
 |.fn _ cs=>cs.flatMap fun c=>(match obAt objs c.1 with
  |some (.bx _ k _)=>[c.1,k]
  |_=>[c.1])
 |.tup l=>l.flatMap fun
  |.sl n _ _=>[n]
  |_=>[]
 |_=>[]
def wholeOf(objs:List (Option Ob)):SV→Option (Nat×Dat)
 |.sl n [] none=>(match datAt objs n with
  |some d=>(match d.hole,d.wr with
   |none,true=>some (n,d)
   |_,_=>none)
  |none=>none)
 |.ptr n [.idx 0] _=>(match datAt objs n with
  |some d=>(match d.hole,d.wr with
   |none,true=>if List.length d.l=1 then some (n,d) else none
   |_,_=>none)
  |none=>none)
 |_=>none
def mutsOk(objs:List (Option Ob))(xs:List SV):List Nat→Bool
 |[]=>true
 |[i]=>(match (xs[i]?).bind (wholeOf objs) with
  |some (n,_)=>(List.range xs.length).all fun j=>j==i||!(namesOf objs (xs.getD j .dead)).contains n
  |none=>false)
 |_=>false
def putMuts(objs:List (Option Ob))(xs:List SV):List Nat→List Cont→Option (List (Nat×Option Ob))
 |[],[]=>some []
 |[i],[c]=>(match (xs[i]?).bind (wholeOf objs) with
  |some (n,d)=>if h:c.t=d.t then some [(n,some (.dat ⟨d.e,d.t,h▸c.l,d.wr,d.fresh,none⟩))] else none
  |none=>none)
 |_,_=>none
def retOf(objs:List (Option Ob))(muts:List Nat)(xs:List SV):List Nat→RV→Option (TV×List (Nat×Option Ob)×List Nat)
 |ns,.val t y=>some (.val t y,[],ns)
 |ns,.nil=>some (.nil,[],ns)
 |n::ns,.own c=>some (.sl n [] none,[(n,some (.dat ⟨c.e,c.t,c.l,true,true,none⟩))],ns)
 |[],.own _=>none
 |ns,.al i w=>(match xs[i]? with
  |some (.sl n p none)=>(match datAt objs n with
   |some d=>(match d.wr,muts.contains i with
    |true,false=>none
    |_,_=>some (.sl n p w,[],ns))
   |none=>none)
  |_=>none)
def retsOf(objs:List (Option Ob))(muts:List Nat)(xs:List SV):List Nat→List RV→Option (List TV×List (Nat×Option Ob))
 |_,[]=>some ([],[])
 |ns,r::rs=>(match retOf objs muts xs ns r with
  |some (t,u,ns')=>(match retsOf objs muts xs ns' rs with
   |some (ts,us)=>some (t::ts,u++us)
   |none=>none)
  |none=>none)
def svOf:List TV→SV
 |[]=>.dead
 |[.val t y]=>.val t y
 |[.sl n p w]=>.sl n p w
 |[.nil]=>.nil
 |l=>.tup l
def NOTYPE:TypeId:=4294967295
def markNil(ns:List Nat):Nat→List (TypeId×SV)→List (TypeId×SV)
 |_,[]=>[]
 |i,(t,x)::r=>((match ns.contains i with
  |true=>NOTYPE
  |false=>t),x)::markNil ns (i+1) r
def nilsOf:Option Sig→List Nat
 |some s=>s.nils
 |none=>[]
theorem markNil_snd(ns:List Nat):∀(l:List (TypeId×SV)) (i:Nat),(markNil ns i l).map (·.2)=l.map (·.2)
 |[],_=>rfl
 |(t,x)::r,i=>by simp only[markNil,List.map_cons,markNil_snd ns r]
def effCall(E:Env)(objs:List (Option Ob))(dn dn2:Nat)(g:FuncId)(as:List (TypeId×SV))(caps:List (Nat×List Stp))(K:Eff→Option α):Option α:=
 match E.T g,avsOf E objs (markNil (nilsOf (E.T g)) 0 as),caps.mapM (fun c=>capOf objs c.1 c.2) with
 |some s,some l,some cs=>
  let xs:=as.map (·.2)++caps.map fun c=>SV.ptr c.1 c.2 false
  (match mutsOk objs xs s.muts with
  |true=>s.F α (l++cs.map capAV) fun r=>(match putMuts objs xs s.muts r.muts,retsOf objs s.muts xs [dn,dn2] r.rets with
   |some u,some (ts,us)=>K { v:=svOf ts,upd:=u++us,loose:=u.map (·.1) }
   |_,_=>none)
  |false=>none)
 |_,_,_=>none
def plainRets:List RV→Option (List TV)
 |[]=>some []
 |.val t y::r=>(match plainRets r with
  |some l=>some (.val t y::l)
  |none=>none)
 |_=>none
def inMut(E:Env)(g:FuncId)(xs:List SV):Bool:=match E.T g with
 |some s=>(match s.muts with
  |[i]=>(match xs[i]? with
   |some (.sl _ (_::_) none)=>true
   |_=>false)
  |_=>false)
 |none=>false
def effCallIn(E:Env)(objs:List (Option Ob))(dn:Nat)(g:FuncId)(as:List (TypeId×SV))(caps:List (Nat×List Stp))(K:Eff→Option α):Option α:=
 match E.T g,avsOf E objs (markNil (nilsOf (E.T g)) 0 as),caps.mapM (fun c=>capOf objs c.1 c.2) with
 |some s,some l,some cs=>
  let xs:=as.map (·.2)++caps.map fun c=>SV.ptr c.1 c.2 false
  (match s.muts with
  |[i]=>(match xs[i]? with
   |some (.sl n (q0::q) none)=>(match datAt objs n with
    |some d=>(match d.wr,d.hole,getP (.row d.e d.t) d.l (q0::q) with
     |true,none,some ⟨.row e' u',_⟩=>(match (List.range xs.length).all fun j=>j==i||!(namesOf objs (xs.getD j .dead)).contains n with
      |true=>s.F α (l++cs.map capAV) fun r=>(match r.muts,plainRets r.rets with
       |[c],some ts=>if h:c.t=u' then (match putAt d (q0::q) (.row e' u') (h▸c.l) with
        |some d'=>K { v:=svOf ts,upd:=[(dn,none),(n,some (.dat d'))],loose:=[n] }
        |none=>none) else none
       |_,_=>none)
      |false=>none)
     |_,_,_=>none)
    |none=>none)
   |_=>none)
  |_=>none)
 |_,_,_=>none
def effCallAny(E:Env)(objs:List (Option Ob))(dn dn2:Nat)(g:FuncId)(as:List (TypeId×SV))(caps:List (Nat×List Stp))(K:Eff→Option α):Option α:=
 match inMut E g (as.map (·.2)) with
 |true=>effCallIn E objs dn g as caps K
 |false=>effCall E objs dn dn2 g as caps K
def effOp(E:Env)(slots:List SV)(objs:List (Option Ob))(o:Oper)(dn dn2:Nat)(K:Eff→Option α):Option α:=
 let σ:=evalO slots
 match o.op with
 |.move x=>K { v:=σ x }
 |.assign x=>K { v:=σ x }
 |.pick c a b=>effPick (σ c) (σ a) (σ b) K
 |.alloc t=>effAlloc E dn t K
 |.box t x=>effBox E objs dn t (σ x) K
 |.build t ps=>effBuild E t (ps.toList.map fun q=>(q.1,σ q.2)) K
 |.buildSlice t n ps=>effLit E objs dn t n (ps.toList.map fun q=>(q.1,σ q.2)) K
 |.load t a=>effLoad E objs t (σ a) K
 |.store t a x=>effStore E objs t (σ a) (σ x) K
 |.nilCheck x=>(match σ x with
  |.ptr n p c=>K { v:=.ptr n p c }
  |.fn g cs=>K { v:=.fn g cs }
  |_=>none)
 |.binOp op t x y _=>(match isSlSV (σ x)&&isNilSV (σ y) with
  |true=>effNil (E.TT t) objs op (σ x) K
  |false=>binV (E.TT t) op (σ x) (σ y) fun v=>K { v })
 |.unOp op _ x=>unV op (σ x) fun v=>K { v }
 |.convert t0 t x=>(match σ x,E.TT t0,E.TT t with
  |.val (.int _) n,some (.int _),some (.int k)=>K { v:=.val (.int k) (k.wrap n) }
  |_,_,_=>effBytes E objs t0 t (σ x) K)
 |.makeFunc f first caps=>effMakeFunc f first.size (caps.toList.map σ) K
 |.makeSlice t n c=>effMake E dn t (σ n) (σ c) K
 |.slice t x lo hi mx=>effSlice E objs t (σ x) (lo.map σ) (hi.map σ) mx.isSome K
 |.fieldAddr t x f=>effFieldAddr E objs t (σ x) f K
 |.field t x f=>effField E t (σ x) f K
 |.indexAddr t x i=>effIndexAddr E objs t (σ x) (σ i) K
 |.index t x i=>effIndex E t (σ x) (σ i) K
 |.extract x i=>effExtract (σ x) i K
 |.call c=>(match c.callee with
  |.builtin .len=>(match c.args.toList,c.argTypes.toList with
   |[x],[t]=>effLen (E.TT t) objs (σ x) K
   |_,_=>none)
  |.builtin .append=>(match c.args.toList,c.argTypes.toList with
   |[s,x],[t,t']=>if t=t' then effAppend E objs dn t (σ s) (σ x) K else effZeros E dn t t' (σ s) (σ x) K
   |_,_=>none)
  |.builtin .cap=>(match c.args.toList,c.argTypes.toList with
   |[x],[t]=>effCap (E.TT t) (σ x) K
   |_,_=>none)
  |.builtin .clear=>(match c.args.toList,c.argTypes.toList with
   |[x],[t]=>effClear E objs t (σ x) K
   |_,_=>none)
  |.builtin .copy=>(match c.args.toList,c.argTypes.toList with
   |[x,y],[t,_]=>effCopy E objs t (σ x) (σ y) K
   |_,_=>none)
  |.builtin .max=>(match c.args.toList.map σ with
   |x::r=>(match mm true x r with
    |some v=>K { v }
    |none=>none)
   |_=>none)
  |.builtin .min=>(match c.args.toList.map σ with
   |x::r=>(match mm false x r with
    |some v=>K { v }
    |none=>none)
   |_=>none)
  |.value f=>(match σ f with
   |.fn g cs=>(match Nat.beq c.argTypes.size c.args.size with
    |true=>effCallAny E objs dn dn2 g (c.argTypes.toList.zip (c.args.toList.map σ)) cs K
    |false=>none)
   |_=>none)
  |_=>none)
 |_=>none
structure Touch where
 i:Nat
 ok:Bool:=true
 rd:List Nat:=[]
 rs:List Nat:=[]
 wr:List Nat:=[]
 kl:List Nat:=[]
 nw:List Nat:=[]
def copies:Op→Bool
 |.move _=>true|.assign _=>true|.makeFunc _ _ _=>true|_=>false
def inner:SV→Bool
 |.sl _ [] _=>false|.sl _ _ _=>true
 |.ptr _ _ c=>c
 |.tup _=>true
 |_=>false
def dirNames:SV→List Nat
 |.sl n _ _=>[n]
 |.ptr n _ _=>[n]
 |.fn _ cs=>cs.map (·.1)
 |.tup l=>l.flatMap fun
  |.sl n _ _=>[n]
  |_=>[]
 |_=>[]
def notDead:SV→Bool
 |.dead=>false
 |_=>true
def opSVs(slots:List SV)(o:Oper):List SV:=o.op.operands.toList.map (evalO slots)
def touchOf(slots:List SV)(objs:List (Option Ob))(o:Oper)(i:Nat)(e:Eff)(dn dn2:Nat):Touch:=
 {i
  ok:=(opSVs slots o).all notDead
  rd:=if copies o.op then ((opSVs slots o).filter inner).flatMap dirNames else (opSVs slots o).flatMap (namesOf objs)
  rs:=if copies o.op then (opSVs slots o).flatMap dirNames else (opSVs slots o).flatMap (namesOf objs)
  wr:=(e.upd.map (·.1)).filter (fun n=>!(n==dn||n==dn2))++e.loose
  kl:=e.kill
  nw:=(e.upd.map (·.1)).filter (fun n=>n==dn||n==dn2) }
def newOk(e:Eff)(objs:List (Option Ob))(dn dn2:Nat):Bool:=
 e.upd.all fun u=>!(u.1==dn||u.1==dn2)||((obAt objs u.1).isNone&&decide (u.1<objs.length))
def stepOp(E:Env)(o:Oper)(i:Nat)(s:St)(K:St→Touch→Option α):Option α:=
 let d:=o.dst.getD 0
 let dn:=E.base+d
 let dn2:=E.base+E.m+d
 effOp E s.slots s.objs o dn dn2 fun e=>(match newOk e s.objs dn dn2 with
  |true=>K (e.on o.dst s) (touchOf s.slots s.objs o i e dn dn2)
  |false=>none)
def denOps(E:Env)(ops:List Oper):List (Nat×Oper)→St→List Touch→(St→List Touch→Option α)→Option α
 |[],s,tr,K=>K s tr
 |(i,o)::r,s,tr,K=>match o.guard with
  |none=>stepOp E o i s fun s' t=>denOps E ops r s' (t::tr) K
  |some (j,want)=>(match ((ops[j]?).bind (·.dst)).map fun g=>(g,s.slots.getD g .dead) with
   |some (g,.val .bool b)=>cond b
    (match want with
     |true=>stepOp E o i { s with slots:=s.slots.set g (.val .bool true) } fun s' t=>denOps E ops r s' (t::tr) K
     |false=>denOps E ops r ({ v:=.tup []:Eff }.on o.dst { s with slots:=s.slots.set g (.val .bool true) }) ({ i }::tr) K)
    (match want with
     |false=>stepOp E o i { s with slots:=s.slots.set g (.val .bool false) } fun s' t=>denOps E ops r s' (t::tr) K
     |true=>denOps E ops r ({ v:=.tup []:Eff }.on o.dst { s with slots:=s.slots.set g (.val .bool false) }) ({ i }::tr) K)
   |some (_,.tup [])=>denOps E ops r ({ v:=.tup []:Eff }.on o.dst s) ({ i }::tr) K
   |_=>none)
def befores(ops:List Oper):List (List Nat):=
 ops.foldl (fun acc o=>acc++[o.after.toList.foldl (fun s e=>if Region.binds .any e then e.on::(acc.getD e.on []++s) else s) []]) []
def looks(ops:List Oper)(o:Oper):List Nat:=
 (o.op.operands.toList.filterMap fun|.tmp t=>some t|_=>none)++(match o.guard with
  |some (g,_)=>((ops[g]?).bind (·.dst)).toList
  |none=>[])
def disj(l k:List Nat):Bool:=l.all fun n=>!k.contains n
def apartB(ops:List Oper)(x y:Oper)(a b:Touch):Bool:=
 (match x.dst with
  |some d=>!(looks ops y).contains d&&!(y.dst==some d)
  |none=>true) &&
 ((match y.dst with
  |some d=>!(looks ops x).contains d
  |none=>true) &&
 ((a.ok&&b.ok) &&
 ((disj a.wr b.rd&&(disj a.wr b.wr&&(disj a.wr b.kl&&disj a.wr b.nw))) &&
 ((disj b.wr a.rd&&(disj b.wr a.kl&&disj b.wr a.nw)) &&
 ((disj a.kl b.rd&&(disj a.kl b.rs&&(disj a.kl b.kl&&disj a.kl b.nw))) &&
 ((disj b.kl a.rd&&(disj b.kl a.rs&&disj b.kl a.nw)) &&
 ((disj a.nw b.rd&&(disj a.nw b.rs&&disj a.nw b.nw))&&(disj b.nw a.rd&&disj b.nw a.rs))))))))
def pairsOk(ops:List Oper)(bf:List (List Nat))(x:Oper)(t:Touch):List (Oper×Touch)→Bool
 |[]=>true
 |(y,u)::r=>((bf.getD t.i []).contains u.i||apartB ops x y t u)&&pairsOk ops bf x t r
def regionOk(ops:List Oper)(bf:List (List Nat)):List (Oper×Touch)→Bool
 |[]=>true
 |(x,t)::r=>pairsOk ops bf x t r&&regionOk ops bf r
def edgesOk:Nat→List Oper→Bool
 |_,[]=>true
 |i,o::r=>(o.after.all fun e=>!(Region.binds .any e)||decide (e.on<i))&&edgesOk (i+1) r
def drawOk(ops:List Oper)(tr:List Touch):Bool:=
 edgesOk 0 ops&&regionOk ops (befores ops) (ops.reverse.zip tr)
inductive Ex where
 |normal|exit (id:Nat)|ret
inductive Ann where
 |nil
 |two (a b:Ann)
 |one (a:Ann)
 |loop (live:List Nat) (a:Ann)
 |cut (live:List Nat) (a b:Ann)
def Ann.l:Ann→Ann
 |.two a _=>a|.one a=>a|.loop _ a=>a|.cut _ a _=>a|.nil=>.nil
def Ann.r:Ann→Ann
 |.two _ b=>b|.cut _ _ b=>b|_=>.nil
def Ann.live:Ann→List Nat
 |.loop l _=>l|_=>[]
def seenIn(base:Nat)(acc:List Nat)(n:Nat):List Nat:=if n<base∨acc.contains n=true then acc else acc++[n]
def keptNames(base:Nat)(objs:List (Option Ob))(slots:List SV):List Nat→List Nat→List Nat
 |[],acc=>acc
 |i::r,acc=>keptNames base objs slots r ((namesOf objs (slots.getD i .dead)).foldl (seenIn base) acc)
def ren(base z:Nat)(ks:List Nat)(n:Nat):Nat:=if n<base then n else z+ks.idxOf n
def renSV(f:Nat→Nat):SV→SV
 |.sl n p w=>.sl (f n) p w
 |.ptr n p c=>.ptr (f n) p c
 |.fn g cs=>.fn g (cs.map fun c=>(f c.1,c.2))
 |.tup l=>.tup (l.map fun
  |.sl n p w=>.sl (f n) p w
  |x=>x)
 |x=>x
def renOb(f:Nat→Nat):Ob→Ob
 |.dat d=>.dat d
 |.bx e n w=>.bx e (f n) w
def noHole:Option Ob→Bool
 |some (.dat d)=>d.hole.isNone
 |_=>true
def bxOk(base:Nat)(ks:List Nat)(objs:List (Option Ob))(n:Nat):Bool:=match obAt objs n with
 |some (.bx _ k _)=>decide (k<base)||ks.contains k
 |_=>true
def canon (E : Env) (live : List Nat) (s : St) (K : St → Option α) : Option α :=
  let ks := keptNames E.base s.objs s.slots live []
  let z := E.base + 2 * E.m
  let f := ren E.base z ks
  match s.objs.all noHole && ((List.range E.base).all (bxOk E.base ks s.objs) && ks.all (bxOk E.base ks s.objs)) with
  | true => K { slots := (List.range E.m).map fun i => if live.contains i then renSV f (s.slots.getD i .dead) else .dead
                objs := (List.range E.base).map (fun n => (obAt s.objs n).map (renOb f)) ++ (List.replicate (2 * E.m) none ++ (ks.map fun n => (obAt s.objs n).map (renOb f))) }
  | false => none
def loopN(body:(St→Option α)→St→Option α):Nat→St→Option α
 |0,_=>none
 |k+1,s=>body (loopN body k) s
def seqK(next:St→Option α)(K:Ex→St→Option α):Ex→St→Option α
 |.normal,s=>next s
 |.exit id,s=>K (.exit id) s
 |.ret,s=>K .ret s
def blockK(id:Nat)(K:Ex→St→Option α):Ex→St→Option α
 |.normal,s=>K .normal s
 |.exit id',s=>(match Nat.beq id' id with
  |true=>K .normal s
  |false=>K (.exit id') s)
 |.ret,s=>K .ret s
def loopK(E:Env)(live:List Nat)(rec:St→Option α)(K:Ex→St→Option α):Ex→St→Option α
 |.normal,s=>canon E live s rec
 |.exit id,s=>K (.exit id) s
 |.ret,s=>K .ret s
def cutK(E:Env)(n:Ann)(s:St)(K:St→Option α):Option α:=match n with
 |.cut l _ _=>canon E l s K
 |_=>K s
noncomputable def both(a b:Option α):Option α:=open Classical in if a=b then a else none
theorem both_some{a b:Option α}{r:α}(h:both a b=some r):a=some r∧b=some r:=by
 unfold both at h
 split at h
 ·rename_i e;exact⟨h,e▸h⟩
 ·cases h
theorem both_same(a:Option α):both a a=a:=by unfold both;exact if_pos rfl
def isUnk:SV→Bool
 |.unk=>true
 |_=>false
def isTrueV:SV→Option Bool
 |.val .bool b=>some b
 |_=>none
noncomputable def den(E:Env)(fuel:Nat):Code→Ann→St→(Ex→St→Option α)→Option α
 |.skip,_,s,K=>K .normal s
 |.region _ ops draw,_,s,K=>denOps E ops.toList ((List.range ops.size).zip ops.toList) s [] fun s' tr=>(match draw with
  |false=>K .normal s'
  |true=>(match drawOk ops.toList tr with
   |true=>K .normal s'
   |false=>none))
 |.seq a b,n,s,K=>den E fuel a n.l s (seqK (fun s'=>cutK E n s' fun s''=>den E fuel b n.r s'' K) K)
 |.cond c a b,n,s,K=>(match isTrueV (evalO s.slots c) with
  |some x=>cond x (den E fuel a n.l s K) (den E fuel b n.r s K)
  |none=>(match isUnk (evalO s.slots c) with
   |true=>both (den E fuel a n.l s K) (den E fuel b n.r s K)
   |false=>none))
 |.block id b,n,s,K=>den E fuel b n.l s (blockK id K)
 |.loop b,n,s,K=>canon E n.live s (loopN (fun rec s'=>den E fuel b n.l s' (loopK E n.live rec K)) fuel)
 |.exit id,_,s,K=>K (.exit id) s
 |.ret,_,s,K=>K .ret s
 |_,_,_,_=>none
structure Intro where
 slots:List SV
 objs:List (Option Ob)
 names:List (Option Nat)
def introCaps:Nat→List (Option TypeId×Cont)→List (Nat×List Stp)×List (Option Ob)
 |_,[]=>([],[])
 |k,(none,c)::r=>((k,[.idx 0])::(introCaps (k+1) r).1,some (.dat ⟨c.e,c.t,c.l,false,false,none⟩)::(introCaps (k+1) r).2)
 |k,(some e,c)::r=>((k+1,[.idx 0])::(introCaps (k+2) r).1,some (.dat ⟨c.e,c.t,c.l,false,false,none⟩)::some (.bx e k none)::(introCaps (k+2) r).2)
def intro(muts:List Nat):Nat→Nat→List AV→Intro
 |_,_,[]=>⟨[],[],[]⟩
 |i,k,.nil::r=>let q:=intro muts (i+1) k r;⟨.nil::q.slots,q.objs,none::q.names⟩
 |i,k,.val t x::r=>let q:=intro muts (i+1) k r;⟨.val t x::q.slots,q.objs,none::q.names⟩
 |i,k,.obj ptr c::r=>let q:=intro muts (i+1) (k+1) r;⟨(match ptr with|true=>.ptr k [.idx 0] false|false=>.sl k [] none)::q.slots,some (.dat ⟨c.e,c.t,c.l,muts.contains i,false,none⟩)::q.objs,some k::q.names⟩
 |i,k,.bx e c::r=>let q:=intro muts (i+1) (k+2) r;⟨.ptr (k+1) [.idx 0] false::q.slots,some (.dat ⟨c.e,c.t,c.l,false,false,none⟩)::some (.bx e k none)::q.objs,none::q.names⟩
 |i,k,.fn g cs::r=>let a:=introCaps k cs;let q:=intro muts (i+1) (k+a.2.length) r;⟨.fn g a.1::q.slots,a.2++q.objs,none::q.names⟩
def outOf(base:Nat)(objs:List (Option Ob))(names:List (Option Nat))(x:SV):Option (RV×List Nat):=
 match x with
 |.val t y=>if t.flat then some (.val t y,[]) else none
 |.nil=>some (.nil,[])
 |.sl n p w=>(match datAt objs n,p with
  |some d,[]=>(match d.hole with
   |none=>if n<base then (match names.idxOf (some n) with
     |i=>if i<names.length then some (.al i w,[]) else none)
    else (match d.wr&&d.fresh with
     |true=>some (.own ⟨d.e,d.t,w.cut d.l⟩,[n])
     |false=>none)
   |some _=>none)
  |_,_=>none)
 |_=>none
def outsOf(base:Nat)(objs:List (Option Ob))(names:List (Option Nat)):List SV→List Nat→Option (List RV)
 |[],_=>some []
 |x::r,ks=>(match outOf base objs names x with
  |some (v,k)=>(match k.all (fun q=>!ks.contains q) with
   |true=>(match outsOf base objs names r (k++ks) with
    |some l=>some (v::l)
    |none=>none)
   |false=>none)
  |none=>none)
def resVar(TT:TyTab)(slots:List SV)(objs:List (Option Ob)):ResultVar→SV
 |.tmp t=>slots.getD t .dead
 |.cell a t=>(match slots.getD a .dead with
  |.ptr n p _=>(match obAt objs n with
   |some (.dat _)=>(match place objs n p,TT t with
    |some ⟨u,y⟩,some u'=>if u=u' then (match u.flat with
     |true=>.val u y
     |false=>.dead) else .dead
    |_,_=>.dead)
   |_=>.dead)
  |_=>.dead)
def mutOut(objs:List (Option Ob))(names:List (Option Nat))(i:Nat):Option Cont:=
 match names[i]? with
 |some (some n)=>(match datAt objs n with
  |some d=>(match d.hole with
   |none=>some ⟨d.e,d.t,d.l⟩
   |some _=>none)
  |none=>none)
 |_=>none
def unnil(TT:TyTab):List TypeId→List SV→List (Option Ob)→List SV×List (Option Ob)
 |t::ts,.nil::xs,o=>(match TT t with
  |some (.row e u)=>(.sl o.length [] none::(unnil TT ts xs (o++[some (.dat ⟨e,u,[],true,true,none⟩)])).1,(unnil TT ts xs (o++[some (.dat ⟨e,u,[],true,true,none⟩)])).2)
  |_=>(.nil::(unnil TT ts xs o).1,(unnil TT ts xs o).2))
 |_::ts,x::xs,o=>(x::(unnil TT ts xs o).1,(unnil TT ts xs o).2)
 |_,xs,o=>(xs,o)
def finish(TT:TyTab)(base:Nat)(names:List (Option Nat))(fn:Func)(muts:List Nat)(K:Res→Option α)(s:St):Option α:=
 let q:=unnil TT fn.resultTypes.toList (fn.results.toList.map (resVar TT s.slots s.objs)) s.objs
 match outsOf base q.2 names q.1 [],muts.mapM (mutOut q.2 names) with
 |some l,some ms=>K ⟨l,ms⟩
 |_,_=>none
def finK(TT:TyTab)(base:Nat)(names:List (Option Nat))(fn:Func)(muts:List Nat)(K:Res→Option α):Ex→St→Option α
 |.normal,s=>finish TT base names fn muts K s
 |.ret,s=>finish TT base names fn muts K s
 |.exit _,_=>none
noncomputable def run(TT:TyTab)(small:TypeId→Bool)(T:FuncId→Option Sig)(fn:Func)(ann:Ann)(muts:List Nat)(fuel:Nat)(avs:List AV)(K:Res→Option α):Option α:=
 let q:=intro muts 0 0 avs
 let E:Env:=⟨TT,small,T,q.objs.length,fn.ntmps⟩
 match fn.body,Nat.ble q.slots.length fn.ntmps with
 |some c,true=>den E fuel c ann { slots:=q.slots++List.replicate (fn.ntmps-q.slots.length) .dead,objs:=q.objs++List.replicate (3*fn.ntmps) none } (finK TT E.base q.names fn muts K)
 |_,_=>none
end Go.Proofs.Ytlipfbihlmlplaa.G
namespace Go.Proofs.Ytlipfbihlmlplaa.G
open Go Go.RowKit
set_option linter.unusedVariables false
set_option linter.unusedSimpArgs false
structure Hdr where
 A:Option Addr
 cap:Nat
@[reducible] def Ty.loc:Ty→Type
 |.pair a b=>a.loc×b.loc|.st t=>t.loc|.arr _ t=>Nat→t.loc|.row _ t=>Hdr×(Nat→t.loc)|_=>Unit
def Ty.dloc:(t:Ty)→t.loc
 |.pair a b=>(a.dloc,b.dloc)|.st t=>t.dloc|.arr _ t=>fun _=>t.dloc|.row _ t=>(⟨none,0⟩,fun _=>t.dloc)
 |.int _=>()|.bool=>()|.str=>()
def cells:(t:Ty)→t.den→t.loc→List Value
 |.int k,x,_=>[.int k x]
 |.bool,x,_=>[.bool x]
 |.str,x,_=>[.string x]
 |.pair a b,x,l=>cells a x.1 l.1++cells b x.2 l.2
 |.st t,x,l=>cells t x l
 |.arr n t,x,l=>(List.range n).flatMap fun i=>cells t (List.getD x i t.dflt) (l i)
 |.row _ t,x,l=>[.slice l.1.A (List.length x) l.1.cap]
def rowCells(t:Ty)(x:List t.den)(l:Nat→t.loc):List Value:=(List.range x.length).flatMap fun i=>cells t (x.getD i t.dflt) (l i)
theorem flatMap_range_length(f:Nat→List Value)(k:Nat)(h:∀i,(f i).length=k):∀n,((List.range n).flatMap f).length=n*k
 |0=>by simp
 |n+1=>by rw[List.range_succ,List.flatMap_append,List.length_append,flatMap_range_length f k h n];simp[h,Nat.succ_mul]
theorem cells_length:∀(t:Ty) (x:t.den) (l:t.loc),(cells t x l).length=t.size
 |.int _,_,_=>rfl
 |.bool,_,_=>rfl
 |.str,_,_=>rfl
 |.pair a b,x,l=>by simp only[cells,List.length_append,Ty.size,cells_length a,cells_length b]
 |.st t,x,l=>cells_length t x l
 |.arr n t,x,l=>flatMap_range_length _ _ (fun i=>cells_length t _ _) n
 |.row _ t,x,l=>rfl
theorem rowCells_length(t:Ty)(x:List t.den)(l:Nat→t.loc):(rowCells t x l).length=x.length*t.size:=
 flatMap_range_length _ _ (fun i=>cells_length t _ _) x.length
def sub:Option (List Stp)→Stp→Option (List Stp)
 |some (.idx i::p),.idx j=>if i=j then some p else none
 |some (.fst::p),.fst=>some p
 |some (.snd::p),.snd=>some p
 |_,_=>none
def lent:Option (List Stp)→Bool
 |some []=>true
 |_=>false
structure RowAt(w:World)(own:Bool)(sz:Nat)(h:Hdr)(n:Nat)(cs:List Value):Prop where
 le:n≤h.cap
 at_:0<n→∃b o,h.A=some ⟨b,o,none⟩∧b<w.heap.size∧w.rangeAt b o cs
 own:own=true→0<h.cap→∃b o arr e,h.A=some ⟨b,o,none⟩∧w.heap[b]? = some (.cells arr e (0,0))∧o+h.cap*sz≤arr.size
def memH(w:World)(own:Bool):(t:Ty)→Option (List Stp)→t.den→t.loc→Prop
 |.int _,_,_,_=>True
 |.bool,_,_,_=>True
 |.str,_,_,_=>True
 |.pair a b,h,x,l=>memH w own a (sub h .fst) x.1 l.1∧memH w own b (sub h .snd) x.2 l.2
 |.st t,h,x,l=>memH w own t h x l
 |.arr n t,h,x,l=>List.length x=n∧∀i,i<n→memH w own t (sub h (.idx i)) (List.getD x i t.dflt) (l i)
 |.row _ t,h,x,l=>lent h=true∨(RowAt w own t.size l.1 (List.length x) (rowCells t x l.2)∧∀i,i<List.length x→memH w own t (sub h (.idx i)) (List.getD x i t.dflt) (l.2 i))
def hdrBlk(own:Bool)(h:Hdr)(n:Nat):List Nat:=match h.A with
 |some a=>if (own=true∧0<h.cap)∨0<n then [a.block] else []
 |none=>[]
def blks(own:Bool):(t:Ty)→Option (List Stp)→t.den→t.loc→List Nat
 |.int _,_,_,_=>[]
 |.bool,_,_,_=>[]
 |.str,_,_,_=>[]
 |.pair a b,h,x,l=>blks own a (sub h .fst) x.1 l.1++blks own b (sub h .snd) x.2 l.2
 |.st t,h,x,l=>blks own t h x l
 |.arr n t,h,x,l=>(List.range n).flatMap fun i=>blks own t (sub h (.idx i)) (List.getD x i t.dflt) (l i)
 |.row _ t,h,x,l=>if lent h=true then [] else hdrBlk own l.1 (List.length x)++(List.range (List.length x)).flatMap fun i=>blks own t (sub h (.idx i)) (List.getD x i t.dflt) (l.2 i)
theorem rangeAt_block{w w':World}{b o:Nat}{cs:List Value}(h:w.rangeAt b o cs)(hb:w'.heap[b]? = w.heap[b]?):w'.rangeAt b o cs:=
 fun j v hv=>(World.cell?_of_block (w:=w) hb).trans (h j v hv)
theorem RowAt.frame{w w':World}{own:Bool}{sz:Nat}{h:Hdr}{n:Nat}{cs:List Value}(r:RowAt w own sz h n cs)(hs:w.heap.size≤w'.heap.size)
  (hb:∀k,k∈hdrBlk own h n→w'.heap[k]? = w.heap[k]?):RowAt w' own sz h n cs where
 le:=r.le
 at_:=fun hn=>by
  obtain⟨b,o,e,hlt,hr⟩:=r.at_ hn
  exact⟨b,o,e,Nat.lt_of_lt_of_le hlt hs,rangeAt_block hr (hb b (by simp[hdrBlk,e,hn]))⟩
 own:=fun ho hc=>by
  obtain⟨b,o,arr,e',e,hh,hr⟩:=r.own ho hc
  exact⟨b,o,arr,e',e,(hb b (by simp[hdrBlk,e,ho,hc])).trans hh,hr⟩
theorem memH_frame{w w':World}{own:Bool}(hs:w.heap.size≤w'.heap.size):∀(t:Ty) (h:Option (List Stp)) (x:t.den) (l:t.loc),memH w own t h x l →
  (∀k,k∈blks own t h x l→w'.heap[k]? = w.heap[k]?)→memH w' own t h x l
 |.int _,_,_,_,_,_=>trivial
 |.bool,_,_,_,_,_=>trivial
 |.str,_,_,_,_,_=>trivial
 |.pair a b,h,x,l,m,hb=>⟨memH_frame hs a _ _ _ m.1 (fun k hk=>hb k (List.mem_append_left _ hk)),memH_frame hs b _ _ _ m.2 (fun k hk=>hb k (List.mem_append_right _ hk))⟩
 |.st t,h,x,l,m,hb=>memH_frame hs t h x l m hb
 |.arr n t,h,x,l,m,hb=>⟨m.1,fun i hi=>memH_frame hs t _ _ _ (m.2 i hi) (fun k hk=>hb k (List.mem_flatMap.2 ⟨i,List.mem_range.2 hi,hk⟩))⟩
 |.row e t,h,x,l,m,hb=>by
  rcases m with m|m
  ·exact .inl m
  ·by_cases hh:lent h=true
   ·exact .inl hh
   ·simp only[blks,if_neg hh] at hb
    exact .inr ⟨m.1.frame hs (fun k hk=>hb k (List.mem_append_left _ hk)),fun i hi=>memH_frame hs t _ _ _ (m.2 i hi) (fun k hk=>hb k (List.mem_append_right _ (List.mem_flatMap.2 ⟨i,List.mem_range.2 hi,hk⟩)))⟩
structure Pl where
 u:Ty
 y:u.den
 l:u.loc
 b:Nat
 o:Nat
def getPL:(t:Ty)→t.den→t.loc→Nat→Nat→List Stp→Option Pl
 |t,x,l,b,o,[]=>some ⟨t,x,l,b,o⟩
 |.st t,x,l,b,o,s::p=>getPL t x l b o (s::p)
 |.pair a _,x,l,b,o,.fst::p=>getPL a x.1 l.1 b o p
 |.pair a b',x,l,b,o,.snd::p=>getPL b' x.2 l.2 b (o+a.size) p
 |.arr n t,x,l,b,o,.idx i::p=>if i<n then getPL t (List.getD x i t.dflt) (l i) b (o+i*t.size) p else none
 |.row _ t,x,l,_,_,.idx i::p=>if i<List.length x then (match l.1.A with
  |some a=>getPL t (List.getD x i t.dflt) (l.2 i) a.block (a.off+i*t.size) p
  |none=>none) else none
 |_,_,_,_,_,_=>none
theorem getP_of_PL:∀(t:Ty) (x:t.den) (l:t.loc) (b o:Nat) (p:List Stp) (P:Pl),getPL t x l b o p=some P→getP t x p=some ⟨P.u,P.y⟩
 |t,x,l,b,o,[],P,h=>by
  have e:P=⟨t,x,l,b,o⟩:=by unfold getPL at h;cases t<;>exact (Option.some.inj h).symm
  subst e
  cases t<;>rfl
 |.st t,x,l,b,o,s::p,P,h=>getP_of_PL t x l b o (s::p) P h
 |.pair a _,x,l,b,o,.fst::p,P,h=>getP_of_PL a x.1 l.1 b o p P h
 |.pair a b',x,l,b,o,.snd::p,P,h=>getP_of_PL b' x.2 l.2 b _ p P h
 |.arr n t,x,l,b,o,.idx i::p,P,h=>by
  unfold getPL at h
  split at h
  ·exact getP_of_PL t _ _ b _ p P h
  ·cases h
 |.row _ t,x,l,b,o,.idx i::p,P,h=>by
  unfold getPL at h
  split at h
  ·split at h
   ·exact getP_of_PL t _ _ _ _ p P h
   ·cases h
  ·cases h
 |.int _,_,_,_,_,_::_,_,h=>by cases h
 |.bool,_,_,_,_,_::_,_,h=>by cases h
 |.str,_,_,_,_,_::_,_,h=>by cases h
 |.pair _ _,_,_,_,_,.idx _::_,_,h=>by cases h
 |.arr _ _,_,_,_,_,.fst::_,_,h=>by cases h
 |.arr _ _,_,_,_,_,.snd::_,_,h=>by cases h
 |.row _ _,_,_,_,_,.fst::_,_,h=>by cases h
 |.row _ _,_,_,_,_,.snd::_,_,h=>by cases h
theorem flatMap_range_get(f:Nat→List Value)(k:Nat)(h:∀i,(f i).length=k):∀n i,i<n→(((List.range n).flatMap f).drop (i*k)).take k=f i
 |0,i,hi=>by omega
 |n+1,i,hi=>by
  rw[List.range_succ,List.flatMap_append]
  have hl:=flatMap_range_length f k h n
  rcases Nat.lt_or_ge i n with hlt|hge
  ·have hle:i*k+k≤n*k:=by rw[←Nat.succ_mul];exact Nat.mul_le_mul_right _ hlt
   rw[List.drop_append_of_le_length (by omega),List.take_append_of_le_length (by rw[List.length_drop];omega)]
   exact flatMap_range_get f k h n i hlt
  ·have e:i=n:=by omega
   subst e
   rw[List.drop_left' hl]
   simp only[List.flatMap_cons,List.flatMap_nil,List.append_nil]
   rw[List.take_of_length_le (by rw[h];exact Nat.le_refl _)]
theorem rangeAt_part{w:World}{b o:Nat}{cs:List Value}(h:w.rangeAt b o cs)(j n:Nat):w.rangeAt b (o+j) ((cs.drop j).take n):=fun q v hv=>by
 rw[List.getElem?_take] at hv
 split at hv
 ·rw[List.getElem?_drop] at hv
  have:=h (j+q) v hv
  rwa[show o+(j+q)=o+j+q by omega] at this
 ·cases hv
theorem rangeAt_append{w:World}{b o:Nat}{c d:List Value}:w.rangeAt b o (c++d)↔w.rangeAt b o c∧w.rangeAt b (o+c.length) d:=by
 constructor
 ·intro h
  refine⟨fun j v hv=>h j v (by rw[List.getElem?_append_left (List.getElem?_eq_some_iff.1 hv).1];exact hv),fun j v hv=>?_⟩
  have:=h (c.length+j) v (by rw[List.getElem?_append_right (by omega)];simpa using hv)
  rwa[show o+(c.length+j)=o+c.length+j by omega] at this
 ·rintro⟨h1,h2⟩ j v hv
  rcases Nat.lt_or_ge j c.length with hj|hj
  ·rw[List.getElem?_append_left hj] at hv;exact h1 j v hv
  ·rw[List.getElem?_append_right hj] at hv
   have:=h2 (j-c.length) v hv
   rwa[show o+c.length+(j-c.length)=o+j by omega] at this
theorem rangeAt_flatMap{w:World}{b o:Nat}(f:Nat→List Value)(k:Nat)(h:∀i,(f i).length=k):∀n,w.rangeAt b o ((List.range n).flatMap f)↔∀i,i<n→w.rangeAt b (o+i*k) (f i)
 |0=>⟨fun _ i hi=>absurd hi (Nat.not_lt_zero _),fun _ j v hv=>by simp at hv⟩
 |n+1=>by
  rw[List.range_succ,List.flatMap_append,rangeAt_append,rangeAt_flatMap f k h n,flatMap_range_length f k h n]
  simp only[List.flatMap_cons,List.flatMap_nil,List.append_nil]
  constructor
  ·rintro⟨h1,h2⟩ i hi
   rcases Nat.lt_or_ge i n with hlt|hge
   ·exact h1 i hlt
   ·obtain rfl:i=n:=by omega
    exact h2
  ·intro h
   exact⟨fun i hi=>h i (by omega),h n (by omega)⟩
theorem PL_read{w:World}{own:Bool}:∀(t:Ty) (x:t.den) (l:t.loc) (b o:Nat) (p:List Stp) (P:Pl),getPL t x l b o p=some P→memH w own t none x l→w.rangeAt b o (cells t x l) →
  w.rangeAt P.b P.o (cells P.u P.y P.l)∧memH w own P.u none P.y P.l
 |t,x,l,b,o,[],P,h,m,r=>by
  have e:P=⟨t,x,l,b,o⟩:=by unfold getPL at h;cases t<;>exact (Option.some.inj h).symm
  subst e
  exact⟨r,m⟩
 |.st t,x,l,b,o,s::p,P,h,m,r=>PL_read t x l b o (s::p) P h m r
 |.pair a c,x,l,b,o,.fst::p,P,h,m,r=>PL_read a x.1 l.1 b o p P h m.1 (rangeAt_append.1 r).1
 |.pair a c,x,l,b,o,.snd::p,P,h,m,r=>PL_read c x.2 l.2 b _ p P h m.2 (by have:=(rangeAt_append.1 r).2;rwa[cells_length] at this)
 |.arr n t,x,l,b,o,.idx i::p,P,h,m,r=>by
  unfold getPL at h
  split at h
  ·rename_i hi
   exact PL_read t _ _ b _ p P h (m.2 i hi) ((rangeAt_flatMap _ _ (fun i=>cells_length t _ _) n).1 r i hi)
  ·cases h
 |.row _ t,x,l,b,o,.idx i::p,P,h,m,r=>by
  unfold getPL at h
  split at h
  ·rename_i hi
   split at h
   ·rename_i a ha
    rcases m with m|m
    ·exact absurd m (by simp[lent])
    ·obtain⟨b',o',e,hlt,hr⟩:=m.1.at_ (by omega)
     rw[ha] at e
     obtain rfl:=Option.some.inj e
     exact PL_read t _ _ _ _ p P h (m.2 i hi) ((rangeAt_flatMap _ _ (fun i=>cells_length t _ _) _).1 hr i hi)
   ·cases h
  ·cases h
 |.int _,_,_,_,_,_::_,_,h,_,_=>by cases h
 |.bool,_,_,_,_,_::_,_,h,_,_=>by cases h
 |.str,_,_,_,_,_::_,_,h,_,_=>by cases h
 |.pair _ _,_,_,_,_,.idx _::_,_,h,_,_=>by cases h
 |.arr _ _,_,_,_,_,.fst::_,_,h,_,_=>by cases h
 |.arr _ _,_,_,_,_,.snd::_,_,h,_,_=>by cases h
 |.row _ _,_,_,_,_,.fst::_,_,h,_,_=>by cases h
 |.row _ _,_,_,_,_,.snd::_,_,h,_,_=>by cases h
end Go.Proofs.Ytlipfbihlmlplaa.G
namespace Go.Proofs.Ytlipfbihlmlplaa.G
open Go Go.RowKit
set_option linter.unusedVariables false
set_option linter.unusedSimpArgs false
theorem sc_far{g:Nat}:∀(vs:List Value) (o:Nat) (w:World) (k:Nat),k≠g→(w.setCells g o vs).heap[k]? = w.heap[k]?
 |[],_,_,_,_=>rfl
 |v::r,o,w,k,hk=>by
  rw[World.setCells,sc_far r (o+1) _ k hk]
  exact Below.heap_setCell w ⟨g,o,none⟩ v k hk
def DR:Prop:=False
def TD(b a:World):Prop:=b.tape=a.tape∧(DR→a.drawn≤b.drawn)
theorem TD.refl(a:World):TD a a:=⟨rfl,fun _=>Nat.le_refl _⟩
theorem TD.trans{c b a:World}(h:TD c b)(k:TD b a):TD c a:=⟨h.1.trans k.1,fun q=>Nat.le_trans (k.2 q) (h.2 q)⟩
theorem sc_same(g:Nat):∀(vs:List Value) (o:Nat) (w:World),(w.setCells g o vs).os=w.os∧TD (w.setCells g o vs) w∧(w.setCells g o vs).output=w.output∧(w.setCells g o vs).heap.size=w.heap.size
 |[],_,_=>⟨rfl,TD.refl _,rfl,rfl⟩
 |v::r,o,w=>by
  obtain⟨h1,h2,h3,h4⟩:=sc_same g r (o+1) (w.setCell ⟨g,o,none⟩ v)
  rw[World.setCells]
  exact⟨h1,h2.trans (TD.refl w),h3,by rw[h4];simp[World.setCell]⟩
theorem sc_row{g:Nat}{e:TypeId}:∀(vs:List Value) (o:Nat) (w:World) (cur:Array Value),w.heap[g]? = some (.cells cur e (0,0)) →
  ∃cur',(w.setCells g o vs).heap[g]? = some (.cells cur' e (0,0))∧cur'.size=cur.size
 |[],o,w,cur,h=>⟨cur,h,rfl⟩
 |v::r,o,w,cur,h=>by
  have h2:(w.setCell ⟨g,o,none⟩ v).heap[g]? = some (.cells (cur.setIfInBounds o v) e (0,0)):=by
   simp only[World.setCell,Array.getElem?_modify,if_pos,h,Option.map_some]
   rfl
  obtain⟨cur',h3,h4⟩:=sc_row r (o+1) _ _ h2
  exact⟨cur',h3,by rw[h4];simp⟩
def HoleAt(h:Option (List Stp))(p:List Stp):Prop:=h=none∨h=some p
theorem HoleAt.sub_idx{h:Option (List Stp)}{i:Nat}{p:List Stp}(q:HoleAt h (.idx i::p)):HoleAt (sub h (.idx i)) p:=by
 rcases q with rfl|rfl
 ·exact .inl rfl
 ·exact .inr (by simp[sub])
theorem HoleAt.sub_ne{h:Option (List Stp)}{i j:Nat}{p:List Stp}(q:HoleAt h (.idx i::p))(hne:i≠j):sub h (.idx j)=none:=by
 rcases q with rfl|rfl
 ·rfl
 ·simp[sub,hne]
theorem HoleAt.sub_fst{h:Option (List Stp)}{p:List Stp}(q:HoleAt h (.fst::p)):HoleAt (sub h .fst) p∧sub h .snd=none:=by
 rcases q with rfl|rfl
 ·exact⟨.inl rfl,rfl⟩
 ·exact⟨.inr rfl,rfl⟩
theorem HoleAt.sub_snd{h:Option (List Stp)}{p:List Stp}(q:HoleAt h (.snd::p)):HoleAt (sub h .snd) p∧sub h .fst=none:=by
 rcases q with rfl|rfl
 ·exact⟨.inl rfl,rfl⟩
 ·exact⟨.inr rfl,rfl⟩
theorem HoleAt.not_lent{h:Option (List Stp)}{s:Stp}{p:List Stp}(q:HoleAt h (s::p)):lent h=false:=by
 rcases q with rfl|rfl<;>rfl
theorem PL_where{own:Bool}:∀(t:Ty) (h:Option (List Stp)) (x:t.den) (l:t.loc) (b o:Nat) (p:List Stp) (P:Pl),HoleAt h p→getPL t x l b o p=some P →
  (P.b=b∧o≤P.o∧P.o+P.u.size≤o+t.size)∨P.b∈blks own t h x l
 |t,hh,x,l,b,o,[],P,q,h=>by
  have e:P=⟨t,x,l,b,o⟩:=by unfold getPL at h;cases t<;>exact (Option.some.inj h).symm
  subst e
  exact .inl ⟨rfl,Nat.le_refl _,Nat.le_refl _⟩
 |.st t,hh,x,l,b,o,s::p,P,q,h=>PL_where t hh x l b o (s::p) P q h
 |.pair a c,hh,x,l,b,o,.fst::p,P,q,h=>by
  rcases PL_where (own:=own) a _ x.1 l.1 b o p P q.sub_fst.1 h with⟨h1,h2,h3⟩|h1
  ·exact .inl ⟨h1,h2,by simp only[Ty.size];omega⟩
  ·exact .inr (List.mem_append_left _ h1)
 |.pair a c,hh,x,l,b,o,.snd::p,P,q,h=>by
  rcases PL_where (own:=own) c _ x.2 l.2 b _ p P q.sub_snd.1 h with⟨h1,h2,h3⟩|h1
  ·exact .inl ⟨h1,by omega,by simp only[Ty.size];omega⟩
  ·exact .inr (List.mem_append_right _ h1)
 |.arr n t,hh,x,l,b,o,.idx i::p,P,q,h=>by
  unfold getPL at h
  split at h
  ·rename_i hi
   rcases PL_where (own:=own) t _ _ _ b _ p P q.sub_idx h with⟨h1,h2,h3⟩|h1
   ·have hle:i*t.size+t.size≤n*t.size:=by rw[←Nat.succ_mul];exact Nat.mul_le_mul_right _ hi
    exact .inl ⟨h1,by omega,by simp only[Ty.size];omega⟩
   ·exact .inr (List.mem_flatMap.2 ⟨i,List.mem_range.2 hi,h1⟩)
  ·cases h
 |.row _ t,hh,x,l,b,o,.idx i::p,P,q,h=>by
  unfold getPL at h
  split at h
  ·rename_i hi
   split at h
   ·rename_i a ha
    have hd:hdrBlk own l.1 (List.length x)=[a.block]:=by unfold hdrBlk;rw[ha];exact if_pos (.inr (by omega))
    have hl:¬lent hh=true:=by simp[q.not_lent]
    rcases PL_where (own:=own) t _ _ _ _ _ p P q.sub_idx h with⟨h1,h2,h3⟩|h1
    ·exact .inr (by simp only[blks,if_neg hl];exact List.mem_append_left _ (by rw[hd,h1];simp))
    ·exact .inr (by simp only[blks,if_neg hl];exact List.mem_append_right _ (List.mem_flatMap.2 ⟨i,List.mem_range.2 hi,h1⟩))
   ·cases h
  ·cases h
 |.int _,_,_,_,_,_,_::_,_,_,h=>by cases h
 |.bool,_,_,_,_,_,_::_,_,_,h=>by cases h
 |.str,_,_,_,_,_,_::_,_,_,h=>by cases h
 |.pair _ _,_,_,_,_,_,.idx _::_,_,_,h=>by cases h
 |.arr _ _,_,_,_,_,_,.fst::_,_,_,h=>by cases h
 |.arr _ _,_,_,_,_,_,.snd::_,_,_,h=>by cases h
 |.row _ _,_,_,_,_,_,.fst::_,_,_,h=>by cases h
 |.row _ _,_,_,_,_,_,.snd::_,_,_,h=>by cases h
theorem nodup_flatMap_ne{f:Nat→List Nat}:∀{n:Nat},((List.range n).flatMap f).Nodup→∀i j,i<n→j<n→i≠j→∀k,k∈f i→k∉f j
 |0,_,i,_,hi,_,_,_,_,_=>absurd hi (Nat.not_lt_zero _)
 |n+1,h,i,j,hi,hj,hne,k,hk,hk'=>by
  rw[List.range_succ,List.flatMap_append,List.nodup_append] at h
  obtain⟨h1,h2,h3⟩:=h
  simp only[List.flatMap_cons,List.flatMap_nil,List.append_nil] at h2 h3
  rcases Nat.lt_or_ge i n with a|a
  ·rcases Nat.lt_or_ge j n with c|c
   ·exact nodup_flatMap_ne h1 i j a c hne k hk hk'
   ·obtain rfl:j=n:=by omega
    exact h3 k (List.mem_flatMap.2 ⟨i,List.mem_range.2 a,hk⟩) k hk' rfl
  ·obtain rfl:i=n:=by omega
   rcases Nat.lt_or_ge j i with c|c
   ·exact h3 k (List.mem_flatMap.2 ⟨j,List.mem_range.2 c,hk'⟩) k hk rfl
   ·omega
theorem nodup_flatMap_one{f:Nat→List Nat}:∀{n:Nat},((List.range n).flatMap f).Nodup→∀i,i<n→(f i).Nodup
 |0,_,i,hi=>absurd hi (Nat.not_lt_zero _)
 |n+1,h,i,hi=>by
  rw[List.range_succ,List.flatMap_append,List.nodup_append] at h
  obtain⟨h1,h2,h3⟩:=h
  simp only[List.flatMap_cons,List.flatMap_nil,List.append_nil] at h2 h3
  rcases Nat.lt_or_ge i n with a|a
  ·exact nodup_flatMap_one h1 i a
  ·obtain rfl:i=n:=by omega
   exact h2
theorem flatMap_congr_range{α:Type}{f g:Nat→List α}:∀{n:Nat},(∀i,i<n→f i=g i)→(List.range n).flatMap f=(List.range n).flatMap g
 |0,_=>rfl
 |n+1,h=>by
  rw[List.range_succ,List.flatMap_append,List.flatMap_append,flatMap_congr_range (fun i hi=>h i (by omega))]
  simp[h n (by omega)]
theorem rangeAt_apart{w w':World}{b o:Nat}{cs:List Value}(h:w.rangeAt b o cs)(hc:∀j,j<cs.length→w'.cell? ⟨b,o+j,none⟩=w.cell? ⟨b,o+j,none⟩):w'.rangeAt b o cs:=fun j v hv=>by
 rw[hc j (List.getElem?_eq_some_iff.1 hv).1]
 exact h j v hv
structure Wrote(w w':World)(b o n:Nat):Prop where
 size:w'.heap.size=w.heap.size
 far:∀k,k≠b→w'.heap[k]? = w.heap[k]?
 out:∀j,j<o∨o+n≤j→w'.cell? ⟨b,j,none⟩=w.cell? ⟨b,j,none⟩
 row:∀cur e,w.heap[b]? = some (.cells cur e (0,0))→∃cur',w'.heap[b]? = some (.cells cur' e (0,0))∧cur'.size=cur.size
theorem Wrote.range{w w':World}{b o n b' o':Nat}{cs:List Value}(W:Wrote w w' b o n)(h:w.rangeAt b' o' cs)(ha:b'≠b∨o'+cs.length≤o∨o+n≤o'):w'.rangeAt b' o' cs:=by
 by_cases e:b'=b
 ·subst e
  refine rangeAt_apart h (fun j hj=>W.out _ ?_)
  rcases ha with ha|ha|ha
  ·exact absurd rfl ha
  ·left;omega
  ·right;omega
 ·exact rangeAt_block h (W.far b' e)
theorem Wrote.own{w w':World}{b o n:Nat}(W:Wrote w w' b o n){k m:Nat}(h:∃arr e,w.heap[k]? = some (.cells arr e (0,0))∧m≤arr.size):∃arr e,w'.heap[k]? = some (.cells arr e (0,0))∧m≤arr.size:=by
 obtain⟨arr,e,h1,h2⟩:=h
 by_cases q:k=b
 ·subst q
  obtain⟨c,h3,h4⟩:=W.row arr e h1
  exact⟨c,e,h3,by omega⟩
 ·exact⟨arr,e,(W.far k q).trans h1,h2⟩
theorem setP_length{t:Ty}{x x':List t.den}{i:Nat}{p:List Stp}{u:Ty}{y:u.den}(e:TypeId)(h:setP (.row e t) x (.idx i::p) u y=some x'):∃z,setP t (List.getD x i t.dflt) p u y=some z∧x'=List.set x i z:=by
 unfold setP at h
 split at h
 ·rename_i z hz
  exact⟨z,hz,(Option.some.inj h).symm⟩
 ·cases h
theorem getD_set_self{α:Type}{x:List α}{i:Nat}{z d:α}(h:i<x.length):(x.set i z).getD i d=z:=by simp[List.getD_eq_getElem?_getD,h]
theorem getD_set_ne{α:Type}{x:List α}{i j:Nat}{z d:α}(h:i≠j):(x.set i z).getD j d=x.getD j d:=by simp[List.getD_eq_getElem?_getD,List.getElem?_set_ne h]
def updF{α:Type}(f:Nat→α)(i:Nat)(z:α):Nat→α:=fun j=>if j=i then z else f j
def castL{u t:Ty}(h:u=t)(y:u.loc):t.loc:=h▸y
def setL:(t:Ty)→t.loc→List Stp→(u:Ty)→u.loc→Option t.loc
 |t,_,[],u,y=>if h:u=t then some (castL h y) else none
 |.st t,x,s::p,u,y=>setL t x (s::p) u y
 |.pair a _,x,.fst::p,u,y=>(setL a x.1 p u y).map fun z=>(z,x.2)
 |.pair _ b,x,.snd::p,u,y=>(setL b x.2 p u y).map fun z=>(x.1,z)
 |.arr _ t,x,.idx i::p,u,y=>(setL t (x i) p u y).map fun z=>updF x i z
 |.row _ t,x,.idx i::p,u,y=>(setL t (x.2 i) p u y).map fun z=>(x.1,updF x.2 i z)
 |_,_,_,_,_=>none
theorem cells_flatMap_upd{w':World}{b o:Nat}(t:Ty)(n i:Nat)(x:List t.den)(l:Nat→t.loc)(z:t.den)(lz:t.loc)(hi:i<n)(hx:i<x.length)
  (hz:w'.rangeAt b (o+i*t.size) (cells t z lz)) (ho:∀j,j<n→j≠i→w'.rangeAt b (o+j*t.size) (cells t (x.getD j t.dflt) (l j))):
  w'.rangeAt b o ((List.range n).flatMap fun j=>cells t ((x.set i z).getD j t.dflt) (updF l i lz j)):=by
 rw[rangeAt_flatMap _ _ (fun i=>cells_length t _ _) n]
 intro j hj
 by_cases e:j=i
 ·subst e
  simp only[updF,if_pos rfl,getD_set_self hx,↓reduceIte]
  exact hz
 ·simp only[updF,if_neg e,getD_set_ne (Ne.symm e)]
  exact ho j hj e
theorem PL_blks{own:Bool}:∀(t:Ty) (x:t.den) (l:t.loc) (b o:Nat) (p:List Stp) (P:Pl),getPL t x l b o p=some P→∀k,k∈blks own P.u none P.y P.l→k∈blks own t none x l
 |t,x,l,b,o,[],P,h,k,hk=>by
  have e:P=⟨t,x,l,b,o⟩:=by unfold getPL at h;cases t<;>exact (Option.some.inj h).symm
  subst e
  exact hk
 |.st t,x,l,b,o,s::p,P,h,k,hk=>PL_blks t x l b o (s::p) P h k hk
 |.pair a c,x,l,b,o,.fst::p,P,h,k,hk=>List.mem_append_left _ (PL_blks a x.1 l.1 b o p P h k hk)
 |.pair a c,x,l,b,o,.snd::p,P,h,k,hk=>List.mem_append_right _ (PL_blks c x.2 l.2 b _ p P h k hk)
 |.arr n t,x,l,b,o,.idx i::p,P,h,k,hk=>by
  unfold getPL at h
  split at h
  ·rename_i hi
   exact List.mem_flatMap.2 ⟨i,List.mem_range.2 hi,PL_blks t _ _ b _ p P h k hk⟩
  ·cases h
 |.row _ t,x,l,b,o,.idx i::p,P,h,k,hk=>by
  unfold getPL at h
  split at h
  ·rename_i hi
   split at h
   ·simp only[blks,lent,Bool.false_eq_true,if_false]
    exact List.mem_append_right _ (List.mem_flatMap.2 ⟨i,List.mem_range.2 hi,PL_blks t _ _ _ _ p P h k hk⟩)
   ·cases h
  ·cases h
 |.int _,_,_,_,_,_::_,_,h,_,_=>by cases h
 |.bool,_,_,_,_,_::_,_,h,_,_=>by cases h
 |.str,_,_,_,_,_::_,_,h,_,_=>by cases h
 |.pair _ _,_,_,_,_,.idx _::_,_,h,_,_=>by cases h
 |.arr _ _,_,_,_,_,.fst::_,_,h,_,_=>by cases h
 |.arr _ _,_,_,_,_,.snd::_,_,h,_,_=>by cases h
 |.row _ _,_,_,_,_,.fst::_,_,h,_,_=>by cases h
 |.row _ _,_,_,_,_,.snd::_,_,h,_,_=>by cases h
theorem nodup_flatMap_of{f:Nat→List Nat}:∀{n:Nat},(∀i,i<n→(f i).Nodup)→(∀i j,i<n→j<n→i≠j→∀k,k∈f i→k∉f j)→((List.range n).flatMap f).Nodup
 |0,_,_=>by simp
 |n+1,h1,h2=>by
  rw[List.range_succ,List.flatMap_append,List.nodup_append]
  refine⟨nodup_flatMap_of (fun i hi=>h1 i (by omega)) (fun i j hi hj=>h2 i j (by omega) (by omega)),by simpa using h1 n (by omega),fun a ha b hb e=>?_⟩
  subst e
  obtain⟨i,hi,hi'⟩:=List.mem_flatMap.1 ha
  have hi'':=List.mem_range.1 hi
  exact h2 i n (by omega) (by omega) (by omega) a hi' (by simpa using hb)
theorem run_put{w w':World}{own:Bool}{t:Ty}{n i:Nat}{hh:Option (List Stp)}{p:List Stp}{x:List t.den}{l:Nat→t.loc}{b o:Nat}{P:Pl}{y':P.u.den}{ly':P.u.loc}{z:t.den}{lz:t.loc}
  (q:HoleAt hh (.idx i::p)) (hi:i<n) (hx:x.length=n) (h:getPL t (x.getD i t.dflt) (l i) b (o+i*t.size) p=some P)
  (m:∀j,j<n→memH w own t (sub hh (.idx j)) (x.getD j t.dflt) (l j)) (r:w.rangeAt b o ((List.range n).flatMap fun j=>cells t (x.getD j t.dflt) (l j)))
  (nb:b∉(List.range n).flatMap fun j=>blks own t (sub hh (.idx j)) (x.getD j t.dflt) (l j)) (nd:((List.range n).flatMap fun j=>blks own t (sub hh (.idx j)) (x.getD j t.dflt) (l j)).Nodup)
  (W:Wrote w w' P.b P.o P.u.size)
  (hk:∀k,k∈blks own P.u none y' ly'→(k∈(List.range n).flatMap fun j=>blks own t (sub hh (.idx j)) (x.getD j t.dflt) (l j))→hh=none∧k∈blks own P.u none P.y P.l)
  (r1:w'.rangeAt b (o+i*t.size) (cells t z lz)) (m1:memH w' own t none z lz) (n1:(b::blks own t none z lz).Nodup)
  (k1:∀k,k∈blks own t none z lz→k∈blks own P.u none y' ly'∨k∈blks own t (sub hh (.idx i)) (x.getD i t.dflt) (l i)):
  w'.rangeAt b o ((List.range n).flatMap fun j=>cells t ((x.set i z).getD j t.dflt) (updF l i lz j)) ∧
  (∀j,j<n→memH w' own t none ((x.set i z).getD j t.dflt) (updF l i lz j)) ∧
  b∉((List.range n).flatMap fun j=>blks own t none ((x.set i z).getD j t.dflt) (updF l i lz j)) ∧
  ((List.range n).flatMap fun j=>blks own t none ((x.set i z).getD j t.dflt) (updF l i lz j)).Nodup ∧
  ∀k,k∈((List.range n).flatMap fun j=>blks own t none ((x.set i z).getD j t.dflt) (updF l i lz j))→k∈blks own P.u none y' ly'∨k∈(List.range n).flatMap fun j=>blks own t (sub hh (.idx j)) (x.getD j t.dflt) (l j):=by
 have hix:i<x.length:=by omega
 have hw:=PL_where (own:=own) t _ _ _ b _ p P q.sub_idx h
 have hmem:∀{j k},j<n→k∈blks own t (sub hh (.idx j)) (x.getD j t.dflt) (l j)→k∈(List.range n).flatMap fun j=>blks own t (sub hh (.idx j)) (x.getD j t.dflt) (l j):=fun hj hk=>List.mem_flatMap.2 ⟨_,List.mem_range.2 hj,hk⟩
 have hel:∀j,((if j=i then z else x.getD j t.dflt)=(x.set i z).getD j t.dflt):=fun j=>by
  by_cases e:j=i
  ·subst e;rw[if_pos rfl,getD_set_self hix]
  ·rw[if_neg e,getD_set_ne (Ne.symm e)]
 have hbl:∀j,blks own t none ((x.set i z).getD j t.dflt) (updF l i lz j)=if j=i then blks own t none z lz else blks own t none (x.getD j t.dflt) (l j):=fun j=>by
  by_cases e:j=i
  ·subst e;simp only[updF,if_pos rfl,getD_set_self hix,↓reduceIte]
  ·simp only[updF,if_neg e,getD_set_ne (Ne.symm e)]
 have hne:∀j,j<n→j≠i→∀k,k∈blks own t none z lz→k∉blks own t none (x.getD j t.dflt) (l j):=by
  intro j hj e k hk1 hk2
  have hk2':k∈blks own t (sub hh (.idx j)) (x.getD j t.dflt) (l j):=by rw[q.sub_ne (Ne.symm e)];exact hk2
  rcases k1 k hk1 with h4|h4
  ·obtain⟨e1,h5⟩:=hk k h4 (hmem hj hk2')
   subst e1
   exact nodup_flatMap_ne nd i j hi hj (Ne.symm e) k (PL_blks t _ _ b _ p P h k h5) hk2'
  ·exact nodup_flatMap_ne nd i j hi hj (Ne.symm e) k h4 hk2'
 refine⟨cells_flatMap_upd t n i x l z lz hi hix r1 (fun j hj e=>?_),fun j hj=>?_,?_,?_,?_⟩
 ·refine W.range ((rangeAt_flatMap _ _ (fun i=>cells_length t _ _) n).1 r j hj) ?_
  rcases hw with⟨h1,h2,h3⟩|h1
  ·right
   rw[cells_length]
   rcases Nat.lt_or_gt_of_ne e with c|c
   ·left
    have:j*t.size+t.size≤i*t.size:=by rw[←Nat.succ_mul];exact Nat.mul_le_mul_right _ c
    omega
   ·right
    have:i*t.size+t.size≤j*t.size:=by rw[←Nat.succ_mul];exact Nat.mul_le_mul_right _ c
    omega
  ·left;intro e2;exact nb (by rw[e2];exact hmem hi h1)
 ·by_cases e:j=i
  ·subst e;simp only[updF,if_pos rfl,getD_set_self hix,↓reduceIte];exact m1
  ·simp only[updF,if_neg e,getD_set_ne (Ne.symm e)]
   have m2:=m j hj
   rw[q.sub_ne (Ne.symm e)] at m2
   refine memH_frame (Nat.le_of_eq W.size.symm) t none _ _ m2 (fun k hk'=>W.far k (fun e2=>?_))
   have hk2:k∈blks own t (sub hh (.idx j)) (x.getD j t.dflt) (l j):=by rw[q.sub_ne (Ne.symm e)];exact hk'
   subst e2
   rcases hw with⟨h1,_,_⟩|h1
   ·exact nb (h1▸hmem hj hk2)
   ·exact nodup_flatMap_ne nd i j hi hj (Ne.symm e) _ h1 hk2
 ·intro hb
  obtain⟨j,hj,hj'⟩:=List.mem_flatMap.1 hb
  have hj:=List.mem_range.1 hj
  rw[hbl j] at hj'
  split at hj'
  ·exact (List.nodup_cons.1 n1).1 hj'
  ·rename_i e
   exact nb (hmem hj (by rw[q.sub_ne (Ne.symm e)];exact hj'))
 ·refine nodup_flatMap_of (fun j hj=>?_) (fun j j2 hj hj2 e k hk1 hk2=>?_)
  ·rw[hbl j]
   split
   ·exact (List.nodup_cons.1 n1).2
   ·rename_i e
    have:=nodup_flatMap_one nd j hj
    rw[q.sub_ne (Ne.symm e)] at this
    exact this
  ·rw[hbl j] at hk1
   rw[hbl j2] at hk2
   split at hk1
   ·rename_i e1
    subst e1
    rw[if_neg (Ne.symm e)] at hk2
    exact hne j2 hj2 (Ne.symm e) k hk1 hk2
   ·rename_i e1
    split at hk2
    ·rename_i e2
     exact hne j hj e1 k hk2 hk1
    ·rename_i e2
     refine nodup_flatMap_ne nd j j2 hj hj2 e k ?_ ?_
     ·rw[q.sub_ne (Ne.symm e1)];exact hk1
     ·rw[q.sub_ne (Ne.symm e2)];exact hk2
 ·intro k hk'
  obtain⟨j,hj,hj'⟩:=List.mem_flatMap.1 hk'
  have hj:=List.mem_range.1 hj
  rw[hbl j] at hj'
  split at hj'
  ·rename_i e
   rcases k1 k hj' with h4|h4
   ·exact .inl h4
   ·exact .inr (hmem hi h4)
  ·rename_i e
   exact .inr (hmem hj (by rw[q.sub_ne (Ne.symm e)];exact hj'))
theorem PL_put{w w':World}{own:Bool}:∀(t:Ty) (hh:Option (List Stp)) (x:t.den) (l:t.loc) (b o:Nat) (p:List Stp) (P:Pl) (y':P.u.den) (ly':P.u.loc) (x':t.den),
  HoleAt hh p→getPL t x l b o p=some P→setP t x p P.u y'=some x'→memH w own t hh x l→w.rangeAt b o (cells t x l)→(b::blks own t hh x l).Nodup →
  Wrote w w' P.b P.o P.u.size→w'.rangeAt P.b P.o (cells P.u y' ly')→memH w' own P.u none y' ly'→(blks own P.u none y' ly').Nodup →
  (∀k,k∈blks own P.u none y' ly'→k≠b∧(k∈blks own t hh x l→hh=none∧k∈blks own P.u none P.y P.l)) →
  ∃l',setL t l p P.u ly'=some l'∧w'.rangeAt b o (cells t x' l')∧memH w' own t none x' l'∧(b::blks own t none x' l').Nodup ∧
   ∀k,k∈blks own t none x' l'→k∈blks own P.u none y' ly'∨k∈blks own t hh x l
 |t,hh,x,l,b,o,[],P,y',ly',x',q,h,hs,m,r,nd,W,r',m',nd',hk=>by
  have e:P=⟨t,x,l,b,o⟩:=by unfold getPL at h;cases t<;>exact (Option.some.inj h).symm
  subst e
  have e2:y'=x':=by unfold setP at hs;cases t<;>simpa[castD] using hs
  subst e2
  refine⟨ly',by unfold setL;cases t<;>simp[castL],r',m',List.nodup_cons.2 ⟨fun hb=>(hk b hb).1 rfl,nd'⟩,fun k hk'=>.inl hk'⟩
 |.st t,hh,x,l,b,o,s::p,P,y',ly',x',q,h,hs,m,r,nd,W,r',m',nd',hk=>PL_put t hh x l b o (s::p) P y' ly' x' q h hs m r nd W r' m' nd' hk
 |.pair a c,hh,x,l,b,o,.fst::p,P,y',ly',x',q,h,hs,m,r,nd,W,r',m',nd',hk=>by
  unfold setP at hs
  split at hs
  ·rename_i z hz
   obtain rfl:=Option.some.inj hs
   simp only[blks,List.nodup_cons,List.mem_append,List.nodup_append,not_or] at nd
   obtain⟨⟨nb1,nb2⟩,nd1,nd2,nd3⟩:=nd
   have hw:=PL_where (own:=own) a _ x.1 l.1 b o p P q.sub_fst.1 h
   have hsn:sub hh .snd=none:=q.sub_fst.2
   have hk0:∀k,k∈blks own P.u none y' ly'→k∈blks own c (sub hh .snd) x.2 l.2→False:=fun k hk1 hk2=>by
    obtain⟨e1,h5⟩:=(hk k hk1).2 (List.mem_append_right _ hk2)
    subst e1
    exact nd3 k (PL_blks a _ _ b _ p P h k h5) k hk2 rfl
   obtain⟨l',e1,r1,m1,n1,k1⟩:=PL_put a _ x.1 l.1 b o p P y' ly' z q.sub_fst.1 h hz m.1 (rangeAt_append.1 r).1 (List.nodup_cons.2 ⟨nb1,nd1⟩) W r' m' nd'
    (fun k hk'=>⟨(hk k hk').1,fun hin=>by
     obtain⟨e1,h5⟩:=(hk k hk').2 (List.mem_append_left _ hin)
     exact⟨by rw[e1];rfl,h5⟩⟩)
   refine⟨(l',l.2),by unfold setL;rw[e1];rfl,rangeAt_append.2 ⟨r1,?_⟩,⟨m1,?_⟩,?_,?_⟩
   ·refine W.range (by have:=(rangeAt_append.1 r).2;rwa[cells_length] at this ⊢) ?_
    rcases hw with⟨h1,h2,h3⟩|h1
    ·right;right;simp only[cells_length];omega
    ·left;intro e;exact nb1 (e▸h1)
   ·have m2:=m.2
    rw[hsn] at m2 nb2 nd3
    refine memH_frame (Nat.le_of_eq W.size.symm) c none x.2 l.2 m2 (fun k hk'=>W.far k (fun e=>?_))
    subst e
    rcases hw with⟨h1,_,_⟩|h1
    ·exact nb2 (h1▸hk')
    ·exact nd3 _ h1 _ hk' rfl
   ·rw[hsn] at nb2 nd2 nd3 hk0
    simp only[blks,List.nodup_cons,List.mem_append,List.nodup_append,not_or,sub]
    refine⟨⟨(List.nodup_cons.1 n1).1,nb2⟩,(List.nodup_cons.1 n1).2,nd2,fun k hk1 k2 hk2 e=>?_⟩
    subst e
    rcases k1 k hk1 with hk3|hk3
    ·exact hk0 k hk3 hk2
    ·exact nd3 k hk3 k hk2 rfl
   ·intro k hk'
    simp only[blks,List.mem_append,sub] at hk'
    rcases hk' with hk'|hk'
    ·rcases k1 k hk' with h4|h4
     ·exact .inl h4
     ·exact .inr (List.mem_append_left _ h4)
    ·exact .inr (List.mem_append_right _ (by rw[hsn];exact hk'))
  ·cases hs
 |.pair a c,hh,x,l,b,o,.snd::p,P,y',ly',x',q,h,hs,m,r,nd,W,r',m',nd',hk=>by
  unfold setP at hs
  split at hs
  ·rename_i z hz
   obtain rfl:=Option.some.inj hs
   simp only[blks,List.nodup_cons,List.mem_append,List.nodup_append,not_or] at nd
   obtain⟨⟨nb1,nb2⟩,nd1,nd2,nd3⟩:=nd
   have hw:=PL_where (own:=own) c _ x.2 l.2 b _ p P q.sub_snd.1 h
   have hsn:sub hh .fst=none:=q.sub_snd.2
   have hk0:∀k,k∈blks own P.u none y' ly'→k∈blks own a (sub hh .fst) x.1 l.1→False:=fun k hk1 hk2=>by
    obtain⟨e1,h5⟩:=(hk k hk1).2 (List.mem_append_left _ hk2)
    subst e1
    exact nd3 k hk2 k (PL_blks c _ _ b _ p P h k h5) rfl
   have r2:=(rangeAt_append.1 r).2
   rw[cells_length] at r2
   obtain⟨l',e1,r1,m1,n1,k1⟩:=PL_put c _ x.2 l.2 b _ p P y' ly' z q.sub_snd.1 h hz m.2 r2 (List.nodup_cons.2 ⟨nb2,nd2⟩) W r' m' nd'
    (fun k hk'=>⟨(hk k hk').1,fun hin=>by
     obtain⟨e1,h5⟩:=(hk k hk').2 (List.mem_append_right _ hin)
     exact⟨by rw[e1];rfl,h5⟩⟩)
   refine⟨(l.1,l'),by unfold setL;rw[e1];rfl,rangeAt_append.2 ⟨?_,by rw[cells_length];exact r1⟩,⟨?_,m1⟩,?_,?_⟩
   ·refine W.range (rangeAt_append.1 r).1 ?_
    rcases hw with⟨h1,h2,h3⟩|h1
    ·right;left;simp only[cells_length];omega
    ·left;intro e;exact nb2 (e▸h1)
   ·have m2:=m.1
    rw[hsn] at m2 nb1 nd3
    refine memH_frame (Nat.le_of_eq W.size.symm) a none x.1 l.1 m2 (fun k hk'=>W.far k (fun e=>?_))
    subst e
    rcases hw with⟨h1,_,_⟩|h1
    ·exact nb1 (h1▸hk')
    ·exact nd3 _ hk' _ h1 rfl
   ·rw[hsn] at nb1 nd1 nd3 hk0
    simp only[blks,List.nodup_cons,List.mem_append,List.nodup_append,not_or,sub]
    refine⟨⟨nb1,(List.nodup_cons.1 n1).1⟩,nd1,(List.nodup_cons.1 n1).2,fun k hk1 k2 hk2 e=>?_⟩
    subst e
    rcases k1 k hk2 with hk3|hk3
    ·exact hk0 k hk3 hk1
    ·exact nd3 k hk1 k hk3 rfl
   ·intro k hk'
    simp only[blks,List.mem_append,sub] at hk'
    rcases hk' with hk'|hk'
    ·exact .inr (List.mem_append_left _ (by rw[hsn];exact hk'))
    ·rcases k1 k hk' with h4|h4
     ·exact .inl h4
     ·exact .inr (List.mem_append_right _ h4)
  ·cases hs
 |.arr n t,hh,x,l,b,o,.idx i::p,P,y',ly',x',q,h,hs,m,r,nd,W,r',m',nd',hk=>by
  unfold setP at hs
  split at hs
  ·rename_i z hz
   obtain rfl:=Option.some.inj hs
   unfold getPL at h
   split at h
   ·rename_i hi
    have nb:=(List.nodup_cons.1 nd).1
    have nd:=(List.nodup_cons.1 nd).2
    simp only[blks] at nb nd hk
    have nbi:b∉blks own t (sub hh (.idx i)) (List.getD x i t.dflt) (l i):=fun hb=>nb (List.mem_flatMap.2 ⟨i,List.mem_range.2 hi,hb⟩)
    obtain⟨lz,e1,r1,m1,n1,k1⟩:=PL_put t _ (List.getD x i t.dflt) (l i) b _ p P y' ly' z q.sub_idx h hz (m.2 i hi) ((rangeAt_flatMap _ _ (fun i=>cells_length t _ _) n).1 r i hi)
     (List.nodup_cons.2 ⟨nbi,nodup_flatMap_one nd i hi⟩) W r' m' nd'
     (fun k hk'=>⟨(hk k hk').1,fun hin=>by
      obtain⟨e1,h5⟩:=(hk k hk').2 (List.mem_flatMap.2 ⟨i,List.mem_range.2 hi,hin⟩)
      exact⟨by rw[e1];rfl,h5⟩⟩)
    obtain⟨g1,g2,g3,g4,g5⟩:=run_put q hi m.1 h m.2 r nb nd W (fun k hk1 hk2=>(hk k hk1).2 hk2) r1 m1 n1 k1
    exact⟨updF l i lz,by unfold setL;rw[e1];rfl,g1,⟨by rw[List.length_set];exact m.1,g2⟩,List.nodup_cons.2 ⟨g3,g4⟩,g5⟩
   ·cases h
  ·cases hs
 |.row e t,hh,x,l,b,o,.idx i::p,P,y',ly',x',q,h,hs,m,r,nd,W,r',m',nd',hk=>by
  unfold setP at hs
  split at hs
  ·rename_i z hz
   obtain rfl:=Option.some.inj hs
   unfold getPL at h
   split at h
   ·rename_i hi
    split at h
    ·rename_i a ha
     have hl:¬lent hh=true:=by simp[q.not_lent]
     have m:=m.resolve_left hl
     obtain⟨b',o',e',hlt,hr⟩:=m.1.at_ (by omega)
     rw[ha] at e'
     obtain rfl:=Option.some.inj e'
     have hd:hdrBlk own l.1 (List.length x)=[b']:=by unfold hdrBlk;rw[ha];exact if_pos (.inr (by omega))
     simp only[blks,if_neg hl,hd] at nd hk
     simp only[List.nodup_cons,List.mem_append,List.mem_singleton,not_or,List.nodup_append,List.nodup_nil,List.not_mem_nil,not_false_eq_true,true_and] at nd
     obtain⟨⟨nb0,nb⟩,nd1,nd2⟩:=nd
     have nb':b'∉(List.range (List.length x)).flatMap fun j=>blks own t (sub hh (.idx j)) (List.getD x j t.dflt) (l.2 j):=fun hb=>nd2 b' (by simp) b' hb rfl
     have nbi:b'∉blks own t (sub hh (.idx i)) (List.getD x i t.dflt) (l.2 i):=fun hb=>nb' (List.mem_flatMap.2 ⟨i,List.mem_range.2 hi,hb⟩)
     have hw:=PL_where (own:=own) t _ _ _ _ _ p P q.sub_idx h
     have hPb:P.b≠b:=fun e2=>by
      rcases hw with⟨h1,_,_⟩|h1
      ·exact nb0 (e2▸h1)
      ·exact nb (e2▸List.mem_flatMap.2 ⟨i,List.mem_range.2 hi,h1⟩)
     have hk':∀k,k∈blks own P.u none y' ly'→k≠b':=fun k hk1 e2=>by
      subst e2
      obtain⟨e3,h5⟩:=(hk k hk1).2 (by simp)
      subst e3
      exact nbi (PL_blks t _ _ _ _ p P h k h5)
     obtain⟨lz,e1,r1,m1,n1,k1⟩:=PL_put t _ (List.getD x i t.dflt) (l.2 i) b' _ p P y' ly' z q.sub_idx h hz (m.2 i hi) ((rangeAt_flatMap _ _ (fun i=>cells_length t _ _) _).1 hr i hi)
      (List.nodup_cons.2 ⟨nbi,nodup_flatMap_one nd1 i hi⟩) W r' m' nd'
      (fun k hk1=>⟨hk' k hk1,fun hin=>by
       obtain⟨e1,h5⟩:=(hk k hk1).2 (List.mem_append_right _ (List.mem_flatMap.2 ⟨i,List.mem_range.2 hi,hin⟩))
       exact⟨by rw[e1];rfl,h5⟩⟩)
     obtain⟨g1,g2,g3,g4,g5⟩:=run_put q hi rfl h m.2 hr nb' nd1 W (fun k hk1 hk2=>(hk k hk1).2 (List.mem_append_right _ hk2)) r1 m1 n1 k1
     have hlen:List.length (List.set x i z)=List.length x:=List.length_set
     refine⟨(l.1,updF l.2 i lz),by unfold setL;rw[e1];rfl,?_,?_,?_,?_⟩
     ·simp only[cells,hlen]
      exact W.range r (.inl (Ne.symm hPb))
     ·refine .inr ⟨⟨by rw[hlen];exact m.1.le,fun _=>⟨b',o',ha,by rw[W.size];exact hlt,by simp only[rowCells,hlen];exact g1⟩,fun ho hc=>?_⟩,fun j hj=>by rw[hlen] at hj;exact g2 j hj⟩
      obtain⟨b2,o2,arr,e2,h6,h7,h8⟩:=m.1.own ho hc
      obtain⟨arr',e3,h9,h10⟩:=W.own ⟨arr,e2,h7,h8⟩
      exact⟨b2,o2,arr',e3,h6,h9,h10⟩
     ·simp only[blks,lent,Bool.false_eq_true,if_false,hlen,hd]
      simp only[List.nodup_cons,List.mem_append,List.mem_singleton,not_or,List.nodup_append,List.nodup_nil,List.not_mem_nil,not_false_eq_true,true_and]
      refine⟨⟨nb0,fun hb=>?_⟩,g4,fun k hk1 k2 hk2 e2=>?_⟩
      ·rcases g5 b hb with h4|h4
       ·exact (hk b h4).1 rfl
       ·exact nb h4
      ·subst hk1
       subst e2
       exact g3 hk2
     ·intro k hk1
      simp only[blks,lent,Bool.false_eq_true,if_false,hlen,hd] at hk1
      simp only[blks,if_neg hl,hd]
      rcases List.mem_append.1 hk1 with h4|h4
      ·exact .inr (List.mem_append_left _ h4)
      ·rcases g5 k h4 with h5|h5
       ·exact .inl h5
       ·exact .inr (List.mem_append_right _ h5)
    ·cases h
   ·cases h
  ·cases hs
 |.int _,_,_,_,_,_,_::_,_,_,_,_,_,h,_,_,_,_,_,_,_,_,_=>by cases h
 |.bool,_,_,_,_,_,_::_,_,_,_,_,_,h,_,_,_,_,_,_,_,_,_=>by cases h
 |.str,_,_,_,_,_,_::_,_,_,_,_,_,h,_,_,_,_,_,_,_,_,_=>by cases h
 |.pair _ _,_,_,_,_,_,.idx _::_,_,_,_,_,_,h,_,_,_,_,_,_,_,_,_=>by cases h
 |.arr _ _,_,_,_,_,_,.fst::_,_,_,_,_,_,h,_,_,_,_,_,_,_,_,_=>by cases h
 |.arr _ _,_,_,_,_,_,.snd::_,_,_,_,_,_,h,_,_,_,_,_,_,_,_,_=>by cases h
 |.row _ _,_,_,_,_,_,.fst::_,_,_,_,_,_,h,_,_,_,_,_,_,_,_,_=>by cases h
 |.row _ _,_,_,_,_,_,.snd::_,_,_,_,_,_,h,_,_,_,_,_,_,_,_,_=>by cases h
end Go.Proofs.Ytlipfbihlmlplaa.G
namespace Go.Proofs.Ytlipfbihlmlplaa.G
open Go Go.RowKit
set_option linter.unusedVariables false
set_option linter.unusedSimpArgs false
def okV:(t:Ty)→t.den→Prop
 |.int _,_=>True
 |.bool,_=>True
 |.str,_=>True
 |.pair a b,x=>okV a x.1∧okV b x.2
 |.st t,x=>okV t x
 |.arr n t,x=>List.length x=n∧∀i,i<n→okV t (List.getD x i t.dflt)
 |.row _ _,_=>True
def encV(t:Ty)(x:t.den):List Value:=cells t x t.dloc
def toV(t:Ty)(x:t.den):Value:=if t.isAgg then .agg (encV t x).toArray else (encV t x).headD undef
theorem cells_flat:∀(t:Ty),t.flat=true→∀(x:t.den) (l l':t.loc),cells t x l=cells t x l'
 |.int _,_,_,_,_=>rfl
 |.bool,_,_,_,_=>rfl
 |.str,_,_,_,_=>rfl
 |.pair a b,h,x,l,l'=>by
  simp only[Ty.flat,Bool.and_eq_true] at h
  simp only[cells,cells_flat a h.1 x.1 l.1 l'.1,cells_flat b h.2 x.2 l.2 l'.2]
 |.st t,h,x,l,l'=>cells_flat t h x l l'
 |.arr n t,h,x,l,l'=>flatMap_congr_range (fun i _=>cells_flat t h _ _ _)
 |.row _ _,h,_,_,_=>by cases h
theorem cells_enc{t:Ty}(h:t.flat=true)(x:t.den)(l:t.loc):cells t x l=encV t x:=cells_flat t h x l _
theorem memH_of_ok{w:World}{own:Bool}:∀(t:Ty),t.flat=true→∀(h:Option (List Stp)) (x:t.den) (l:t.loc),okV t x→memH w own t h x l
 |.int _,_,_,_,_,_=>trivial
 |.bool,_,_,_,_,_=>trivial
 |.str,_,_,_,_,_=>trivial
 |.pair a b,h,hh,x,l,o=>by
  simp only[Ty.flat,Bool.and_eq_true] at h
  exact⟨memH_of_ok a h.1 _ _ _ o.1,memH_of_ok b h.2 _ _ _ o.2⟩
 |.st t,h,hh,x,l,o=>memH_of_ok t h hh x l o
 |.arr n t,h,hh,x,l,o=>⟨o.1,fun i hi=>memH_of_ok t h _ _ _ (o.2 i hi)⟩
 |.row _ _,h,_,_,_,_=>by cases h
theorem ok_of_memH{w:World}{own:Bool}:∀(t:Ty),t.flat=true→∀(h:Option (List Stp)) (x:t.den) (l:t.loc),memH w own t h x l→okV t x
 |.int _,_,_,_,_,_=>trivial
 |.bool,_,_,_,_,_=>trivial
 |.str,_,_,_,_,_=>trivial
 |.pair a b,h,hh,x,l,o=>by
  simp only[Ty.flat,Bool.and_eq_true] at h
  exact⟨ok_of_memH a h.1 _ _ _ o.1,ok_of_memH b h.2 _ _ _ o.2⟩
 |.st t,h,hh,x,l,o=>ok_of_memH t h hh x l o
 |.arr n t,h,hh,x,l,o=>⟨o.1,fun i hi=>ok_of_memH t h _ _ _ (o.2 i hi)⟩
 |.row _ _,h,_,_,_,_=>by cases h
theorem blks_flat{own:Bool}:∀(t:Ty),t.flat=true→∀(h:Option (List Stp)) (x:t.den) (l:t.loc),blks own t h x l=[]
 |.int _,_,_,_,_=>rfl
 |.bool,_,_,_,_=>rfl
 |.str,_,_,_,_=>rfl
 |.pair a b,h,hh,x,l=>by
  simp only[Ty.flat,Bool.and_eq_true] at h
  simp only[blks,blks_flat a h.1,blks_flat b h.2,List.append_nil]
 |.st t,h,hh,x,l=>blks_flat t h hh x l
 |.arr n t,h,hh,x,l=>by
  simp only[blks]
  rw[List.flatMap_eq_nil_iff]
  intro i _
  exact blks_flat t h _ _ _
 |.row _ _,h,_,_,_=>by cases h
theorem dflt_ok:∀(t:Ty),okV t t.dflt
 |.int _=>trivial
 |.bool=>trivial
 |.str=>trivial
 |.pair a b=>⟨dflt_ok a,dflt_ok b⟩
 |.st t=>dflt_ok t
 |.arr n t=>⟨by simp[Ty.dflt],fun i hi=>by
  have e:List.getD (Ty.arr n t).dflt i t.dflt=t.dflt:=by simp[Ty.dflt,List.getD_eq_getElem?_getD,List.getElem?_replicate,hi]
  rw[e];exact dflt_ok t⟩
 |.row _ _=>trivial
theorem getD_dflt{t:Ty}{n i:Nat}:(List.replicate n t.dflt).getD i t.dflt=t.dflt:=by
 rcases Nat.lt_or_ge i n with h|h
 ·simp[List.getD_eq_getElem?_getD,List.getElem?_replicate,h]
 ·simp[List.getD_eq_getElem?_getD,List.getElem?_replicate,Nat.not_lt.2 h]
structure Gh where
 G:Nat→(t:Ty)→Hdr×(Nat→t.loc)
 B:Nat→Nat×Nat
def rootPL(g:Gh)(n:Nat)(d:Dat)(p:List Stp):Option Pl:=getPL (.row d.e d.t) d.l (g.G n d.t) 0 0 p
def hdrP(P:Pl):Option (Nat×Hdr×Nat):=match P with
 |⟨.row _ u,y,l,_,_⟩=>some (u.size,l.1,List.length y)
 |⟨.arr m u,_,_,b,o⟩=>some (u.size,⟨some ⟨b,o,none⟩,m⟩,m)
 |_=>none
theorem Win.len_eq{α:Type}(w:Win)(l:List α):w.len l=w.lenN l.length:=by cases w<;>rfl
def SlV(own:Bool)(sz:Nat)(h:Hdr)(tot:Nat)(w:Win)(v:Value):Prop:=
 ∃A c,v = .slice A (w.lenN tot) c∧w.off+w.lenN tot≤tot∧w.lenN tot≤c∧(0<w.lenN tot→∃b o,h.A=some ⟨b,o,none⟩∧A=some ⟨b,o+w.off*sz,none⟩) ∧
  (own=true→w.off+c≤h.cap∧(0<c→∃b o,h.A=some ⟨b,o,none⟩∧A=some ⟨b,o+w.off*sz,none⟩))
def ncross(d:Dat):List Stp→Prop
 |.idx _::q=>crosses d.t q=false
 |_=>False
def SlRel(objs:List (Option Ob))(g:Gh)(n:Nat)(p:List Stp)(w:Win)(v:Value):Prop:=
 ∃d P sz h tot,datAt objs n=some d∧(d.hole≠none→p=[])∧rootPL g n d p=some P∧hdrP P=some (sz,h,tot)∧SlV d.wr sz h tot w v
def PtrRel(objs:List (Option Ob))(g:Gh)(n:Nat)(p:List Stp)(c:Bool)(v:Value):Prop:=
 (∃d P,datAt objs n=some d∧rootPL g n d p=some P∧p≠[]∧v = .pointer (some ⟨P.b,P.o,none⟩)∧(c=false→ncross d p)) ∨
 (∃e k w,obAt objs n=some (.bx e k w)∧p=[.idx 0]∧v = .pointer (some ⟨(g.B n).1,(g.B n).2,none⟩))
def TRel(objs:List (Option Ob))(g:Gh):TV→Value→Prop
 |.val t x,v=>t.flat=true∧okV t x∧v=toV t x
 |.sl n p w,v=>SlRel objs g n p w v
 |.nil,v=>v = .slice none 0 0
def All2{α β:Type}(r:α→β→Prop)(l:List α)(k:List β):Prop:=l.length=k.length∧∀(i:Nat) (x:α) (y:β),l[i]? = some x→k[i]? = some y→r x y
def SRel(objs:List (Option Ob))(g:Gh):SV→Value→Prop
 |.val t x,v=>t.flat=true∧okV t x∧v=toV t x
 |.sl n p w,v=>SlRel objs g n p w v
 |.ptr n p c,v=>PtrRel objs g n p c v
 |.fn f caps,v=>∃vs:List Value,v = .func (.func f) #[] vs.toArray∧All2 (fun (c:Nat×List Stp) u=>PtrRel objs g c.1 c.2 false u) caps vs
 |.tup l,v=>∃vs:List Value,v = .tuple vs.toArray∧All2 (TRel objs g) l vs
 |.nil,v=>v = .slice none 0 0
 |.unk,v=>∃b,v = .bool b
 |.dead,_=>True
def blksD(g:Gh)(n:Nat)(d:Dat):List Nat:=blks d.wr (.row d.e d.t) d.hole d.l (g.G n d.t)
def blksO(g:Gh)(n:Nat):Ob→List Nat
 |.dat d=>blksD g n d
 |.bx _ _ _=>[(g.B n).1]
structure Fr(MB:List Nat)(w w':World):Prop where
 os:w'.os=w.os
 tape:TD w' w
 output:w'.output=w.output
 size:w.heap.size≤w'.heap.size
 block:∀k,k<w.heap.size→k∉MB→w'.heap[k]? = w.heap[k]?
theorem Fr.refl(MB:List Nat)(w:World):Fr MB w w:=⟨rfl,TD.refl _,rfl,Nat.le_refl _,fun _ _ _=>rfl⟩
theorem Fr.trans{MB:List Nat}{a b c:World}(h:Fr MB a b)(k:Fr MB b c):Fr MB a c:=
 ⟨k.os.trans h.os,k.tape.trans h.tape,k.output.trans h.output,Nat.le_trans h.size k.size,fun i hi hm=>(k.block i (Nat.lt_of_lt_of_le hi h.size) hm).trans (h.block i hi hm)⟩
def GV:List (Nat×(Array Value→Prop)):=[]
def GI(w:World):Prop:=∀x,x∈GV→∃cs t fr,w.heap[x.1]? = some (.cells cs t fr)∧x.2 cs
def GO(w:World)(B:List Nat):Prop:=GI w∧∀x,x∈GV→x.1<w.heap.size∧x.1∉B
theorem GO.to{w0 w:World}{B B':List Nat}(h:GO w0 B)(f:Fr B w0 w)(hB:∀b,b∈B'→b∈B∨w0.heap.size≤b):GO w B':=
 ⟨fun x hx=>by
  obtain⟨cs,t,fr,h1,h2⟩:=h.1 x hx
  obtain⟨h3,h4⟩:=h.2 x hx
  exact⟨cs,t,fr,(f.block x.1 h3 h4).trans h1,h2⟩,
  fun x hx=>by
  obtain⟨h3,h4⟩:=h.2 x hx
  refine⟨Nat.lt_of_lt_of_le h3 f.size,fun q=>?_⟩
  rcases hB x.1 q with q|q
  ·exact h4 q
  ·exact absurd h3 (Nat.not_lt.2 q)⟩
theorem go0(h:GV=[])(w:World)(B:List Nat):GO w B:=⟨fun b hb=>by rw[h] at hb;(cases hb),fun b hb=>by rw[h] at hb;(cases hb)⟩
structure Pin where
 n:Nat
 e:TypeId
 t:Ty
 wr:Bool
 H:Hdr
 len:Nat
structure Out where
 b:List Nat
 pins:List Pin
def Pinned(objs:List (Option Ob))(g:Gh)(q:Pin):Prop:=∃d,datAt objs q.n=some d∧d.e=q.e∧d.t=q.t∧d.wr=q.wr∧d.fresh=false∧List.length d.l=q.len∧(g.G q.n q.t).1=q.H
def PinKept(objs objs':List (Option Ob))(g g':Gh):Prop:=∀n d,datAt objs n=some d→d.fresh=false→∃d',datAt objs' n=some d'∧d'.e=d.e∧d'.t=d.t∧d'.wr=d.wr∧d'.fresh=false∧List.length d'.l=List.length d.l∧(g'.G n d.t).1=(g.G n d.t).1
theorem Pinned.keep{objs objs':List (Option Ob)}{g g':Gh}{q:Pin}(h:Pinned objs g q)(k:PinKept objs objs' g g'):Pinned objs' g' q:=by
 obtain⟨d,h1,h2,h3,h4,h5,h6,h7⟩:=h
 obtain⟨d',k1,k2,k3,k4,k5,k6,k7⟩:=k q.n d h1 h5
 refine⟨d',k1,k2.trans h2,k3.trans h3,k4.trans h4,k5,k6.trans h6,?_⟩
 rw[←h7,←h3]
 exact k7
theorem PinKept.refl(objs:List (Option Ob))(g:Gh):PinKept objs objs g g:=fun n d h1 h2=>⟨d,h1,rfl,rfl,rfl,h2,rfl,rfl⟩
structure R(m:Nat)(w0:World)(MB:Out)(s:St)(g:Gh)(a:Act)(w:World):Prop where
 defers:a.defers=[]
 sl:s.slots.length=m
 tm:a.tmps.size=m
 slots:∀t,t<m→SRel s.objs g (s.slots.getD t .dead) (a.tmps.getD t undef)
 dat:∀n d,datAt s.objs n=some d→memH w d.wr (.row d.e d.t) d.hole d.l (g.G n d.t)
 bx:∀n e k wn,obAt s.objs n=some (.bx e k wn)→∃d v,datAt s.objs k=some d∧d.wr=false∧w.cell? ⟨(g.B n).1,(g.B n).2,none⟩=some v∧SlRel s.objs g k [] wn v
 sep:∀n d,datAt s.objs n=some d→d.wr=true→(blksD g n d).Nodup∧∀n' ob,n'≠n→obAt s.objs n'=some ob→∀k,k∈blksD g n d→k∉blksO g n' ob
 fresh:∀n d,datAt s.objs n=some d→d.wr=true→∀k,k∈blksD g n d→(d.fresh=true→w0.heap.size≤k)∧(d.fresh=false→k∈MB.b∨w0.heap.size≤k)
 frame:Fr MB.b w0 w
 pins:∀q∈MB.pins,Pinned s.objs g q
 go:GO w0 MB.b
theorem SRel.const(objs:List (Option Ob))(g:Gh)(v:Value):SRel objs g (evalC v) v:=by
 unfold evalC
 split
 ·exact⟨rfl,trivial,rfl⟩
 ·exact⟨rfl,trivial,rfl⟩
 ·exact⟨rfl,trivial,rfl⟩
 ·exact rfl
 ·trivial
theorem SRel.func(objs:List (Option Ob))(g:Gh)(f:FuncId):SRel objs g (.fn f []) (.func (.func f) #[] #[]):=
 ⟨[],rfl,rfl,fun i x y h=>by simp at h⟩
section
variable {m:Nat} {w0:World} {MB:Out} {s:St} {g:Gh} {a:Act} {w:World}
theorem R.eval(h:R m w0 MB s g a w)(x:Operand):SRel s.objs g (evalO s.slots x) (a.eval x):=by
 cases x with
 |tmp t=>
  rcases Nat.lt_or_ge t m with ht|ht
  ·exact h.slots t ht
  ·have:s.slots.getD t .dead = .dead:=by simp[List.getD_eq_getElem?_getD,List.getElem?_eq_none (by rw[h.sl];exact ht)]
   show SRel s.objs g (s.slots.getD t .dead) _
   rw[this];trivial
 |const v=>exact SRel.const _ _ v
 |func f=>exact SRel.func _ _ f
 |global _=>trivial
theorem getD_set{α:Type}(l:List α)(i j:Nat)(z d:α)(hi:i<l.length):(l.set i z).getD j d=if j=i then z else l.getD j d:=by
 by_cases e:j=i
 ·subst e;rw[if_pos rfl,getD_set_self hi]
 ·rw[if_neg e,getD_set_ne (Ne.symm e)]
theorem arr_getD_set{α:Type}(l:Array α)(i j:Nat)(z d:α)(hi:i<l.size):(l.setIfInBounds i z).getD j d=if j=i then z else l.getD j d:=by
 simp only[Array.getD_eq_getD_getElem?,Array.getElem?_setIfInBounds]
 by_cases e:j=i
 ·subst e;simp[hi]
 ·rw[if_neg (Ne.symm e),if_neg e]
theorem getD_map{α:Type}(f:α→α)(l:List α)(j:Nat)(d:α)(hd:f d=d):(l.map f).getD j d=f (l.getD j d):=by
 simp only[List.getD_eq_getElem?_getD,List.getElem?_map]
 cases l[j]? <;> simp[hd]
theorem sweep_dead(k l:List Nat):sweep k l .dead = .dead:=by simp[sweep]
theorem hits_nil(sv:SV):hits [] [] sv=false:=by
 cases sv with
 |sl n p w=>cases p<;>simp[hits]
 |ptr n p c=>simp[hits]
 |fn g cs=>simp[hits]
 |tup l=>
  simp only[hits,List.any_eq_false]
  intro x _
  cases x<;>simp
 |_=>rfl
theorem Eff.slots_on(e:Eff)(dst:Option Tmp)(s:St)(t:Nat):(e.on dst s).slots.length=s.slots.length ∧
  ((e.on dst s).slots.getD t .dead=if dst=some t∧t<s.slots.length then e.v else sweep e.kill e.loose (s.slots.getD t .dead)):=by
 have hsl:swept e.kill e.loose s.slots=s.slots.map (sweep e.kill e.loose):=by
  unfold swept
  split
  ·rename_i h1 h2
   rw[h1,h2]
   have:sweep [] []=id:=by funext x;simp[sweep,hits_nil]
   rw[this,List.map_id]
  ·rfl
 unfold Eff.on
 rw[hsl]
 cases dst with
 |none=>exact⟨by simp,by rw[if_neg (fun q=>by cases q.1)];exact getD_map _ _ _ _ (sweep_dead _ _)⟩
 |some d=>
  refine⟨by simp,?_⟩
  rcases Nat.lt_or_ge d s.slots.length with hd|hd
  ·rw[getD_set _ _ _ _ _ (by simpa using hd),getD_map _ _ _ _ (sweep_dead _ _)]
   by_cases e1:t=d
   ·subst e1;simp[hd]
   ·rw[if_neg e1,if_neg (by rintro⟨h1,_⟩;exact e1 (Option.some.inj h1).symm)]
  ·have:((s.slots.map (sweep e.kill e.loose)).set d e.v)=s.slots.map (sweep e.kill e.loose):=List.set_eq_of_length_le (by simpa using hd)
   simp only[this]
   rw[getD_map _ _ _ _ (sweep_dead _ _),if_neg (by rintro⟨h1,h2⟩;obtain rfl:=Option.some.inj h1;omega)]
theorem Act.tmps_put(a:Act)(dst:Option Tmp)(v:Value)(t:Nat):(a.put dst v).tmps.size=a.tmps.size∧(a.put dst v).defers=a.defers ∧
  ((a.put dst v).tmps.getD t undef=if dst=some t∧t<a.tmps.size then v else a.tmps.getD t undef):=by
 cases dst with
 |none=>exact⟨rfl,rfl,by simp[Act.put]⟩
 |some d=>
  refine⟨by simp[Act.put],rfl,?_⟩
  simp only[Act.put]
  rcases Nat.lt_or_ge d a.tmps.size with hd|hd
  ·rw[arr_getD_set _ _ _ _ _ hd]
   by_cases e1:t=d
   ·subst e1;simp[hd]
   ·rw[if_neg e1,if_neg (by rintro⟨h1,_⟩;exact e1 (Option.some.inj h1).symm)]
  ·have:a.tmps.setIfInBounds d v=a.tmps:=by simp[Array.setIfInBounds,Nat.not_lt.2 hd]
   rw[this,if_neg (by rintro⟨h1,h2⟩;obtain rfl:=Option.some.inj h1;omega)]
theorem R.step(h:R m w0 MB s g a w)(e:Eff)(dst:Option Tmp)(v:Value)(g':Gh)(w':World)
  (keep:∀sv u,SRel s.objs g sv u→hits e.kill e.loose sv=false→SRel (updAll e.upd s.objs) g' sv u)
  (new:SRel (updAll e.upd s.objs) g' e.v v)
  (dat:∀n d,datAt (updAll e.upd s.objs) n=some d→memH w' d.wr (.row d.e d.t) d.hole d.l (g'.G n d.t))
  (bx:∀n e' k wn,obAt (updAll e.upd s.objs) n=some (.bx e' k wn)→∃d v,datAt (updAll e.upd s.objs) k=some d∧d.wr=false∧w'.cell? ⟨(g'.B n).1,(g'.B n).2,none⟩=some v∧SlRel (updAll e.upd s.objs) g' k [] wn v)
  (sep:∀n d,datAt (updAll e.upd s.objs) n=some d→d.wr=true→(blksD g' n d).Nodup∧∀n' ob,n'≠n→obAt (updAll e.upd s.objs) n'=some ob→∀k,k∈blksD g' n d→k∉blksO g' n' ob)
  (fresh:∀n d,datAt (updAll e.upd s.objs) n=some d→d.wr=true→∀k,k∈blksD g' n d→(d.fresh=true→w0.heap.size≤k)∧(d.fresh=false→k∈MB.b∨w0.heap.size≤k))
  (frame:Fr MB.b w0 w') (pin:PinKept s.objs (updAll e.upd s.objs) g g'):R m w0 MB (e.on dst s) g' (a.put dst v) w' where
 defers:=(Act.tmps_put a dst v 0).2.1.trans h.defers
 sl:=(Eff.slots_on e dst s 0).1.trans h.sl
 tm:=(Act.tmps_put a dst v 0).1.trans h.tm
 slots:=fun t ht=>by
  rw[(Eff.slots_on e dst s t).2,(Act.tmps_put a dst v t).2.2,h.sl,h.tm]
  by_cases q:dst=some t∧t<m
  ·rw[if_pos q,if_pos q];exact new
  ·rw[if_neg q,if_neg q]
   have hs:=h.slots t ht
   unfold sweep
   split
   ·trivial
   ·rename_i hh
    exact keep _ _ hs (by simpa using hh)
 dat:=dat
 bx:=bx
 sep:=sep
 fresh:=fresh
 frame:=frame
 pins:=fun q hq=>(h.pins q hq).keep pin
 go:=h.go
theorem R.quiet(h:R m w0 MB s g a w)(sv:SV)(dst:Option Tmp)(v:Value)(new:SRel s.objs g sv v):R m w0 MB (Eff.on { v:=sv } dst s) g (a.put dst v) w:=
 h.step { v:=sv } dst v g w (fun _ _ q _=>q) new h.dat h.bx h.sep h.fresh h.frame (PinKept.refl _ _)
end
end Go.Proofs.Ytlipfbihlmlplaa.G
namespace Go.Proofs.Ytlipfbihlmlplaa.G
open Go Go.RowKit
set_option linter.unusedVariables false
set_option linter.unusedSimpArgs false
def fieldsOk(TT:TyTab):Ty→Nat→List Field→Bool
 |.pair a b, off, f :: fs => (f.offset == off) && ((TT f.type == some a) && ((f.name != "_") && (!fs.isEmpty && fieldsOk TT b (off + a.size) fs)))
 |t, off, [f] => (f.offset == off) && ((TT f.type == some t) && (f.name != "_"))
 |_,_,_=>false
def descOk(P:Program)(TT:TyTab)(t:TypeId):Ty→TypeDesc→Bool
 |.int k,.int k'=>k==k'
 |.bool,.bool=>true
 |.str,.string=>true
 |.row e u,.slice e'=>(e==e')&&(TT e==some u)
 |.arr n u,.array n' e=>(n==n')&&(TT e==some u)
 |.st b,.struct fs=>fieldsOk TT b 0 fs.toList&&!P.stoodInHeld t
 |_,_=>false
def tyOk(P:Program)(TT:TyTab)(t:TypeId)(ty:Ty):Bool:=
 match P.info? t,P.underlying t with
 |some i,some d=>(i.size==ty.size)&&(decide (0<ty.size)&&descOk P TT t ty d)
 |_,_=>false
def zeroOk(P:Program)(t:TypeId)(ty:Ty):Prop:=∃i z,P.info? t=some i∧i.zero=some z∧z.cells.toList=cells ty ty.dflt ty.dloc
def Ty.depth:Ty→Nat
 |.pair a b=>max a.depth b.depth|.st t=>t.depth+1|.arr _ t=>t.depth+1|_=>0
structure TTok(P:Program)(E:Env):Prop where
 ty:∀t ty,E.TT t=some ty→tyOk P E.TT t ty=true
 zero:∀t ty,E.TT t=some ty→zeroOk P t ty
 shallow:∀t ty,E.TT t=some ty→ty.depth<10000
 guard:∀t ty,E.TT t=some ty→ty.isAgg=true→P.eqGuardType P.depth t=false
 small:∀e,E.small e=true→∃i,P.info? e=some i∧0<i.bytes∧i.bytes≤4096∧i.size≤4096
section
variable {P:Program} {E:Env} {m:Nat} {w0:World} {MB:Out} {s:St} {g:Gh} {a:Act} {w:World}
theorem encV_pair(a b:Ty)(x:(Ty.pair a b).den):encV (.pair a b) x=encV a x.1++encV b x.2:=rfl
theorem tyOk_parts{t:TypeId}{u:Ty}(h:tyOk P E.TT t u=true):∃i d,P.info? t=some i∧P.underlying t=some d∧i.size=u.size∧0<u.size∧descOk P E.TT t u d=true:=by
 unfold tyOk at h
 split at h
 ·rename_i i d hi hd
  simp only[Bool.and_eq_true,decide_eq_true_eq,beq_iff_eq] at h
  exact⟨i,d,hi,hd,h.1,h.2.1,h.2.2⟩
 ·cases h
theorem TTok.row(T:TTok P E){t e:TypeId}{u:Ty}(h:E.TT t=some (.row e u)):P.underlying t=some (.slice e)∧E.TT e=some u:=by
 obtain⟨i,d,_,hd,_,_,hm⟩:=tyOk_parts (T.ty t _ h)
 cases d<;>simp[descOk] at hm
 obtain⟨rfl,h2⟩:=hm
 exact⟨hd,h2⟩
theorem TTok.arr(T:TTok P E){t:TypeId}{n:Nat}{u:Ty}(h:E.TT t=some (.arr n u)):∃e,P.underlying t=some (.array n e)∧E.TT e=some u:=by
 obtain⟨i,d,_,hd,_,_,hm⟩:=tyOk_parts (T.ty t _ h)
 cases d<;>simp[descOk] at hm
 obtain⟨rfl,h2⟩:=hm
 exact⟨_,hd,h2⟩
theorem TTok.st(T:TTok P E){t:TypeId}{b:Ty}(h:E.TT t=some (.st b)):∃fs,P.underlying t=some (.struct fs)∧fieldsOk E.TT b 0 fs.toList=true∧P.stoodInHeld t=false:=by
 obtain⟨i,d,_,hd,_,_,hm⟩:=tyOk_parts (T.ty t _ h)
 cases d<;>simp[descOk] at hm
 exact⟨_,hd,hm.1,by simpa using hm.2⟩
theorem TTok.int(T:TTok P E){t:TypeId}{k:IntKind}(h:E.TT t=some (.int k)):P.underlying t=some (.int k):=by
 obtain⟨i,d,_,hd,_,_,hm⟩:=tyOk_parts (T.ty t _ h)
 cases d<;>simp[descOk] at hm
 obtain rfl:=hm
 exact hd
theorem TTok.bool(T:TTok P E){t:TypeId}(h:E.TT t=some .bool):P.underlying t=some .bool:=by
 obtain⟨i,d,_,hd,_,_,hm⟩:=tyOk_parts (T.ty t _ h)
 cases d<;>simp[descOk] at hm
 exact hd
theorem TTok.str(T:TTok P E){t:TypeId}(h:E.TT t=some .str):P.underlying t=some .string:=by
 obtain⟨i,d,_,hd,_,_,hm⟩:=tyOk_parts (T.ty t _ h)
 cases d<;>simp[descOk] at hm
 exact hd
theorem TTok.nopair(T:TTok P E){t:TypeId}{b c:Ty}:E.TT t≠some (.pair b c):=fun h=>by
 obtain⟨i,d,_,hd,_,_,hm⟩:=tyOk_parts (T.ty t _ h)
 cases d<;>simp[descOk] at hm
theorem TTok.size(T:TTok P E){t:TypeId}{u:Ty}(h:E.TT t=some u):∃i,P.info? t=some i∧i.size=u.size∧0<u.size:=by
 obtain⟨i,d,hi,_,hs,hp,_⟩:=tyOk_parts (T.ty t _ h)
 exact⟨i,hi,hs,hp⟩
theorem TTok.szof(T:TTok P E){t:TypeId}{u:Ty}(h:E.TT t=some u)(w:World):(sizeOf t).run P w = .ok u.size w:=by
 obtain⟨i,hi,hs,_⟩:=T.size h
 simp[sizeOf,typeInfo,hi,hs]
theorem TTok.cellsOf(T:TTok P E){t:TypeId}{u:Ty}(h:E.TT t=some u):P.cellsOf t=u.size:=by
 obtain⟨i,hi,hs,_⟩:=T.size h
 simp[Program.cellsOf,hi,hs]
theorem TTok.isAgg(T:TTok P E){t:TypeId}{u:Ty}(h:E.TT t=some u)(w:World):(isAgg t).run P w = .ok u.isAgg w:=by
 obtain⟨i,d,_,hd,_,_,hm⟩:=tyOk_parts (T.ty t _ h)
 unfold Go.isAgg
 rw[Sem.run_bind,run_underlying hd w]
 cases u<;>cases d<;>simp_all[Ty.isAgg,descOk]
theorem wp_of_run{o:Oper}{v:Value}{w':World}{next:Act→World→Prop}{Q:Exit→Act→World→Prop}(hr:(execOp a.eval o).run P w = .ok (.value v) w')(h:next (a.put o.dst v) w'):o.wp P a w next Q:=by
 unfold Oper.wp
 rw[hr]
 exact h
theorem toV_int(k:IntKind)(n:Int):toV (.int k) n = .int k n:=rfl
theorem toV_bool(b:Bool):toV .bool b = .bool b:=rfl
theorem toV_str(s:ByteArray):toV .str s = .string s:=rfl
theorem srel_int(objs:List (Option Ob))(g:Gh)(k:IntKind)(n:Int):SRel objs g (.val (.int k) n) (.int k n):=⟨rfl,trivial,rfl⟩
theorem srel_bool(objs:List (Option Ob))(g:Gh)(b:Bool):SRel objs g (.val .bool b) (.bool b):=⟨rfl,trivial,rfl⟩
theorem agg_of{t:Ty}(h:t.isAgg=true)(x:t.den):toV t x = .agg (encV t x).toArray:=by simp[toV,h]
theorem one_of{t:Ty}(h:t.isAgg=false)(hf:t.flat=true)(x:t.den):toV t x=(encV t x).headD undef∧(encV t x).length=t.size:=⟨by simp[toV,h],cells_length _ _ _⟩
def OpDoes(P:Program)(o:Oper)(a:Act)(w:World)(Qv:Value→World→Prop):Prop:=
 ∀(next:Act→World→Prop) (Q:Exit→Act→World→Prop),(∀v w',Qv v w'→next (a.put o.dst v) w')→o.wp P a w next Q
theorem does_run{o:Oper}{Qv:Value→World→Prop}{v:Value}{w':World}(hr:(execOp a.eval o).run P w = .ok (.value v) w')(h:Qv v w'):OpDoes P o a w Qv:=
 fun next Q hn=>wp_of_run hr (hn v w' h)
theorem does_skip{o:Oper}{Qv:Value→World→Prop}{w':World}(hr:(execOp a.eval o).run P w = .ok .skip w')(h:Qv undef w'):OpDoes P o a w Qv:=
 fun next Q hn=>by
  unfold Oper.wp
  rw[hr]
  exact hn undef w' h
def Holds(P:Program)(m:Nat)(w0:World)(MB:Out)(s:St)(g:Gh)(o:Oper)(a:Act)(w:World)(e:Eff):Prop:=
 OpDoes P o a w (fun v w'=>∃g',R m w0 MB (e.on o.dst s) g' (a.put o.dst v) w')
theorem holds_quiet(h:R m w0 MB s g a w){o:Oper}{sv:SV}{v:Value}(hr:(execOp a.eval o).run P w = .ok (.value v) w)(hv:SRel s.objs g sv v):Holds P m w0 MB s g o a w { v:=sv }:=
 does_run hr ⟨g,h.quiet sv o.dst v hv⟩
theorem move_holds(h:R m w0 MB s g a w){o:Oper}{x:Operand}(ho:o.op = .move x∨o.op = .assign x):Holds P m w0 MB s g o a w { v:=evalO s.slots x }:=by
 refine holds_quiet h (v:=a.eval x) ?_ (h.eval x)
 rcases ho with ho|ho<;>(unfold execOp;rw[ho];rfl)
section
variable {α:Type}
theorem cond_some{c:Bool}{x:Option α}{r:α}(h:cond c x none=some r):c=true∧x=some r:=by
 cases c
 ·cases h
 ·exact⟨rfl,h⟩
theorem cond_none{c:Bool}{x:Option α}{r:α}(h:cond c none x=some r):c=false∧x=some r:=by
 cases c
 ·exact⟨rfl,h⟩
 ·cases h
theorem val_bool{objs:List (Option Ob)}{b:Bool}{v:Value}(h:SRel objs g (.val .bool b) v):v = .bool b:=h.2.2
theorem val_int{objs:List (Option Ob)}{k:IntKind}{n:Int}{v:Value}(h:SRel objs g (.val (.int k) n) v):v = .int k n:=h.2.2
theorem pick_holds(h:R m w0 MB s g a w){o:Oper}{c x y:Operand}(ho:o.op = .pick c x y){K:Eff→Option α}{r:α}(hK:effPick (evalO s.slots c) (evalO s.slots x) (evalO s.slots y) K=some r):
  ∃e,K e=some r∧Holds P m w0 MB s g o a w e:=by
 have hc:=h.eval c
 have hx:=h.eval x
 have hy:=h.eval y
 revert hK hc hx hy
 generalize evalO s.slots c=sc
 generalize evalO s.slots x=sx
 generalize evalO s.slots y=sy
 intro hK hc hx hy
 unfold effPick at hK
 split at hK
 ·rename_i c'
  have hcv:a.eval c = .bool c':=hc.2.2
  have run:(execOp a.eval o).run P w = .ok (.value (if c' then a.eval x else a.eval y)) w:=by
   unfold execOp;rw[ho];simp[hcv,asBool]
  split at hK
  ·split at hK
   ·rename_i t p u q e
    subst e
    refine⟨_,hK,holds_quiet h run ?_⟩
    cases c'
    ·exact hy
    ·exact hx
   ·cases hK
  ·cases c'
   ·exact⟨_,hK,holds_quiet h run hy⟩
   ·exact⟨_,hK,holds_quiet h run hx⟩
 ·cases hK
end
end
end Go.Proofs.Ytlipfbihlmlplaa.G
namespace Go.Proofs.Ytlipfbihlmlplaa.G
open Go Go.RowKit
set_option linter.unusedVariables false
set_option linter.unusedSimpArgs false
section
variable {P:Program} {E:Env} {m:Nat} {w0:World} {MB:Out} {s:St} {g:Gh} {a:Act} {w:World} {α:Type}
theorem run_binI(objs:List (Option Ob))(g:Gh)(op:BinOp)(t:TypeId)(k:IntKind)(x y:Int)(K:SV→Option α)(r:α)(hs:isShift op=false)(hK:binI op k x y K=some r):
  ∃sv v,K sv=some r∧(binOp op t (.int k x) (.int k y)).run P w = .ok v w∧SRel objs g sv v:=by
 cases op<;>simp only[binI,isShift,Bool.true_eq_false,reduceCtorEq] at hK hs <;>
  first
   |exact⟨_,_,hK,by simp[binOp,Op.intArith,Op.intCmp,Op.intBits];rfl,⟨rfl,trivial,rfl⟩⟩
   |(obtain⟨h0,hK⟩:=cond_none hK
     have h0:¬y=0:=by simpa using h0
     exact⟨_,_,hK,by simp[binOp,Op.intDiv,h0];rfl,⟨rfl,trivial,rfl⟩⟩)
theorem run_shiftI(objs:List (Option Ob))(g:Gh)(op:BinOp)(t:TypeId)(k k':IntKind)(x y:Int)(K:SV→Option α)(r:α)(hK:shiftI op k x y K=some r):
  ∃sv v,K sv=some r∧(binOp op t (.int k x) (.int k' y)).run P w = .ok v w∧SRel objs g sv v:=by
 cases op<;>simp only[shiftI,reduceCtorEq] at hK
 all_goals
  obtain⟨h0,hK⟩:=cond_none hK
  have h0:¬y<0:=by simpa using h0
  exact⟨_,_,hK,by simp[binOp,Op.shift,h0];rfl,⟨rfl,trivial,rfl⟩⟩
theorem take_drop_append_left{c d:List Value}{n:Nat}(h:c.length=n):((c++d).drop 0).take n=c:=by simp[←h]
theorem run_part(T:TTok P E){e:TypeId}{u:Ty}{off:Nat}{xs:Array Value}{z:u.den}(ht:E.TT e=some u)(hc:(xs.toList.drop off).take u.size=encV u z):(part e xs off).run P w = .ok (toV u z) w:=by
 obtain⟨i,hi,hs,hp⟩:=T.size ht
 unfold part
 rw[Sem.run_bind,T.isAgg ht]
 simp only[Result.andThen_ok]
 cases hg:u.isAgg with
 |true=>
  simp only[if_true,Sem.run_bind,T.szof ht,Result.andThen_ok,Sem.run_pure,agg_of hg]
  congr 2
  apply Array.toList_inj.1
  rw[←hc]
  simp[Array.toList_extract,List.extract_eq_take_drop]
 |false=>
  simp only[Bool.false_eq_true,if_false]
  have hl:(encV u z).length=u.size:=cells_length _ _ _
  have h1:xs[off]? = (encV u z)[0]? := by
   rw[←hc,List.getElem?_take,if_pos hp,List.getElem?_drop,Array.getElem?_toList];rfl
  have h2:(encV u z)[0]? = some (toV u z):=by
   simp only[toV,hg,Bool.false_eq_true,if_false]
   cases h:encV u z with
   |nil=>rw[h] at hl;simp at hl;omega
   |cons v r=>rfl
  rw[h1,h2]
  rfl
theorem run_eqV(T:TTok P E):∀(u:Ty),
  (∀(t:TypeId) (d:Nat) (x y:u.den) (w:World),E.TT t=some u→u.flat=true→u.depth<d→(Op.equalIn d t (toV u x) (toV u y)).run P w = .ok (eqV u x y) w) ∧
  (∀(fs:List Field) (off d:Nat) (xs ys:Array Value) (x y:u.den) (w:World),fieldsOk E.TT u off fs=true→u.flat=true→u.depth<d →
   (xs.toList.drop off).take u.size=encV u x→(ys.toList.drop off).take u.size=encV u y→(Op.eqFields d xs ys fs).run P w = .ok (eqV u x y) w):=by
 have last:∀(u:Ty),(∀a b,u≠.pair a b)→(∀(t:TypeId) (d:Nat) (x y:u.den) (w:World),E.TT t=some u→u.flat=true→u.depth<d→(Op.equalIn d t (toV u x) (toV u y)).run P w = .ok (eqV u x y) w) →
   (∀(fs:List Field) (off d:Nat) (xs ys:Array Value) (x y:u.den) (w:World),fieldsOk E.TT u off fs=true→u.flat=true→u.depth<d →
   (xs.toList.drop off).take u.size=encV u x→(ys.toList.drop off).take u.size=encV u y→(Op.eqFields d xs ys fs).run P w = .ok (eqV u x y) w):=by
  intro u hu h fs off d xs ys x y w hf hfl hd hx hy
  match fs,hf with
  |[f],hf=>
   have hf' : f.offset = off ∧ E.TT f.type = some u ∧ f.name ≠ "_" := by
    cases u<;>first|exact absurd rfl (hu _ _)|(simpa[fieldsOk] using hf)
   obtain⟨h1,h2,h3⟩:=hf'
   subst h1
   simp only[Op.eqFields,if_pos h3,Sem.run_bind,run_part T h2 hx,run_part T h2 hy,Result.andThen_ok,h _ d x y w h2 hfl hd]
   cases eqV u x y<;>simp
  |[],hf=>cases u<;>simp[fieldsOk] at hf
  |_::_::_,hf=>cases u<;>first|exact absurd rfl (hu _ _)|simp[fieldsOk] at hf
 intro u
 induction u with
 |int k=>
  have h1:∀(t:TypeId) (d:Nat) (x y:(Ty.int k).den) (w:World),E.TT t=some (.int k)→(Ty.int k).flat=true→(Ty.int k).depth<d→(Op.equalIn d t (toV (.int k) x) (toV (.int k) y)).run P w = .ok (eqV (.int k) x y) w:=by
   intro t d x y w ht _ hd
   obtain⟨d,rfl⟩:∃q,d=q+1:=⟨d-1,by omega⟩
   exact run_equalIn_int w d t k k x y (T.int ht)
  exact⟨h1,last _ (fun _ _ e=>by cases e) h1⟩
 |bool=>
  have h1:∀(t:TypeId) (d:Nat) (x y:(Ty.bool).den) (w:World),E.TT t=some .bool→(Ty.bool).flat=true→(Ty.bool).depth<d→(Op.equalIn d t (toV .bool x) (toV .bool y)).run P w = .ok (eqV .bool x y) w:=by
   intro t d x y w ht _ hd
   obtain⟨d,rfl⟩:∃q,d=q+1:=⟨d-1,by omega⟩
   exact run_equalIn_bool w d t x y (T.bool ht)
  exact⟨h1,last _ (fun _ _ e=>by cases e) h1⟩
 |str=>
  have h1:∀(t:TypeId) (d:Nat) (x y:(Ty.str).den) (w:World),E.TT t=some .str→(Ty.str).flat=true→(Ty.str).depth<d→(Op.equalIn d t (toV .str x) (toV .str y)).run P w = .ok (eqV .str x y) w:=by
   intro t d x y w ht _ hd
   obtain⟨d,rfl⟩:∃q,d=q+1:=⟨d-1,by omega⟩
   exact run_equalIn_string w d t x y (T.str ht)
  exact⟨h1,last _ (fun _ _ e=>by cases e) h1⟩
 |row e t _=>exact⟨(fun t d x y w ht hfl=>by cases hfl),(fun fs off d xs ys x y w hf hfl=>by cases hfl)⟩
 |st b ih=>
  have h1:∀(t:TypeId) (d:Nat) (x y:(Ty.st b).den) (w:World),E.TT t=some (.st b)→(Ty.st b).flat=true→(Ty.st b).depth<d→(Op.equalIn d t (toV (.st b) x) (toV (.st b) y)).run P w = .ok (eqV (.st b) x y) w:=by
   intro t d x y w ht hfl hd
   obtain⟨d,rfl⟩:∃q,d=q+1:=⟨d-1,by omega⟩
   obtain⟨fs,hu,hf,hp⟩:=T.st ht
   have hfo:P.fieldsOf t=fs:=by simp[Program.fieldsOf,hu]
   rw[agg_of rfl,agg_of rfl,run_equalIn_struct (P:=P) w d t _ _ (by rw[hfo];exact hu) hp,hfo]
   have hs:∀z:(Ty.st b).den,(encV (.st b) z).length=b.size:=fun z=>cells_length _ _ _
   exact ih.2 fs.toList 0 d _ _ x y w hf hfl (by simp[Ty.depth] at hd;omega) (by simp;rw[List.take_of_length_le (by rw[hs];exact Nat.le_refl _)];rfl) (by simp;rw[List.take_of_length_le (by rw[hs];exact Nat.le_refl _)];rfl)
  exact⟨h1,last _ (fun _ _ e=>by cases e) h1⟩
 |arr n t ih=>
  have h1:∀(tt:TypeId) (d:Nat) (x y:(Ty.arr n t).den) (w:World),E.TT tt=some (.arr n t)→(Ty.arr n t).flat=true→(Ty.arr n t).depth<d→(Op.equalIn d tt (toV (.arr n t) x) (toV (.arr n t) y)).run P w = .ok (eqV (.arr n t) x y) w:=by
   intro tt d x y w ht hfl hd
   obtain⟨d,rfl⟩:∃q,d=q+1:=⟨d-1,by omega⟩
   obtain⟨e,hu,he⟩:=T.arr ht
   obtain⟨i,hi,_,_⟩:=T.size he
   rw[agg_of rfl,agg_of rfl,run_equalIn_array w d _ _ hu hi,T.cellsOf he]
   simp only[eqV]
   have hx:∀(z:(Ty.arr n t).den) j,j<n→((encV (.arr n t) z).drop (j*t.size)).take t.size=encV t (List.getD z j t.dflt):=fun z j hj=>by
    have:=flatMap_range_get (fun i=>cells t (List.getD z i t.dflt) t.dloc) t.size (fun i=>cells_length t _ _) n j hj
    exact this
   have key:∀(is:List Nat),(∀j∈is,j<n)→(Op.eqItems d e t.size (encV (.arr n t) x).toArray (encV (.arr n t) y).toArray is).run P w = .ok (is.all fun i=>eqV t (List.getD x i t.dflt) (List.getD y i t.dflt)) w:=by
    intro is
    induction is with
    |nil=>intro _;simp[Op.eqItems]
    |cons j is ihs=>
     intro hj
     have hjn:=hj j (by simp)
     simp only[Op.eqItems,Sem.run_bind,run_part T he (xs:=(encV (.arr n t) x).toArray) (z:=List.getD x j t.dflt) (by simpa using hx x j hjn),run_part T he (xs:=(encV (.arr n t) y).toArray) (z:=List.getD y j t.dflt) (by simpa using hx y j hjn),Result.andThen_ok,
      ih.1 e d _ _ w he hfl (by simp[Ty.depth] at hd;omega),List.all_cons]
     cases eqV t (List.getD x j t.dflt) (List.getD y j t.dflt) with
     |true=>simpa using ihs (fun k hk=>hj k (by simp[hk]))
     |false=>simp
   exact key _ (fun j hj=>List.mem_range.1 hj)
  exact⟨h1,last _ (fun _ _ e=>by cases e) h1⟩
 |pair p q ih1 ih2=>
  refine⟨fun t d x y w ht=>absurd ht T.nopair,?_⟩
  intro fs off d xs ys x y w hf hfl hd hx hy
  match fs,hf with
  |f::fs,hf=>
   simp only[fieldsOk,Bool.and_eq_true,beq_iff_eq,bne_iff_ne,ne_eq] at hf
   obtain⟨h1,h2,h3,h4,h5⟩:=hf
   simp only[Ty.flat,Bool.and_eq_true] at hfl
   simp only[Ty.depth] at hd
   subst h1
   have split:∀{zs:Array Value} {z:(Ty.pair p q).den},(zs.toList.drop f.offset).take (Ty.pair p q).size=encV (.pair p q) z →
     (zs.toList.drop f.offset).take p.size=encV p z.1∧(zs.toList.drop (f.offset+p.size)).take q.size=encV q z.2:=by
    intro zs z hz
    rw[encV_pair] at hz
    have hl1:(encV p z.1).length=p.size:=cells_length _ _ _
    have hl2:(encV q z.2).length=q.size:=cells_length _ _ _
    constructor
    ·have:=congrArg (List.take p.size) hz
     rw[List.take_take,Nat.min_eq_left (by simp[Ty.size]),List.take_left' hl1] at this
     exact this
    ·have:=congrArg (List.drop p.size) hz
     rw[List.drop_left' hl1,List.drop_take,List.drop_drop] at this
     rw[←this]
     congr 1
     simp[Ty.size]
   obtain⟨x1,x2⟩:=split hx
   obtain⟨y1,y2⟩:=split hy
   simp only[Op.eqFields,ne_eq,h3,not_false_eq_true,if_true,Sem.run_bind,run_part T h2 x1,run_part T h2 y1,Result.andThen_ok,ih1.1 f.type d x.1 y.1 w h2 hfl.1 (by omega),eqV]
   cases eqV p x.1 y.1 with
   |true=>simpa using ih2.2 fs _ d xs ys x.2 y.2 w h5 hfl.2 (by omega) x2 y2
   |false=>simp
  |[],hf=>simp[fieldsOk] at hf
theorem run_guard_plain(op:BinOp)(t:TypeId)(x y:Operand)(u v:Value)(hu:(∃k n,u = .int k n)∨(∃b,u = .bool b)∨∃s,u = .string s):(eqGuard op t x y u v).run P w = .ok () w:=by
 unfold eqGuard
 rcases hu with⟨k,n,rfl⟩|⟨b,rfl⟩|⟨q,rfl⟩<;>(cases op<;>simp)
theorem run_binop{o:Oper}{op:BinOp}{t t2:TypeId}{x y:Operand}(ho:o.op = .binOp op t x y t2){u v z:Value}{a:Act}(hx:a.eval x=u)(hy:a.eval y=v)(hg:(eqGuard op t x y u v).run P w = .ok () w)(hr:(binOp op t u v).run P w = .ok z w):
  (execOp a.eval o).run P w = .ok (.value z) w:=by
 unfold execOp
 rw[ho]
 simp[hx,hy,hg,hr]
theorem agg_val{u:Ty}(h:u.isAgg=true)(x:u.den):∃cs,toV u x = .agg cs:=⟨_,agg_of h x⟩
theorem binV_holds(T:TTok P E)(h:R m w0 MB s g a w){o:Oper}{op:BinOp}{t t2:TypeId}{x y:Operand}(ho:o.op = .binOp op t x y t2){K:SV→Option α}{r:α}
  (hK:binV (E.TT t) op (evalO s.slots x) (evalO s.slots y) K=some r):∃sv,K sv=some r∧Holds P m w0 MB s g o a w { v:=sv }:=by
 have hx:=h.eval x
 have hy:=h.eval y
 revert hK hx hy
 generalize evalO s.slots x=sx
 generalize evalO s.slots y=sy
 intro hK hx hy
 unfold binV at hK
 split at hK
 ·rename_i k a1 k' b1
  have ex:a.eval x = .int k a1:=hx.2.2
  have ey:a.eval y = .int k' b1:=hy.2.2
  have hg:=run_guard_plain (P:=P) (w:=w) op t x y (.int k a1) (.int k' b1) (.inl ⟨_,_,rfl⟩)
  split at hK
  ·rename_i hs
   obtain⟨sv,v,h1,h2,h3⟩:=run_shiftI (P:=P) (w:=w) s.objs g op t k k' a1 b1 K r hK
   exact⟨sv,h1,holds_quiet h (run_binop ho ex ey hg h2) h3⟩
  ·rename_i hs
   split at hK
   ·rename_i e
    subst e
    obtain⟨sv,v,h1,h2,h3⟩:=run_binI (P:=P) (w:=w) s.objs g op t k a1 b1 K r hs hK
    exact⟨sv,h1,holds_quiet h (run_binop ho ex ey hg h2) h3⟩
   ·cases hK
 ·rename_i a1 b1
  have ex:a.eval x = .bool a1:=hx.2.2
  have ey:a.eval y = .bool b1:=hy.2.2
  have hg:=run_guard_plain (P:=P) (w:=w) op t x y (.bool a1) (.bool b1) (.inr (.inl ⟨_,rfl⟩))
  have hb:E.TT t=some .bool→(Op.equal t (.bool a1) (.bool b1)).run P w = .ok (a1==b1) w:=fun ht=>run_equalIn_bool w 9999 t a1 b1 (T.bool ht)
  split at hK
  ·rename_i ht
   cases op<;>simp only[reduceCtorEq] at hK
   ·exact⟨_,hK,holds_quiet h (run_binop ho ex ey hg (by simp[binOp,hb ht];rfl)) ⟨rfl,trivial,rfl⟩⟩
   ·exact⟨_,hK,holds_quiet h (run_binop ho ex ey hg (by simp[binOp,hb ht];rfl)) ⟨rfl,trivial,rfl⟩⟩
  ·cases hK
 ·rename_i a1 b1
  have ex:a.eval x = .string a1:=hx.2.2
  have ey:a.eval y = .string b1:=hy.2.2
  have hg:=run_guard_plain (P:=P) (w:=w) op t x y (.string a1) (.string b1) (.inr (.inr ⟨_,rfl⟩))
  cases op<;>simp only[reduceCtorEq] at hK
  ·obtain⟨h0,hK⟩:=cond_some hK
   have h0:ByteArray.size a1+ByteArray.size b1≤4294967296:=of_decide_eq_true h0
   have h1:¬(((ByteArray.size a1+ByteArray.size b1:Nat):Int)>IntKind.i64.max):=by
    have:IntKind.i64.max=9223372036854775807:=rfl
    omega
   exact⟨_,hK,holds_quiet h (run_binop ho ex ey hg (by simp only[binOp,Op.stringOp,if_neg h1,Sem.run_pure];rfl)) ⟨rfl,trivial,rfl⟩⟩
  ·exact⟨_,hK,holds_quiet h (run_binop ho ex ey hg (by simp only[binOp,Op.stringOp,Sem.run_pure];rfl)) ⟨rfl,trivial,rfl⟩⟩
  ·exact⟨_,hK,holds_quiet h (run_binop ho ex ey hg (by simp only[binOp,Op.stringOp,Sem.run_pure];rfl)) ⟨rfl,trivial,rfl⟩⟩
 ·rename_i u a1 u' b1 _ _ _
  split at hK
  ·rename_i e
   subst e
   split at hK
   ·rename_i hf
    simp only[Bool.and_eq_true,beq_iff_eq] at hf
    obtain⟨hag,hfl,ht⟩:=hf
    obtain⟨xs,exs⟩:=agg_val hag a1
    obtain⟨ys,eys⟩:=agg_val hag b1
    have ex:a.eval x = .agg xs:=hx.2.2.trans exs
    have ey:a.eval y = .agg ys:=hy.2.2.trans eys
    have hg:=run_eqGuard_agg (P:=P) w op t x y xs ys (T.guard t _ ht hag)
    have he:(Op.equalIn 10000 t (.agg xs) (.agg ys)).run P w = .ok (eqV _ a1 b1) w:=by rw[←exs,←eys];exact (run_eqV T _).1 t 10000 a1 b1 w ht hfl (T.shallow t _ ht)
    cases op<;>simp only[reduceCtorEq] at hK
    ·exact⟨_,hK,holds_quiet h (run_binop ho ex ey hg (by rw[run_eql_struct,he];rfl)) ⟨rfl,trivial,rfl⟩⟩
    ·exact⟨_,hK,holds_quiet h (run_binop ho ex ey hg (by rw[run_neq_struct,he];rfl)) ⟨rfl,trivial,rfl⟩⟩
   ·cases hK
  ·cases hK
 ·cases hK
theorem unV_holds(h:R m w0 MB s g a w){o:Oper}{op:UnOp}{t:TypeId}{x:Operand}(ho:o.op = .unOp op t x){K:SV→Option α}{r:α}
  (hK:unV op (evalO s.slots x) K=some r):∃sv,K sv=some r∧Holds P m w0 MB s g o a w { v:=sv }:=by
 have hx:=h.eval x
 revert hK hx
 generalize evalO s.slots x=sx
 intro hK hx
 unfold unV at hK
 split at hK
 ·rename_i k n
  have ex:a.eval x = .int k n:=hx.2.2
  exact⟨_,hK,holds_quiet h (v:=.int k (k.wrap (0-n))) (by unfold execOp;rw[ho];simp[ex,Op.unary,Op.intArith]) ⟨rfl,trivial,rfl⟩⟩
 ·rename_i n
  have ex:a.eval x = .bool n:=hx.2.2
  exact⟨_,hK,holds_quiet h (v:=.bool (!n)) (by unfold execOp;rw[ho];simp[ex,Op.unary]) ⟨rfl,trivial,rfl⟩⟩
 ·cases hK
end
end Go.Proofs.Ytlipfbihlmlplaa.G
namespace Go.Proofs.Ytlipfbihlmlplaa.G
open Go Go.RowKit
set_option linter.unusedVariables false
set_option linter.unusedSimpArgs false
theorem getPL_nil(t:Ty)(x:t.den)(l:t.loc)(b o:Nat):getPL t x l b o []=some ⟨t,x,l,b,o⟩:=by cases t<;>rfl
theorem toNat_lt{j:Int}{n:Nat}(h0:0≤j)(h1:j<n):j.toNat<n:=by omega
theorem getPL_append:∀(t:Ty) (x:t.den) (l:t.loc) (b o:Nat) (p q:List Stp),getPL t x l b o (p++q)=(getPL t x l b o p).bind fun P=>getPL P.u P.y P.l P.b P.o q
 |t,x,l,b,o,[],q=>by rw[getPL_nil];rfl
 |.st t,x,l,b,o,s::p,q=>getPL_append t x l b o (s::p) q
 |.pair a _,x,l,b,o,.fst::p,q=>getPL_append a x.1 l.1 b o p q
 |.pair a c,x,l,b,o,.snd::p,q=>getPL_append c x.2 l.2 b _ p q
 |.arr n t,x,l,b,o,.idx i::p,q=>by
  simp only[List.cons_append,getPL]
  split
  ·exact getPL_append t _ _ b _ p q
  ·rfl
 |.row _ t,x,l,b,o,.idx i::p,q=>by
  simp only[List.cons_append,getPL]
  split
  ·split
   ·exact getPL_append t _ _ _ _ p q
   ·rfl
  ·rfl
 |.int _,_,_,_,_,_::_,_=>rfl
 |.bool,_,_,_,_,_::_,_=>rfl
 |.str,_,_,_,_,_::_,_=>rfl
 |.pair _ _,_,_,_,_,.idx _::_,_=>rfl
 |.arr _ _,_,_,_,_,.fst::_,_=>rfl
 |.arr _ _,_,_,_,_,.snd::_,_=>rfl
 |.row _ _,_,_,_,_,.fst::_,_=>rfl
 |.row _ _,_,_,_,_,.snd::_,_=>rfl
theorem crosses_append:∀(t:Ty) (x:t.den) (l:t.loc) (b o:Nat) (p q:List Stp) (P:Pl),getPL t x l b o p=some P→crosses t (p++q)=(crosses t p||crosses P.u q)
 |t,x,l,b,o,[],q,P,h=>by
  rw[getPL_nil] at h
  obtain rfl:=Option.some.inj h
  have:crosses t []=false:=by cases t<;>rfl
  rw[this];rfl
 |.st t,x,l,b,o,s::p,q,P,h=>crosses_append t x l b o (s::p) q P h
 |.pair a _,x,l,b,o,.fst::p,q,P,h=>crosses_append a x.1 l.1 b o p q P h
 |.pair a c,x,l,b,o,.snd::p,q,P,h=>crosses_append c x.2 l.2 b _ p q P h
 |.arr n t,x,l,b,o,.idx i::p,q,P,h=>by
  unfold getPL at h
  split at h
  ·exact crosses_append t _ _ b _ p q P h
  ·cases h
 |.row _ t,x,l,b,o,.idx i::p,q,P,h=>by simp[crosses]
 |.int _,_,_,_,_,_::_,_,_,h=>by cases h
 |.bool,_,_,_,_,_::_,_,_,h=>by cases h
 |.str,_,_,_,_,_::_,_,_,h=>by cases h
 |.pair _ _,_,_,_,_,.idx _::_,_,_,h=>by cases h
 |.arr _ _,_,_,_,_,.fst::_,_,_,h=>by cases h
 |.arr _ _,_,_,_,_,.snd::_,_,_,h=>by cases h
 |.row _ _,_,_,_,_,.fst::_,_,_,h=>by cases h
 |.row _ _,_,_,_,_,.snd::_,_,_,h=>by cases h
theorem ncross_append{g:Gh}{n:Nat}{d:Dat}{p q:List Stp}{P:Pl}(h:rootPL g n d p=some P)(hp:p≠[])(hc:ncross d p)(hq:crosses P.u q=false):ncross d (p++q):=by
 match p,hp with
 |.idx i::p,_=>
  unfold rootPL getPL at h
  split at h
  ·split at h
   ·have:=crosses_append _ _ _ _ _ p q P h
    show crosses d.t (p++q)=false
    rw[this,hc,hq];rfl
   ·cases h
  ·cases h
 |.fst::p,_=>exact hc.elim
 |.snd::p,_=>exact hc.elim
section
variable {P:Program} {E:Env} {m:Nat} {w0:World} {MB:Out} {s:St} {g:Gh} {a:Act} {w:World} {α:Type}
theorem field_PL{TT:TyTab}:∀(t:Ty) (f:Nat) (q:List Stp) (fs:List Field) (off:Nat) (x:t.den) (l:t.loc) (b o:Nat),fieldsOk TT t off fs=true→fpathIn t f=some q →
  ∃fld Q,fs[f]? = some fld∧getPL t x l b o q=some Q∧Q.b=b∧Q.o+off=o+fld.offset∧TT fld.type=some Q.u∧crosses t q=false:=by
 have last:∀(t:Ty),(∀a b,t≠.pair a b)→∀(f:Nat) (q:List Stp) (fs:List Field) (off:Nat) (x:t.den) (l:t.loc) (b o:Nat),fieldsOk TT t off fs=true→fpathIn t f=some q →
  ∃fld Q,fs[f]? = some fld∧getPL t x l b o q=some Q∧Q.b=b∧Q.o+off=o+fld.offset∧TT fld.type=some Q.u∧crosses t q=false:=by
  intro t ht f q fs off x l b o hf hq
  have hq':f=0∧q=[]:=by
   cases f with
   |zero=>cases t<;>first|exact absurd rfl (ht _ _)|(simp[fpathIn] at hq;exact⟨rfl,hq⟩)
   |succ f=>cases t<;>first|exact absurd rfl (ht _ _)|simp[fpathIn] at hq
  obtain⟨rfl,rfl⟩:=hq'
  match fs,hf with
  |[fl],hf=>
   have hf' : fl.offset = off ∧ TT fl.type = some t ∧ fl.name ≠ "_" := by
    cases t<;>first|exact absurd rfl (ht _ _)|(simpa[fieldsOk] using hf)
   exact⟨fl,⟨t,x,l,b,o⟩,rfl,getPL_nil _ _ _ _ _,rfl,by show o+off=o+fl.offset;rw[hf'.1],hf'.2.1,by cases t<;>rfl⟩
  |[],hf=>cases t<;>simp[fieldsOk] at hf
  |_::_::_,hf=>cases t<;>first|exact absurd rfl (ht _ _)|simp[fieldsOk] at hf
 intro t
 induction t with
 |pair c d ih1 ih2=>
  intro f q fs off x l b o hf hq
  match fs,hf with
  |fl::fs,hf=>
   simp only[fieldsOk,Bool.and_eq_true,beq_iff_eq] at hf
   obtain⟨h1,h2,h3,h4,h5⟩:=hf
   cases f with
   |zero=>
    simp only[fpathIn,Option.some.injEq] at hq
    subst hq
    refine⟨fl,⟨c,x.1,l.1,b,o⟩,rfl,getPL_nil c x.1 l.1 b o,rfl,by show o+off=o+fl.offset;rw[h1],h2,by cases c<;>rfl⟩
   |succ f=>
    simp only[fpathIn] at hq
    split at hq
    ·rename_i q' hq'
     simp only[Option.some.injEq] at hq
     subst hq
     obtain⟨fld,Q,g1,g2,g3,g4,g5,g6⟩:=ih2 f q' fs (off+c.size) x.2 l.2 b (o+c.size) h5 hq'
     exact⟨fld,Q,by simpa using g1,by simpa only[getPL] using g2,g3,by omega,g5,by simpa only[crosses] using g6⟩
    ·cases hq
  |[],hf=>simp[fieldsOk] at hf
 |_=>exact last _ (fun _ _ e=>by cases e)
theorem fpath_st{t:Ty}{f:Nat}{q:List Stp}(h:fpath t f=some q):∃c d,t = .st (.pair c d)∧fpathIn (.pair c d) f=some q:=by
 unfold fpath at h
 split at h
 ·exact⟨_,_,rfl,h⟩
 ·cases h
theorem fpathIn_ne{c d:Ty}{f:Nat}{q:List Stp}(h:fpathIn (.pair c d) f=some q):q≠[]:=by
 cases f with
 |zero=>simp[fpathIn] at h;subst h;simp
 |succ f=>
  simp only[fpathIn] at h
  split at h
  ·simp at h;subst h;simp
  ·cases h
theorem placeTy_of{objs:List (Option Ob)}{n:Nat}{p:List Stp}{d:Dat}{Q:Pl}{t:Ty}(hd:datAt objs n=some d)(hP:rootPL g n d p=some Q)(h:placeTy objs n p=some t):Q.u=t:=by
 unfold placeTy at h
 rw[hd] at h
 simp only[getP_of_PL _ _ _ _ _ _ _ hP] at h
 exact Option.some.inj h
theorem run_fieldAt(T:TTok P E){t:TypeId}{c d:Ty}(ht:E.TT t=some (.st (.pair c d))){f:Nat}{q:List Stp}(hq:fpathIn (.pair c d) f=some q)(x:(Ty.pair c d).den)(l:(Ty.pair c d).loc)(b o:Nat):
  ∃Q,getPL (.st (.pair c d)) x l b o q=some Q∧crosses (.st (.pair c d)) q=false∧(Instr.fieldAt t (.pointer (some ⟨b,o,none⟩)) f).run P w = .ok (.pointer (some ⟨Q.b,Q.o,none⟩)) w:=by
 obtain⟨fs,hu,hf,_⟩:=T.st ht
 obtain⟨fld,Q,h1,h2,h3,h4,h5,h6⟩:=field_PL (.pair c d) f q fs.toList 0 x l b o hf hq
 obtain⟨i,hi,hs,hp⟩:=T.size h5
 have hne:=fpathIn_ne hq
 refine⟨Q,?_,?_,?_⟩
 ·match q,hne with
  |s::q,_=>exact h2
 ·match q,hne with
  |s::q,_=>exact h6
 ·have h1':fs[f]? = some fld:=by simpa using h1
  have hz:¬Q.u.size=0:=by omega
  simp only[Instr.fieldAt,Sem.run_bind,run_underlying hu,Result.andThen_ok,h1',Instr.sureAddr,Sem.run_pure,fieldPlace,T.szof h5,if_neg hz,Addr.add_mid]
  have:Q.o=o+fld.offset:=by omega
  rw[h3,this]
theorem fieldAddr_holds(T:TTok P E)(h:R m w0 MB s g a w){o:Oper}{t:TypeId}{x:Operand}{f:Nat}(ho:o.op = .fieldAddr t x f){K:Eff→Option α}{r:α}
  (hK:effFieldAddr E s.objs t (evalO s.slots x) f K=some r):∃e,K e=some r∧Holds P m w0 MB s g o a w e:=by
 have hx:=h.eval x
 revert hK hx
 generalize evalO s.slots x=sx
 intro hK hx
 unfold effFieldAddr at hK
 split at hK
 ·rename_i n p c t' ht
  split at hK
  ·rename_i q hq
   split at hK
   ·rename_i hpt
    obtain⟨c1,c2,rfl,hq'⟩:=fpath_st hq
    rcases hx with⟨d,Q,h1,h2,h3,h4,h5⟩|⟨e,k,wn,h1,h2,h3⟩
    ·have hu:=placeTy_of h1 h2 hpt
     obtain⟨u,y,l,b,off⟩:=Q
     simp only at hu
     subst hu
     obtain⟨Q2,g1,g2,g3⟩:=run_fieldAt (P:=P) (w:=w) T ht hq' y l b off
     refine⟨_,hK,holds_quiet h (v:=.pointer (some ⟨Q2.b,Q2.o,none⟩)) (by unfold execOp;rw[ho];simp only[h4,Sem.run_bind,g3,Result.andThen_ok,Sem.run_pure]) (.inl ⟨d,Q2,h1,?_,by simp[h3],rfl,fun hc=>ncross_append h2 h3 (h5 hc) g2⟩)⟩
     unfold rootPL at h2 ⊢
     rw[getPL_append,h2]
     exact g1
    ·unfold placeTy datAt at hpt
     rw[h1] at hpt
     cases hpt
   ·cases hK
  ·cases hK
 ·cases hK
theorem nilCheck_holds(h:R m w0 MB s g a w){o:Oper}{x:Operand}(ho:o.op = .nilCheck x){K:Eff→Option α}{r:α}
  (hK:(match evalO s.slots x with
  |.ptr n p c=>K { v:=.ptr n p c }
  |.fn g cs=>K { v:=.fn g cs }
  |_=>none)=some r):∃e,K e=some r∧Holds P m w0 MB s g o a w e:=by
 have hx:=h.eval x
 revert hK hx
 generalize evalO s.slots x=sx
 intro hK hx
 split at hK
 ·rename_i n p c
  refine⟨_,hK,holds_quiet h (v:=a.eval x) ?_ hx⟩
  rcases hx with⟨d,Q,_,_,_,h4,_⟩|⟨e,k,wn,_,_,h3⟩
  ·unfold execOp;rw[ho];simp[h4]
  ·unfold execOp;rw[ho];simp[h3]
 ·rename_i f cs
  refine⟨_,hK,holds_quiet h (v:=a.eval x) ?_ hx⟩
  obtain⟨vs,e,_⟩:=hx
  unfold execOp;rw[ho];simp[e]
 ·cases hK
theorem place0_of{objs:List (Option Ob)}{n:Nat}{p:List Stp}{d:Dat}{Q:Pl}{z:(u:Ty)×u.den}(hd:datAt objs n=some d)(hP:rootPL g n d p=some Q)(h:place0 objs n p=some z):z=⟨Q.u,Q.y⟩:=by
 unfold place0 at h
 rw[hd] at h
 have e:=getP_of_PL _ _ _ _ _ _ _ hP
 simp only at h
 split at h
 ·rw[e] at h;exact (Option.some.inj h).symm
 ·rw[e] at h;exact (Option.some.inj h).symm
 ·cases h
theorem winLen_of{objs:List (Option Ob)}{n:Nat}{p:List Stp}{w:Win}{d:Dat}{Q:Pl}{z:(u:Ty)×u.den}{sz tot:Nat}{h:Hdr}(hd:datAt objs n=some d)(hP:rootPL g n d p=some Q)(hz:place0 objs n p=some z)(hh:hdrP Q=some (sz,h,tot)):winLen objs n p w=w.lenN tot:=by
 unfold winLen wholeLen
 rw[hz,place0_of hd hP hz]
 obtain⟨u,y,l,b,o⟩:=Q
 cases w with
 |none=>
  cases u<;>simp[hdrP] at hh
  ·obtain⟨_,_,rfl⟩:=hh;rfl
  ·obtain⟨_,_,rfl⟩:=hh;rfl
 |some q=>rfl
theorem Win.ix_eq(w:Win)(i:Nat):w.ix i=w.off+i:=by cases w<;>simp[Win.ix,Win.off]
theorem elem_PL{n k:Nat}{p:List Stp}{d:Dat}{Q:Pl}{sz tot:Nat}{hd:Hdr}{b o:Nat}(hP:rootPL g n d p=some Q)(hh:hdrP Q=some (sz,hd,tot))(hk:k<tot)(hA:hd.A=some ⟨b,o,none⟩):
  ∃Q2,rootPL g n d (p++[.idx k])=some Q2∧Q2.b=b∧Q2.o=o+k*sz∧Q2.u.size=sz∧(∀u e,Q.u = .row e u∨Q.u = .arr tot u→Q2.u=u):=by
 unfold rootPL at hP ⊢
 rw[getPL_append,hP]
 obtain⟨u,y,l,b',o'⟩:=Q
 cases u with
 |row e u=>
  simp only[hdrP,Option.some.injEq,Prod.mk.injEq] at hh
  obtain⟨rfl,rfl,rfl⟩:=hh
  refine⟨⟨u,List.getD y k u.dflt,l.2 k,b,o+k*u.size⟩,?_,rfl,rfl,rfl,?_⟩
  ·simp only[Option.bind_some,getPL,if_pos hk,hA]
  ·rintro u' e' (h|h)
   ·cases h;rfl
   ·cases h
 |arr m u=>
  simp only[hdrP,Option.some.injEq,Prod.mk.injEq] at hh
  obtain⟨rfl,rfl,rfl⟩:=hh
  simp only[Option.some.injEq,Addr.mk.injEq,and_true] at hA
  obtain⟨rfl,rfl⟩:=hA
  refine⟨⟨u,List.getD y k u.dflt,l k,b',o'+k*u.size⟩,?_,rfl,rfl,rfl,?_⟩
  ·simp only[Option.bind_some,getPL,if_pos hk]
  ·rintro u' e' (h|h)
   ·cases h
   ·cases h;rfl
 |_=>simp[hdrP] at hh
theorem isNil_ncross{n k:Nat}{p:List Stp}{d:Dat}(hc:(!isNil p)=false):ncross d (p++[.idx k]):=by
 cases p with
 |nil=>show crosses d.t []=false;cases d.t<;>rfl
 |cons x r=>simp[isNil] at hc
theorem sl_index{n:Nat}{p:List Stp}{wn:Win}{v:Value}{j:Int}(hv:SlRel s.objs g n p wn v){z:(u:Ty)×u.den}(hz:place0 s.objs n p=some z)(h0:0≤j)(h1:j<(winLen s.objs n p wn:Int)):
  ∃A c d Q2 sz,v = .slice A (winLen s.objs n p wn) c∧datAt s.objs n=some d∧rootPL g n d (p++[.idx (wn.ix j.toNat)])=some Q2∧Q2.u.size=sz∧(∀u e,z.1 = .row e u→Q2.u=u)∧(∀u m,z.1 = .arr m u→Q2.u=u) ∧
   (match A with|some a=>(a.add (j.toNat*sz))=⟨Q2.b,Q2.o,none⟩|none=>False):=by
 obtain⟨d,Q,sz,hd,tot,g1,g2,g3,g4,A,c,e1,e2,e3,e4,e5⟩:=hv
 have hw:=winLen_of (w:=wn) g1 g3 hz g4
 rw[hw] at h1
 obtain⟨b,o,k1,k2⟩:=e4 (by omega)
 have hk:wn.off+j.toNat<tot:=by omega
 obtain⟨Q2,q1,q2,q3,q4,q5⟩:=elem_PL g3 g4 hk k1
 have hze:=place0_of g1 g3 hz
 refine⟨A,c,d,Q2,sz,by rw[hw];exact e1,g1,by rw[Win.ix_eq];exact q1,q4,fun u e hu=>q5 u e (.inl (by rw[hze] at hu;exact hu)),fun u m' hu=>q5 u 0 (.inr ?_),?_⟩
 ·rw[hze] at hu
  simp only at hu
  obtain⟨u2,y2,l2,b2,o2⟩:=Q
  simp only at hu
  subst hu
  simp only[hdrP,Option.some.injEq,Prod.mk.injEq] at g4
  obtain⟨_,_,rfl⟩:=g4
  rfl
 ·rw[k2,q2,q3]
  simp only[Addr.add_mid,Addr.mk.injEq,true_and,and_true]
  rw[Nat.add_mul,Nat.add_assoc]
theorem indexAddr_holds(T:TTok P E)(h:R m w0 MB s g a w){o:Oper}{t:TypeId}{x i:Operand}(ho:o.op = .indexAddr t x i){K:Eff→Option α}{r:α}
  (hK:effIndexAddr E s.objs t (evalO s.slots x) (evalO s.slots i) K=some r):∃e,K e=some r∧Holds P m w0 MB s g o a w e:=by
 have hx:=h.eval x
 have hi:=h.eval i
 revert hK hx hi
 generalize evalO s.slots x=sx
 generalize evalO s.slots i=si
 intro hK hx hi
 have fin:∀{n:Nat} {p:List Stp} {wn:Win} {k:IntKind} {j:Int} {e':TypeId} {u:Ty} {z:(u:Ty)×u.den},SlRel s.objs g n p wn (a.eval x)→a.eval i = .int k j→E.TT t=some (.row e' u)→place0 s.objs n p=some z →
   ((∃e,z.1 = .row e u)∨∃m,z.1 = .arr m u)→cond (decide (0≤(j:Int))&&decide ((j:Int)<(winLen s.objs n p wn:Int))) (K { v:=.ptr n (p++[.idx (wn.ix (Int.toNat j))]) (!isNil p) }) none=some r→∃e,K e=some r∧Holds P m w0 MB s g o a w e:=by
  intro n p wn k j e' u z hv hj ht hz hu hK
  obtain⟨hb,hK⟩:=cond_some hK
  simp only[Bool.and_eq_true,decide_eq_true_eq] at hb
  obtain⟨A,c,d,Q2,sz,k1,k2,k3,k4,k5,k6,k7⟩:=sl_index hv hz hb.1 hb.2
  obtain⟨hu1,hu2⟩:=T.row ht
  have hQu:Q2.u=u:=by
   rcases hu with⟨e,hu⟩|⟨m',hu⟩
   ·exact k5 u e hu
   ·exact k6 u m' hu
  refine⟨_,hK,holds_quiet h (v:=.pointer (some ⟨Q2.b,Q2.o,none⟩)) ?_ (.inl ⟨d,Q2,k2,k3,by simp,rfl,fun hc=>isNil_ncross (n:=n) hc⟩)⟩
  cases A with
  |none=>exact k7.elim
  |some ad=>
   simp only at k7
   unfold execOp
   rw[ho]
   simp only[k1,hj,Instr.indexAt,asIntOf,Sem.run_bind,Sem.run_pure,Result.andThen_ok,run_underlying hu1,T.szof hu2,if_pos hb,←hQu,k4,k7]
 unfold effIndexAddr at hK
 split at hK
 ·rename_i n p wn k j
  split at hK
  ·rename_i e1 u1 l1 e2 u2 hz ht
   split at hK
   ·rename_i e
    subst e
    exact fin hx hi.2.2 ht hz (.inl ⟨e1,rfl⟩) hK
   ·cases hK
  ·rename_i e1 u1 l1 e2 u2 hz ht
   split at hK
   ·rename_i e
    subst e
    exact fin hx hi.2.2 ht hz (.inr ⟨e1,rfl⟩) hK
   ·cases hK
  ·cases hK
 ·rename_i n p c k j
  split at hK
  ·rename_i m' u ht
   split at hK
   ·rename_i hpt
    obtain⟨hb,hK⟩:=cond_some hK
    simp only[Bool.and_eq_true,decide_eq_true_eq] at hb
    rcases hx with⟨d,Q,h1,h2,h3,h4,h5⟩|⟨e,k,wn,h1,h2,h3⟩
    ·have hu:=placeTy_of h1 h2 hpt
     have hj:a.eval i = .int k j:=hi.2.2
     obtain⟨e,g1,g2⟩:=T.arr ht
     obtain⟨u',y,l,b,off⟩:=Q
     simp only at hu
     subst hu
     obtain⟨Q2,q1,q2,q3,q4,q5⟩:=elem_PL (k:=j.toNat) (g:=g) (n:=n) (d:=d) (p:=p) h2 (show hdrP ⟨.arr m' u,y,l,b,off⟩=some (u.size,⟨some ⟨b,off,none⟩,m'⟩,m') from rfl) (toNat_lt hb.1 hb.2) rfl
     refine⟨_,hK,holds_quiet h (v:=.pointer (some ⟨Q2.b,Q2.o,none⟩)) ?_ (.inl ⟨d,Q2,h1,q1,by simp,rfl,fun hc=>ncross_append h2 h3 (h5 hc) (by show crosses u []=false;cases u<;>rfl)⟩)⟩
     unfold execOp
     rw[ho]
     simp only[h4,hj,Instr.indexAt,asIntOf,Instr.sureAddr,Sem.run_bind,Sem.run_pure,Result.andThen_ok,run_underlying g1,T.szof g2,if_pos hb,Addr.add_mid,q2,q3]
    ·unfold placeTy datAt at hpt
     rw[h1] at hpt
     cases hpt
   ·cases hK
  ·cases hK
 ·cases hK
theorem run_loadAt(T:TTok P E){t:TypeId}{u:Ty}(ht:E.TT t=some u){b o:Nat}{cs:List Value}(hl:cs.length=u.size)(hr:w.rangeAt b o cs):
  (Instr.loadAt t (.pointer (some ⟨b,o,none⟩))).run P w = .ok (if u.isAgg then .agg cs.toArray else cs.headD undef) w:=by
 obtain⟨i,hi,hs,hp⟩:=T.size ht
 simp only[Instr.loadAt,Instr.sureAddr,Sem.run_bind,Sem.run_pure,Result.andThen_ok,loadVar,T.isAgg ht]
 cases hg:u.isAgg with
 |true=>
  have hlc:(loadCells ⟨b,o,none⟩ u.size).run P w = .ok cs.toArray w:=by
   rw[←hl]
   exact run_loadCells_list (P:=P) w ⟨b,o,none⟩ cs (fun j v hv=>by rw[Addr.add_mid];exact hr j v hv)
  simp only[if_true,Sem.run_bind,T.szof ht,Result.andThen_ok,hlc,Sem.run_pure]
 |false=>
  cases cs with
  |nil=>simp at hl;omega
  |cons v r=>
   have:=hr 0 v rfl
   simp only[Nat.add_zero] at this
   simp[run_load,this]
theorem datAt_ob{objs:List (Option Ob)}{n:Nat}{d:Dat}:obAt objs n=some (.dat d)↔datAt objs n=some d:=by
 unfold datAt
 split
 ·rename_i h
  rw[h];simp
 ·rename_i h
  constructor
  ·intro q;exact absurd q (h d)
  ·intro q;cases q
theorem place_of{objs:List (Option Ob)}{n:Nat}{p:List Stp}{d:Dat}{Q:Pl}{z:(u:Ty)×u.den}(hd:datAt objs n=some d)(hP:rootPL g n d p=some Q)(h:place objs n p=some z):z=⟨Q.u,Q.y⟩∧d.hole=none:=by
 unfold place at h
 rw[hd] at h
 have e:=getP_of_PL _ _ _ _ _ _ _ hP
 simp only at h
 split at h
 ·rename_i hh
  rw[e] at h;exact⟨(Option.some.inj h).symm,hh⟩
 ·cases h
theorem root_read(h:R m w0 MB s g a w){n:Nat}{d:Dat}{p:List Stp}{Q:Pl}(hd:datAt s.objs n=some d)(hh:d.hole=none)(hp:p≠[])(hP:rootPL g n d p=some Q):w.rangeAt Q.b Q.o (cells Q.u Q.y Q.l)∧memH w d.wr Q.u none Q.y Q.l:=by
 have hm:=h.dat n d hd
 rw[hh] at hm
 match p,hp with
 |.idx i::p,_=>
  unfold rootPL getPL at hP
  split at hP
  ·rename_i hi
   split at hP
   ·rename_i ad ha
    rcases hm with hm|hm
    ·simp[lent] at hm
    ·obtain⟨b',o',e,hlt,hr⟩:=hm.1.at_ (by omega)
     rw[ha] at e
     obtain rfl:=Option.some.inj e
     exact PL_read d.t _ _ _ _ p Q hP (hm.2 i hi) ((rangeAt_flatMap _ _ (fun i=>cells_length d.t _ _) _).1 hr i hi)
   ·cases hP
  ·cases hP
 |.fst::p,_=>cases hP
 |.snd::p,_=>cases hP
theorem load_holds(T:TTok P E)(h:R m w0 MB s g a w){o:Oper}{t:TypeId}{x:Operand}(ho:o.op = .load t x){K:Eff→Option α}{r:α}
  (hK:effLoad E s.objs t (evalO s.slots x) K=some r):∃e,K e=some r∧Holds P m w0 MB s g o a w e:=by
 have hx:=h.eval x
 revert hK hx
 generalize evalO s.slots x=sx
 intro hK hx
 have run:∀{v z:Value},a.eval x=z→(Instr.loadAt t z).run P w = .ok v w→(execOp a.eval o).run P w = .ok (.value v) w:=fun {v z} h1 h2=>by
  unfold execOp;rw[ho];simp only[h1,Sem.run_bind,h2,Result.andThen_ok,Sem.run_pure]
 unfold effLoad at hK
 split at hK
 ·rename_i n p c
  split at hK
  ·rename_i e k wn hb
   split at hK
   ·rename_i e2 u2 ht
    rcases hx with⟨d,Q,h1,_⟩|⟨e',k',wn',h1,h2,h3⟩
    ·rw[datAt_ob.2 h1] at hb;cases hb
    ·obtain⟨d,v,g1,g2,g3,g4⟩:=h.bx n e k wn hb
     refine⟨_,hK,holds_quiet h (run h3 (run_loadAt T ht (cs:=[v]) rfl (fun j u hv=>?_))) g4⟩
     cases j with
     |zero=>simpa using hv▸g3
     |succ j=>simp at hv
   ·cases hK
  ·rename_i d0 hb
   rcases hx with⟨d,Q,h1,h2,h3,h4,h5⟩|⟨e',k',wn',h1,h2,h3⟩
   ·split at hK
    ·rename_i e u y e' u' hz ht
     split at hK
     ·rename_i he
      obtain⟨rfl,rfl⟩:=he
      obtain⟨hze,hh⟩:=place_of h1 h2 hz
      obtain⟨r1,m1⟩:=root_read h h1 hh h3 h2
      obtain⟨uq,yq,lq,bq,oq⟩:=Q
      simp only at hze r1 m1 h4
      cases hze
      rcases m1 with m1|m1
      ·simp[lent] at m1
      ·refine⟨_,hK,holds_quiet h (run h4 (run_loadAt T ht rfl r1)) ⟨d,_,_,_,_,h1,fun q=>absurd hh q,h2,rfl,lq.1.A,lq.1.cap,rfl,by simp[Win.off,Win.lenN],m1.1.le,fun hn=>?_,fun ho'=>⟨by simp[Win.off],fun hc=>?_⟩⟩⟩
       ·obtain⟨b,o',e1,_,_⟩:=m1.1.at_ hn
        exact⟨b,o',e1,by simp[e1,Win.off]⟩
       ·obtain⟨b,o',arr,e2,e1,_,_⟩:=m1.1.own ho' hc
        exact⟨b,o',e1,by simp[e1,Win.off]⟩
     ·cases hK
    ·rename_i u y u' _ hz ht
     split at hK
     ·rename_i he
      subst he
      split at hK
      ·rename_i hf
       obtain⟨hze,hh⟩:=place_of h1 h2 hz
       obtain⟨r1,m1⟩:=root_read h h1 hh h3 h2
       obtain⟨uq,yq,lq,bq,oq⟩:=Q
       simp only at hze r1 m1 h4
       cases hze
       rw[cells_enc hf] at r1
       exact⟨_,hK,holds_quiet h (run h4 (run_loadAt T ht (cells_length _ _ _) r1)) ⟨hf,ok_of_memH _ hf _ _ _ m1,rfl⟩⟩
      ·cases hK
     ·cases hK
    ·cases hK
   ·rw[hb] at h1;cases h1
  ·cases hK
 ·cases hK
end
end Go.Proofs.Ytlipfbihlmlplaa.G
namespace Go.Proofs.Ytlipfbihlmlplaa.G
open Go Go.RowKit
set_option linter.unusedVariables false
set_option linter.unusedSimpArgs false
section
variable {P:Program} {E:Env} {m:Nat} {w0:World} {MB:Out} {s:St} {g:Gh} {a:Act} {w:World} {α:Type}
theorem Win.off_some(o n:Nat):Win.off (some (o,n))=o:=rfl
theorem Win.lenN_some(o n t:Nat):Win.lenN (some (o,n)) t=n:=rfl
theorem run_sliceBound{k:IntKind}{i:Int}{y:Nat}{c:BoundsCode}(h0:0≤i)(h1:i≤y):(Instr.sliceBound (.int k i) y c).run P w = .ok i.toNat w:=by
 simp[Instr.sliceBound,asIntOf,h0,h1]
inductive BoundIs (d:Int):Option Value→Int→Prop
 |no:BoundIs d none d
 |yes (k:IntKind) (i:Int):BoundIs d (some (.int k i)) i
theorem run_sliceBounds{isS:Bool}{len cap:Nat}{lo hi:Option Value}{x y:Int}(hl:BoundIs 0 lo x)(hh:BoundIs len hi y)(h0:0≤x)(h1:x≤y)(h2:y≤len)(h3:len≤cap):
  (Instr.sliceBounds isS len cap lo hi none).run P w = .ok (x.toNat,y.toNat,cap) w:=by
 have e1:∀{k:IntKind} {c:BoundsCode},(Instr.sliceBound (.int k y) cap c).run P w = .ok y.toNat w:=run_sliceBound (by omega) (by omega)
 have e2:∀{k:IntKind} {c:BoundsCode},(Instr.sliceBound (.int k x) y.toNat c).run P w = .ok x.toNat w:=run_sliceBound h0 (by omega)
 cases hl<;>cases hh<;>simp[Instr.sliceBounds,e1,e2]<;>(simp only[Int.toNat_natCast] at e2;simp[e2])
theorem bound_is{objs:List (Option Ob)}{d:Int}{lo:Option Operand}{slots:List SV}{x:Int}(hs:∀q,lo=some q→SRel objs g (evalO slots q) (a.eval q))(h:boundOr d (lo.map (evalO slots))=some x):BoundIs d (lo.map a.eval) x:=by
 cases lo with
 |none=>simp[boundOr] at h;subst h;exact .no
 |some q=>
  have:=hs q rfl
  simp only[Option.map_some,boundOr] at h ⊢
  unfold boundOf at h
  split at h
  ·rename_i k j hq
   rw[hq] at this
   obtain rfl:=Option.some.inj h
   rw[this.2.2]
   exact .yes k _
  ·cases h
theorem elemTy_of{objs:List (Option Ob)}{n:Nat}{p:List Stp}{d:Dat}{Q:Pl}{u:Ty}{sz tot:Nat}{h:Hdr}(hd:datAt objs n=some d)(hP:rootPL g n d p=some Q)(he:elemTy objs n p=some u)(hh:hdrP Q=some (sz,h,tot)):sz=u.size∧∃z,place0 objs n p=some z:=by
 unfold elemTy at he
 split at he
 ·rename_i e u' l hz
  obtain rfl:=Option.some.inj he
  have:=place0_of hd hP hz
  obtain⟨uq,yq,lq,bq,oq⟩:=Q
  cases this
  simp[hdrP] at hh
  exact⟨hh.1.symm,_,hz⟩
 ·rename_i e u' l hz
  obtain rfl:=Option.some.inj he
  have:=place0_of hd hP hz
  obtain⟨uq,yq,lq,bq,oq⟩:=Q
  cases this
  simp[hdrP] at hh
  exact⟨hh.1.symm,_,hz⟩
 ·cases he
theorem slice_holds(T:TTok P E)(h:R m w0 MB s g a w){o:Oper}{t:TypeId}{x:Operand}{lo hi mx:Option Operand}(ho:o.op = .slice t x lo hi mx){K:Eff→Option α}{r:α}
  (hK:effSlice E s.objs t (evalO s.slots x) (lo.map (evalO s.slots)) (hi.map (evalO s.slots)) mx.isSome K=some r):∃e,K e=some r∧Holds P m w0 MB s g o a w e:=by
 have hx:=h.eval x
 have hmx:mx=none:=by
  cases mx with
  |none=>rfl
  |some q=>simp[effSlice] at hK
 subst hmx
 have hlo:∀q,lo=some q→SRel s.objs g (evalO s.slots q) (a.eval q):=fun q _=>h.eval q
 have hhi:∀q,hi=some q→SRel s.objs g (evalO s.slots q) (a.eval q):=fun q _=>h.eval q
 revert hK hx
 generalize evalO s.slots x=sx
 intro hx hK
 unfold effSlice at hK
 split at hK
 ·rename_i n p wn e u _ ht
  obtain⟨hu1,hu2⟩:=T.row ht
  split at hK
  ·rename_i hel
   obtain⟨d,Q,sz,hd,tot,g1,g2,g3,g4,A,c,e1,e2,e3,e4,e5⟩:=hx
   obtain⟨hsz,z,hz⟩:=elemTy_of g1 g3 hel g4
   have hw:=winLen_of (w:=wn) g1 g3 hz g4
   have run:∀{lo hi:Option Value} {x' y':Int},BoundIs 0 lo x'→BoundIs (wn.lenN tot) hi y'→0≤x'→x'≤y'→y'≤wn.lenN tot →
     (Instr.sliceAt t (.slice A (wn.lenN tot) c) lo hi none).run P w = .ok (.slice (if c=x'.toNat then A else A.map (·.add (x'.toNat*u.size))) (y'.toNat-x'.toNat) (c-x'.toNat)) w:=fun hl hh h0 h1 h2=>by
    simp only[Instr.sliceAt,Instr.slice,Sem.run_bind,run_underlying hu1,Result.andThen_ok,run_sliceBounds (isS:=true) hl hh h0 h1 h2 e3,T.szof hu2,Sem.run_pure]
   have ex:∀{v:Value},(Instr.sliceAt t (.slice A (wn.lenN tot) c) (lo.map a.eval) (hi.map a.eval) none).run P w = .ok v w→(execOp a.eval o).run P w = .ok (.value v) w:=fun hv=>by
    unfold execOp
    rw[ho]
    simp only[e1,Option.map_none,Sem.run_bind,hv,Result.andThen_ok,Sem.run_pure]
   split at hK
   ·rename_i hl1 hh1
    have hl2:lo=none:=by cases lo<;>simp_all
    have hh2:hi=none:=by cases hi<;>simp_all
    subst hl2
    subst hh2
    refine⟨_,hK,holds_quiet h (v:=.slice A (wn.lenN tot) c) (ex ?_) ⟨d,Q,sz,hd,tot,g1,g2,g3,g4,A,c,rfl,e2,e3,e4,e5⟩⟩
    rw[Option.map_none,run .no .no (Int.le_refl 0) (by omega) (Int.le_refl _)]
    simp
    intro _
    cases A with
    |none=>rfl
    |some ad=>simp[Addr.add]
   ·split at hK
    ·rename_i x' y' hx' hy'
     obtain⟨hb,hK⟩:=cond_some hK
     simp only[Bool.and_eq_true,decide_eq_true_eq] at hb
     rw[hw] at hb hy'
     have b1:=bound_is (g:=g) (a:=a) hlo hx'
     have b2:=bound_is (g:=g) (a:=a) hhi hy'
     have hlen:(y'-x').toNat=y'.toNat-x'.toNat:=by omega
     refine⟨_,hK,holds_quiet h (ex (run b1 b2 hb.1 hb.2.1 hb.2.2)) ⟨d,Q,sz,hd,tot,g1,g2,g3,g4,_,_,by rw[Win.lenN_some,hlen],?_,?_,?_,?_⟩⟩
     all_goals simp only[Win.off_some,Win.lenN_some,Win.ix_eq,hlen]
     ·omega
     ·omega
     ·intro hn
      obtain⟨b,off,k1,k2⟩:=e4 (by omega)
      refine⟨b,off,k1,?_⟩
      rw[if_neg (by omega),k2,hsz]
      simp only[Option.map_some,Addr.add_mid,Option.some.injEq,Addr.mk.injEq,true_and,and_true]
      rw[Nat.add_mul,Nat.add_assoc]
     ·intro ho'
      obtain⟨k0,k3⟩:=e5 ho'
      refine⟨by omega,fun hc=>?_⟩
      obtain⟨b,off,k1,k2⟩:=k3 (by omega)
      refine⟨b,off,k1,?_⟩
      rw[if_neg (by omega),k2,hsz]
      simp only[Option.map_some,Addr.add_mid,Option.some.injEq,Addr.mk.injEq,true_and,and_true]
      rw[Nat.add_mul,Nat.add_assoc]
    ·cases hK
  ·cases hK
 ·rename_i n p c m' u _ ht
  split at hK
  ·rename_i hpt
   split at hK
   ·rename_i d hl1 hh1 hd0
    split at hK
    ·rename_i hh
     have hl2:lo=none:=by cases lo<;>simp_all
     have hh2:hi=none:=by cases hi<;>simp_all
     subst hl2
     subst hh2
     rcases hx with⟨d',Q,h1,h2,h3,h4,h5⟩|⟨e,k,wn,h1,h2,h3⟩
     ·rw[hd0] at h1
      obtain rfl:=Option.some.inj h1
      have hu:=placeTy_of hd0 h2 hpt
      obtain⟨e,g1,g2⟩:=T.arr ht
      obtain⟨u',y,l,b,off⟩:=Q
      simp only at hu
      subst hu
      refine⟨_,hK,holds_quiet h (v:=.slice (some ⟨b,off,none⟩) m' m') ?_ ⟨d,_,_,_,_,hd0,fun q=>absurd hh q,h2,rfl,some ⟨b,off,none⟩,m',rfl,by simp[Win.off,Win.lenN],Nat.le_refl _,fun _=>⟨b,off,rfl,by simp[Win.off]⟩,fun _=>⟨by simp[Win.off],fun _=>⟨b,off,rfl,by simp[Win.off]⟩⟩⟩⟩
      unfold execOp
      rw[ho]
      simp only[h4,Option.map_none,Instr.sliceAt,Sem.run_bind,run_underlying g1,Result.andThen_ok,Instr.sureAddr,Sem.run_pure,run_sliceBounds (P:=P) (w:=w) (isS:=false) (len:=m') (cap:=m') .no .no (Int.le_refl 0) (Int.natCast_nonneg _) (Int.le_refl _) (Nat.le_refl _),T.szof g2]
      simp[Addr.add]
     ·unfold datAt at hd0
      rw[h1] at hd0
      cases hd0
    ·cases hK
   ·cases hK
  ·cases hK
 ·rename_i e u _ ht
  obtain⟨hu1,hu2⟩:=T.row ht
  have e1:a.eval x = .slice none 0 0:=hx
  split at hK
  ·rename_i x' y' hx' hy'
   obtain⟨hb,hK⟩:=cond_some hK
   simp only[Bool.and_eq_true,decide_eq_true_eq] at hb
   obtain⟨rfl,rfl⟩:=hb
   have b1:=bound_is (g:=g) (a:=a) hlo hx'
   have b2:=bound_is (g:=g) (a:=a) hhi hy'
   refine⟨_,hK,holds_quiet h (v:=.slice none 0 0) ?_ rfl⟩
   unfold execOp
   rw[ho]
   simp only[e1,Option.map_none,Instr.sliceAt,Instr.slice,Sem.run_bind,run_underlying hu1,Result.andThen_ok,run_sliceBounds (P:=P) (w:=w) (isS:=true) (len:=0) (cap:=0) b1 b2 (Int.le_refl 0) (Int.le_refl 0) (Int.le_refl 0) (Nat.le_refl 0),T.szof hu2,Sem.run_pure]
   rfl
  ·cases hK
 ·rename_i q _ ht
  have e1:a.eval x = .string q:=hx.2.2
  split at hK
  ·rename_i x' y' hx' hy'
   obtain⟨hb,hK⟩:=cond_some hK
   simp only[Bool.and_eq_true,decide_eq_true_eq] at hb
   have b1:=bound_is (g:=g) (a:=a) hlo hx'
   have b2:=bound_is (g:=g) (a:=a) hhi hy'
   refine⟨_,hK,holds_quiet h (v:=.string (ByteArray.extract q x'.toNat y'.toNat)) ?_ ⟨rfl,trivial,rfl⟩⟩
   unfold execOp
   rw[ho]
   simp only[e1,Option.map_none,Instr.sliceAt,Instr.slice,Sem.run_bind,run_underlying (T.str ht),Result.andThen_ok,Option.isSome_none,Bool.false_eq_true,if_false,run_sliceBounds (P:=P) (w:=w) (isS:=false) (len:=ByteArray.size q) (cap:=ByteArray.size q) b1 b2 hb.1 hb.2.1 hb.2.2 (Nat.le_refl _),Sem.run_pure]
  ·cases hK
 ·cases hK
theorem cap_holds(T:TTok P E)(h:R m w0 MB s g a w){o:Oper}{c:Call}{t:TypeId}{x:Operand}(ho:o.op = .call c)(hc:c.callee = .builtin .cap)(ha:c.args.toList=[x])(hat:c.argTypes.toList=[t]){K:Eff→Option α}{r:α}
  (hK:effCap (E.TT t) (evalO s.slots x) K=some r):∃e,K e=some r∧Holds P m w0 MB s g o a w e:=by
 have hx:=h.eval x
 revert hK hx
 generalize evalO s.slots x=sx
 intro hK hx
 unfold effCap at hK
 split at hK
 ·rename_i e u ht
  obtain⟨hu1,hu2⟩:=T.row ht
  have e0:a.eval x = .slice none 0 0:=hx
  refine⟨_,hK,holds_quiet h (v:=.int .i64 0) ?_ ⟨rfl,trivial,rfl⟩⟩
  have e1:c.args = #[x]:=by rw[←Array.toList_inj];exact ha
  have e2:c.argTypes = #[t]:=by rw[←Array.toList_inj];exact hat
  unfold execOp
  rw[ho]
  simp only[resolve,hc,e1,e2,Sem.run_bind,Sem.run_pure,Result.andThen_ok,invoke,builtin,List.map_cons,List.map_nil,List.map_toArray,e0]
  simp[Builtin.cap_,run_underlying hu1,goInt]
 ·cases hK
theorem len_holds(T:TTok P E)(h:R m w0 MB s g a w){o:Oper}{c:Call}{t:TypeId}{x:Operand}(ho:o.op = .call c)(hc:c.callee = .builtin .len)(ha:c.args.toList=[x])(hat:c.argTypes.toList=[t]){K:Eff→Option α}{r:α}
  (hK:effLen (E.TT t) s.objs (evalO s.slots x) K=some r):∃e,K e=some r∧Holds P m w0 MB s g o a w e:=by
 have hx:=h.eval x
 have run:∀{v:Value},(Builtin.len_ #[t] o.type #[a.eval x]).run P w = .ok v w→(execOp a.eval o).run P w = .ok (.value v) w:=fun hv=>by
  have e1:c.args = #[x]:=by rw[←Array.toList_inj];exact ha
  have e2:c.argTypes = #[t]:=by rw[←Array.toList_inj];exact hat
  unfold execOp
  rw[ho]
  simp only[resolve,hc,e1,e2,Sem.run_bind,Sem.run_pure,Result.andThen_ok,invoke,builtin,List.map_cons,List.map_nil,List.map_toArray,hv]
 revert hK hx
 generalize evalO s.slots x=sx
 intro hK hx
 unfold effLen at hK
 split at hK
 ·rename_i n p wn e u ht
  obtain⟨hu1,hu2⟩:=T.row ht
  obtain⟨d,Q,sz,hd,tot,g1,g2,g3,g4,A,c',e1,e2,e3,e4,e5⟩:=hx
  have rl:(Builtin.len_ #[t] o.type #[a.eval x]).run P w = .ok (.int .i64 (wn.lenN tot:Nat)) w:=by
   rw[e1]
   simp[Builtin.len_,run_underlying hu1,goInt]
  split at hK
  ·rename_i e' u' l hz
   have:=place0_of g1 g3 hz
   obtain⟨uq,yq,lq,bq,oq⟩:=Q
   cases this
   simp only[hdrP,Option.some.injEq,Prod.mk.injEq] at g4
   obtain⟨rfl,rfl,rfl⟩:=g4
   refine⟨_,hK,holds_quiet h (run rl) ?_⟩
   rw[Win.len_eq]
   exact⟨rfl,trivial,rfl⟩
  ·rename_i m' u' l hz
   have:=place0_of g1 g3 hz
   obtain⟨uq,yq,lq,bq,oq⟩:=Q
   cases this
   simp only[hdrP,Option.some.injEq,Prod.mk.injEq] at g4
   obtain⟨rfl,rfl,rfl⟩:=g4
   exact⟨_,hK,holds_quiet h (run rl) ⟨rfl,trivial,rfl⟩⟩
  ·cases hK
 ·rename_i e u ht
  obtain⟨hu1,hu2⟩:=T.row ht
  have e1:a.eval x = .slice none 0 0:=hx
  exact⟨_,hK,holds_quiet h (run (v:=.int .i64 0) (by rw[e1];simp[Builtin.len_,run_underlying hu1,goInt])) ⟨rfl,trivial,rfl⟩⟩
 ·rename_i q ht
  have e1:a.eval x = .string q:=hx.2.2
  exact⟨_,hK,holds_quiet h (run (v:=.int .i64 (ByteArray.size q:Int)) (by rw[e1];simp[Builtin.len_,run_underlying (T.str ht),goInt])) ⟨rfl,trivial,rfl⟩⟩
 ·rename_i m' u q m2 u2 ht
  split at hK
  ·rename_i he
   obtain⟨rfl,rfl⟩:=he
   obtain⟨e,g1,g2⟩:=T.arr ht
   exact⟨_,hK,holds_quiet h (run (v:=.int .i64 (m':Int)) (by simp[Builtin.len_,run_underlying g1,goInt])) ⟨rfl,trivial,rfl⟩⟩
  ·cases hK
 ·cases hK
theorem caps_rel(h:R m w0 MB s g a w):∀(l:List Operand) (cs:List (Nat×List Stp)),capsOf (l.map (evalO s.slots))=some cs→All2 (fun (c:Nat×List Stp) u=>PtrRel s.objs g c.1 c.2 false u) cs (l.map a.eval)
 |[],cs,hc=>by
  simp[capsOf] at hc
  subst hc
  exact⟨rfl,fun i x y hx=>by simp at hx⟩
 |x::l,cs,hc=>by
  have hx:=h.eval x
  simp only[List.map_cons] at hc ⊢
  unfold capsOf at hc
  split at hc
  ·rename_i hn
   cases hn
  ·rename_i n p r hn
   simp only[List.cons.injEq] at hn
   obtain⟨h1,rfl⟩:=hn
   split at hc
   ·rename_i l' hl
    obtain rfl:=Option.some.inj hc
    have ih:=caps_rel h l l' hl
    rw[h1] at hx
    refine⟨by simp[ih.1],fun i y z hy hz=>?_⟩
    cases i with
    |zero=>
     simp at hy hz
     subst hy
     subst hz
     exact hx
    |succ i=>exact ih.2 i y z (by simpa using hy) (by simpa using hz)
   ·cases hc
  ·cases hc
theorem makeFunc_holds(h:R m w0 MB s g a w){o:Oper}{f:Fn}{first caps:Array Operand}(ho:o.op = .makeFunc f first caps){K:Eff→Option α}{r:α}
  (hK:effMakeFunc f first.size (caps.toList.map (evalO s.slots)) K=some r):∃e,K e=some r∧Holds P m w0 MB s g o a w e:=by
 unfold effMakeFunc at hK
 split at hK
 ·rename_i gf cs hf hc
  have hf0:first = #[]:=by simpa using hf
  have e1:caps.map a.eval=(caps.toList.map a.eval).toArray:=by rw[←Array.toList_inj];simp
  exact⟨_,hK,holds_quiet h (v:=.func (.func gf) #[] (caps.map a.eval)) (by unfold execOp;rw[ho];simp[hf0,Instr.makeFunc]) ⟨_,by rw[e1],caps_rel h _ _ hc⟩⟩
 ·cases hK
theorem extract_holds(h:R m w0 MB s g a w){o:Oper}{x:Operand}{i:Nat}(ho:o.op = .extract x i){K:Eff→Option α}{r:α}
  (hK:effExtract (evalO s.slots x) i K=some r):∃e,K e=some r∧Holds P m w0 MB s g o a w e:=by
 have hx:=h.eval x
 revert hK hx
 generalize evalO s.slots x=sx
 intro hK hx
 unfold effExtract at hK
 split at hK
 ·rename_i l
  obtain⟨vs,e1,e2,e3⟩:=hx
  have key:∀t,l[i]? = some t→∃v,TRel s.objs g t v∧(execOp a.eval o).run P w = .ok (.value v) w:=by
   intro t ht
   have hi:i<vs.length:=by rw[←e2];exact (List.getElem?_eq_some_iff.1 ht).1
   refine⟨vs[i],e3 i t _ ht (List.getElem?_eq_getElem hi),?_⟩
   unfold execOp
   rw[ho]
   simp[e1,Instr.extract,List.getElem?_eq_getElem hi]
  split at hK
  ·rename_i t y ht
   obtain⟨v,h1,h2⟩:=key _ ht
   exact⟨_,hK,holds_quiet h h2 h1⟩
  ·rename_i n p wn ht
   obtain⟨v,h1,h2⟩:=key _ ht
   exact⟨_,hK,holds_quiet h h2 h1⟩
  ·rename_i ht
   obtain⟨v,h1,h2⟩:=key _ ht
   exact⟨_,hK,holds_quiet h h2 h1⟩
  ·cases hK
 ·cases hK
theorem PL_part:∀(t:Ty),t.flat=true→∀(x:t.den) (l:t.loc) (b o:Nat) (p:List Stp) (Q:Pl),getPL t x l b o p=some Q→Q.u.flat=true∧Q.b=b∧o≤Q.o∧Q.o+Q.u.size≤o+t.size∧((cells t x l).drop (Q.o-o)).take Q.u.size=cells Q.u Q.y Q.l∧(okV t x→okV Q.u Q.y)
 |t,hf,x,l,b,o,[],Q,h=>by
  rw[getPL_nil] at h
  obtain rfl:=Option.some.inj h
  refine⟨hf,rfl,Nat.le_refl _,Nat.le_refl _,?_,id⟩
  simp only[Nat.sub_self,List.drop_zero]
  rw[List.take_of_length_le (by rw[cells_length];exact Nat.le_refl _)]
 |.st t,hf,x,l,b,o,s::p,Q,h=>PL_part t hf x l b o (s::p) Q h
 |.pair c d,hf,x,l,b,o,.fst::p,Q,h=>by
  simp only[Ty.flat,Bool.and_eq_true] at hf
  obtain⟨h1,h2,h3,h4,h5,h6⟩:=PL_part c hf.1 x.1 l.1 b o p Q h
  refine⟨h1,h2,h3,by simp only[Ty.size];omega,?_,fun ok=>h6 ok.1⟩
  simp only[cells]
  rw[List.drop_append_of_le_length (by rw[cells_length];omega),List.take_append_of_le_length (by rw[List.length_drop,cells_length];omega),h5]
 |.pair c d,hf,x,l,b,o,.snd::p,Q,h=>by
  simp only[Ty.flat,Bool.and_eq_true] at hf
  obtain⟨h1,h2,h3,h4,h5,h6⟩:=PL_part d hf.2 x.2 l.2 b _ p Q h
  refine⟨h1,h2,by omega,by simp only[Ty.size];omega,?_,fun ok=>h6 ok.2⟩
  simp only[cells]
  rw[show Q.o-o=(cells c x.1 l.1).length+(Q.o-(o+c.size)) by rw[cells_length];omega,←List.drop_drop,List.drop_left,h5]
 |.arr n t,hf,x,l,b,o,.idx i::p,Q,h=>by
  unfold getPL at h
  split at h
  ·rename_i hi
   obtain⟨h1,h2,h3,h4,h5,h6⟩:=PL_part t hf _ _ b _ p Q h
   have hle:i*t.size+t.size≤n*t.size:=by rw[←Nat.succ_mul];exact Nat.mul_le_mul_right _ hi
   refine⟨h1,h2,by omega,by simp only[Ty.size];omega,?_,fun ok=>h6 (ok.2 i hi)⟩
   have e:=flatMap_range_get (fun i=>cells t (List.getD x i t.dflt) (l i)) t.size (fun i=>cells_length t _ _) n i hi
   rw[←e] at h5
   rw[←h5]
   simp only[cells]
   rw[List.drop_take,List.drop_drop,List.take_take,Nat.min_eq_left (by omega)]
   congr 2
   omega
  ·cases h
 |.int _,_,_,_,_,_,_::_,_,h=>by cases h
 |.bool,_,_,_,_,_,_::_,_,h=>by cases h
 |.str,_,_,_,_,_,_::_,_,h=>by cases h
 |.row _ _,hf,_,_,_,_,_::_,_,_=>by cases hf
 |.pair _ _,_,_,_,_,_,.idx _::_,_,h=>by cases h
 |.arr _ _,_,_,_,_,_,.fst::_,_,h=>by cases h
 |.arr _ _,_,_,_,_,_,.snd::_,_,h=>by cases h
theorem field_holds(T:TTok P E)(h:R m w0 MB s g a w){o:Oper}{t:TypeId}{x:Operand}{f:Nat}(ho:o.op = .field t x f){K:Eff→Option α}{r:α}
  (hK:effField E t (evalO s.slots x) f K=some r):∃e,K e=some r∧Holds P m w0 MB s g o a w e:=by
 have hx:=h.eval x
 revert hK hx
 generalize evalO s.slots x=sx
 intro hK hx
 unfold effField at hK
 split at hK
 ·rename_i u y t' ht
  split at hK
  ·rename_i he
   subst he
   split at hK
   ·rename_i q hq
    split at hK
    ·rename_i u2 z hz
     obtain⟨c1,c2,rfl,hq'⟩:=fpath_st hq
     obtain⟨fs,hu,hf,_⟩:=T.st ht
     obtain⟨fld,Q,h1,h2,h3,h4,h5,h6⟩:=field_PL (.pair c1 c2) f q fs.toList 0 y (Ty.pair c1 c2).dloc 0 0 hf hq'
     have hne:=fpathIn_ne hq'
     have h2':getPL (.st (.pair c1 c2)) y (Ty.pair c1 c2).dloc 0 0 q=some Q:=by
      match q,hne with
      |s::q,_=>exact h2
     have e:=getP_of_PL _ _ _ _ _ _ _ h2'
     rw[e] at hz
     obtain⟨p1,p2,p3,p4,p5,p6⟩:=PL_part _ hx.1 _ _ _ _ _ _ h2'
     obtain⟨uq,yq,lq,bq,oq⟩:=Q
     cases hz
     have h1':fs[f]? = some fld:=by simpa using h1
     have ev:a.eval x = .agg (encV (.st (.pair c1 c2)) y).toArray:=hx.2.2.trans (agg_of rfl y)
     refine⟨_,hK,holds_quiet h (v:=toV uq yq) ?_ ⟨p1,p6 hx.2.1,rfl⟩⟩
     unfold execOp
     rw[ho]
     simp only[ev,Instr.field,Sem.run_bind,run_underlying hu,Result.andThen_ok,h1',asAgg,Sem.run_pure]
     rw[run_part T h5 (z:=yq)]
     ·rfl
     ·simp only at p5 h4
      rw[cells_enc p1] at p5
      rw[show fld.offset=oq-0 by omega]
      exact p5
    ·cases hK
   ·cases hK
  ·cases hK
 ·cases hK
theorem index_holds(T:TTok P E)(h:R m w0 MB s g a w){o:Oper}{t:TypeId}{x i:Operand}(ho:o.op = .index t x i){K:Eff→Option α}{r:α}
  (hK:effIndex E t (evalO s.slots x) (evalO s.slots i) K=some r):∃e,K e=some r∧Holds P m w0 MB s g o a w e:=by
 have hx:=h.eval x
 have hi:=h.eval i
 revert hK hx hi
 generalize evalO s.slots x=sx
 generalize evalO s.slots i=si
 intro hK hx hi
 unfold effIndex at hK
 split at hK
 ·rename_i n u y k j
  split at hK
  ·rename_i ht
   obtain⟨hb,hK⟩:=cond_some hK
   simp only[Bool.and_eq_true,decide_eq_true_eq] at hb
   obtain⟨e,g1,g2⟩:=T.arr ht
   have ev:a.eval x = .agg (encV (.arr n u) y).toArray:=hx.2.2.trans (agg_of rfl y)
   have ej:a.eval i = .int k j:=hi.2.2
   have hlt:j.toNat<n:=toNat_lt hb.1 hb.2
   refine⟨_,hK,holds_quiet h (v:=toV u (List.getD y j.toNat u.dflt)) ?_ ⟨hx.1,hx.2.1.2 _ hlt,rfl⟩⟩
   unfold execOp
   rw[ho]
   simp only[ev,ej,Instr.index,asIntOf,Sem.run_bind,Sem.run_pure,Result.andThen_ok,run_underlying g1,if_pos hb,T.szof g2]
   rw[run_part T g2 (z:=List.getD y j.toNat u.dflt)]
   ·rfl
   ·exact flatMap_range_get (fun i=>cells u (List.getD y i u.dflt) u.dloc) u.size (fun i=>cells_length u _ _) n _ hlt
  ·cases hK
 ·rename_i q k j
  split at hK
  ·rename_i ht
   obtain⟨hb,hK⟩:=cond_some hK
   simp only[Bool.and_eq_true,decide_eq_true_eq] at hb
   have ev:a.eval x = .string q:=hx.2.2
   have ej:a.eval i = .int k j:=hi.2.2
   have hlt:Int.toNat j<ByteArray.size q:=toNat_lt hb.1 hb.2
   refine⟨_,hK,holds_quiet h (v:=.int .u8 (strAt q j.toNat)) ?_ ⟨rfl,trivial,rfl⟩⟩
   unfold execOp
   rw[ho]
   simp only[ev,ej,Instr.index,asIntOf,Sem.run_bind,Sem.run_pure,Result.andThen_ok,run_underlying (T.str ht),if_pos hb.1]
   rw[getElem?_pos q j.toNat hlt]
   simp only[strAt,dif_pos hlt,Sem.run_pure,Result.andThen_ok]
  ·cases hK
 ·cases hK
theorem mm_max:∀(l:List SV) (vs:List Value) (x:SV) (v:Value) (r:SV),SRel s.objs g x v→All2 (SRel s.objs g) l vs→mm true x l=some r→∃z,(vs.foldlM Builtin.max2 v).run P w = .ok z w∧SRel s.objs g r z
 |[],vs,x,v,r,hx,hl,hm=>by
  have:vs=[]:=List.eq_nil_of_length_eq_zero hl.1.symm
  subst this
  simp[mm] at hm
  subst hm
  exact⟨v,rfl,hx⟩
 |y::l,vs,x,v,r,hx,hl,hm=>by
  match vs,hl with
  |u::vs,hl=>
   unfold mm at hm
   split at hm
   ·rename_i hn;cases hn
   ·rename_i k a1 k' b1 r' hn
    simp only[List.cons.injEq] at hn
    obtain⟨rfl,rfl⟩:=hn
    split at hm
    ·rename_i e
     subst e
     have hu:=hl.2 0 _ _ rfl rfl
     have e1:v = .int k a1:=hx.2.2
     have e2:u = .int k b1:=hu.2.2
     obtain⟨z,h1,h2⟩:=mm_max l vs _ (.int k (if (a1:Int)<b1 then b1 else a1)) r (srel_int _ _ k _) ⟨by simpa using hl.1,fun i p q hp hq=>hl.2 (i+1) p q (by simpa using hp) (by simpa using hq)⟩ hm
     refine⟨z,?_,h2⟩
     rw[List.foldlM_cons,Sem.run_bind,e1,e2]
     simp only[Builtin.max2,Sem.run_pure,Result.andThen_ok]
     exact h1
    ·cases hm
   ·cases hm
  |[],hl=>simp[All2] at hl
theorem mm_min:∀(l:List SV) (vs:List Value) (x:SV) (v:Value) (r:SV),SRel s.objs g x v→All2 (SRel s.objs g) l vs→mm false x l=some r→∃z,(vs.foldlM Builtin.min2 v).run P w = .ok z w∧SRel s.objs g r z
 |[],vs,x,v,r,hx,hl,hm=>by
  have:vs=[]:=List.eq_nil_of_length_eq_zero hl.1.symm
  subst this
  simp[mm] at hm
  subst hm
  exact⟨v,rfl,hx⟩
 |y::l,vs,x,v,r,hx,hl,hm=>by
  match vs,hl with
  |u::vs,hl=>
   unfold mm at hm
   split at hm
   ·rename_i hn;cases hn
   ·rename_i k a1 k' b1 r' hn
    simp only[List.cons.injEq] at hn
    obtain⟨rfl,rfl⟩:=hn
    split at hm
    ·rename_i e
     subst e
     have hu:=hl.2 0 _ _ rfl rfl
     have e1:v = .int k a1:=hx.2.2
     have e2:u = .int k b1:=hu.2.2
     obtain⟨z,h1,h2⟩:=mm_min l vs _ (.int k (if (b1:Int)<a1 then b1 else a1)) r (srel_int _ _ k _) ⟨by simpa using hl.1,fun i p q hp hq=>hl.2 (i+1) p q (by simpa using hp) (by simpa using hq)⟩ hm
     refine⟨z,?_,h2⟩
     rw[List.foldlM_cons,Sem.run_bind,e1,e2]
     simp only[Builtin.min2,Sem.run_pure,Result.andThen_ok]
     exact h1
    ·cases hm
   ·cases hm
  |[],hl=>simp[All2] at hl
theorem minmax_holds(h:R m w0 MB s g a w){o:Oper}{c:Call}(isMax:Bool)(ho:o.op = .call c)(hc:c.callee = .builtin (if isMax then .max else .min)){K:Eff→Option α}{r:α}
  (hK:(match c.args.toList.map (evalO s.slots) with
   |x::r=>(match mm isMax x r with
    |some v=>K { v }
    |none=>none)
   |_=>none)=some r):∃e,K e=some r∧Holds P m w0 MB s g o a w e:=by
 have hall:∀l:List Operand,All2 (SRel s.objs g) (l.map (evalO s.slots)) (l.map a.eval):=fun l=>⟨by simp,fun i x y hx hy=>by
  rw[List.getElem?_map] at hx hy
  cases hq:l[i]? with
  |none=>rw[hq] at hx;cases hx
  |some q=>rw[hq] at hx hy;simp at hx hy;subst hx;subst hy;exact h.eval q⟩
 have ex:∀l:List Operand,c.args.toList=l→(c.args.map a.eval).toList=l.map a.eval:=fun l hl=>by simp[hl]
 cases hl:c.args.toList with
 |nil=>rw[hl] at hK;cases hK
 |cons x l=>
  rw[hl] at hK
  simp only[List.map_cons] at hK
  split at hK
  ·rename_i v hm
   have e1:=ex _ hl
   have hx:=h.eval x
   have hal:=hall l
   cases isMax
   ·obtain⟨z,h1,h2⟩:=mm_min (P:=P) (w:=w) _ _ _ _ _ hx hal hm
    refine⟨_,hK,holds_quiet h (v:=z) ?_ h2⟩
    unfold execOp
    rw[ho]
    simp only[resolve,hc,Bool.false_eq_true,if_false,Sem.run_bind,Sem.run_pure,Result.andThen_ok,invoke,builtin,Builtin.min_,e1,List.map_cons,h1]
   ·obtain⟨z,h1,h2⟩:=mm_max (P:=P) (w:=w) _ _ _ _ _ hx hal hm
    refine⟨_,hK,holds_quiet h (v:=z) ?_ h2⟩
    unfold execOp
    rw[ho]
    simp only[resolve,hc,if_true,Sem.run_bind,Sem.run_pure,Result.andThen_ok,invoke,builtin,Builtin.max_,e1,List.map_cons,h1]
  ·cases hK
end
end Go.Proofs.Ytlipfbihlmlplaa.G
namespace Go.Proofs.Ytlipfbihlmlplaa.G
open Go Go.RowKit
set_option linter.unusedVariables false
set_option linter.unusedSimpArgs false
theorem hdrBlk_lt{w:World}{own:Bool}{sz n:Nat}{h:Hdr}{cs:List Value}(r:RowAt w own sz h n cs):∀k,k∈hdrBlk own h n→k<w.heap.size:=by
 intro k hk
 unfold hdrBlk at hk
 split at hk
 ·rename_i ad ha
  split at hk
  ·rename_i hc
   obtain rfl:=List.mem_singleton.1 hk
   rcases hc with⟨h1,h2⟩|h1
   ·obtain⟨b,o,arr,e,e1,e2,_⟩:=r.own h1 h2
    rw[ha] at e1
    obtain rfl:=Option.some.inj e1
    exact (Array.getElem?_eq_some_iff.1 e2).1
   ·obtain⟨b,o,e1,e2,_⟩:=r.at_ h1
    rw[ha] at e1
    obtain rfl:=Option.some.inj e1
    exact e2
  ·cases hk
 ·cases hk
theorem blks_lt{w:World}{own:Bool}:∀(t:Ty) (h:Option (List Stp)) (x:t.den) (l:t.loc),memH w own t h x l→∀k,k∈blks own t h x l→k<w.heap.size
 |.int _,_,_,_,_,_,hk=>by cases hk
 |.bool,_,_,_,_,_,hk=>by cases hk
 |.str,_,_,_,_,_,hk=>by cases hk
 |.pair a b,h,x,l,m,k,hk=>by
  rcases List.mem_append.1 hk with hk|hk
  ·exact blks_lt a _ _ _ m.1 k hk
  ·exact blks_lt b _ _ _ m.2 k hk
 |.st t,h,x,l,m,k,hk=>blks_lt t h x l m k hk
 |.arr n t,h,x,l,m,k,hk=>by
  obtain⟨i,hi,hk⟩:=List.mem_flatMap.1 hk
  exact blks_lt t _ _ _ (m.2 i (List.mem_range.1 hi)) k hk
 |.row e t,h,x,l,m,k,hk=>by
  simp only[blks] at hk
  split at hk
  ·cases hk
  ·rename_i hl
   have m:=m.resolve_left hl
   rcases List.mem_append.1 hk with hk|hk
   ·exact hdrBlk_lt m.1 k hk
   ·obtain⟨i,hi,hk⟩:=List.mem_flatMap.1 hk
    exact blks_lt t _ _ _ (m.2 i (List.mem_range.1 hi)) k hk
section
variable {P:Program} {E:Env} {m:Nat} {w0:World} {MB:Out} {s:St} {g:Gh} {a:Act} {w:World} {α:Type}
def Gh.put(g:Gh)(n:Nat)(t:Ty)(L:Hdr×(Nat→t.loc)):Gh:=
 {g with G:=fun k u=>if k=n then (if h:t=u then h▸L else g.G k u) else g.G k u }
theorem Gh.put_same(g:Gh)(n:Nat)(t:Ty)(L:Hdr×(Nat→t.loc)):(g.put n t L).G n t=L:=by simp[Gh.put]
theorem Gh.put_ne(g:Gh){n k:Nat}(t:Ty)(L:Hdr×(Nat→t.loc))(h:k≠n):(g.put n t L).G k=g.G k:=by funext u;simp[Gh.put,h]
theorem blksO_put_ne(g:Gh){n k:Nat}(t:Ty)(L:Hdr×(Nat→t.loc))(h:k≠n)(x:Ob):blksO (g.put n t L) k x=blksO g k x:=by
 cases x with
 |dat d=>show blksD _ _ _=blksD _ _ _;unfold blksD;rw[Gh.put_ne g _ _ h]
 |bx _ _ _=>rfl
theorem obAt_set(objs:List (Option Ob))(n k:Nat)(x:Option Ob)(hn:n<objs.length):obAt (objs.set n x) k=if k=n then x else obAt objs k:=by
 unfold obAt
 exact getD_set objs n k x none hn
theorem obAt_lt{objs:List (Option Ob)}{n:Nat}{x:Ob}(h:obAt objs n=some x):n<objs.length:=by
 rcases Nat.lt_or_ge n objs.length with q|q
 ·exact q
 ·simp[obAt,List.getD_eq_getElem?_getD,List.getElem?_eq_none q] at h
theorem updAll_length:∀(u:List (Nat×Option Ob)) (o:List (Option Ob)),(updAll u o).length=o.length
 |[],_=>rfl
 |(n,x)::r,o=>by rw[updAll,updAll_length r];simp
theorem updAll_append:∀(u v:List (Nat×Option Ob)) (o:List (Option Ob)),updAll (u++v) o=updAll v (updAll u o)
 |[],_,_=>rfl
 |(n,x)::r,v,o=>updAll_append r v _
theorem obAt_gone:∀(ks:List Nat) (o:List (Option Ob)) (n:Nat),obAt (updAll (ks.map fun k=>(k,none)) o) n=if n∈ks then none else obAt o n
 |[],o,n=>by simp[updAll]
 |k::ks,o,n=>by
  rw[List.map_cons,updAll,obAt_gone ks]
  rcases Nat.lt_or_ge k o.length with hk|hk
  ·rw[obAt_set _ _ _ _ hk]
   by_cases h1:n∈ks
   ·simp[h1]
   ·by_cases h2:n=k<;>simp[h1,h2]
  ·have:o.set k none=o:=List.set_eq_of_length_le hk
   rw[this]
   by_cases h1:n∈ks
   ·simp[h1]
   ·by_cases h2:n=k
    ·subst h2
     simp[h1,obAt,List.getD_eq_getElem?_getD,List.getElem?_eq_none hk]
    ·simp[h1,h2]
theorem SRel.keep{objs objs':List (Option Ob)}{g g':Gh}{k l:List Nat}
  (hd:∀n x,obAt objs n=some x→n∉k→n∉l→obAt objs' n=some x∧g'.G n=g.G n∧g'.B n=g.B n)
  (hl:∀n d,datAt objs n=some d→n∉k→n∈l→∃d',datAt objs' n=some d'∧(∀P,rootPL g n d []=some P→∃P',rootPL g' n d' []=some P'∧∀sz h tot,hdrP P=some (sz,h,tot)→hdrP P'=some (sz,h,tot))∧d'.wr=d.wr ∧
   ∀p P,ncross d p→rootPL g n d p=some P→∃P',rootPL g' n d' p=some P'∧P'.b=P.b∧P'.o=P.o∧ncross d' p)
  (hb:∀n e q wn,obAt objs n=some (.bx e q wn)→n∉l)
  {sv:SV} {v:Value} (h:SRel objs g sv v) (hh:hits k l sv=false):SRel objs' g' sv v:=by
 have keepS:∀{n p wn v},SlRel objs g n p wn v→n∉k→(n∈l→p=[])→SlRel objs' g' n p wn v:=by
  rintro n p wn v ⟨d,P,sz,hd',tot,g1,g2,g3,g4,g5⟩ hk hp
  by_cases hnl:n∈l
  ·obtain rfl:=hp hnl
   obtain⟨d',e1,e2,e3,_⟩:=hl n d g1 hk hnl
   obtain⟨P',e4,e5⟩:=e2 P g3
   exact⟨d',P',sz,hd',tot,e1,fun _=>rfl,e4,e5 _ _ _ g4,by rw[e3];exact g5⟩
  ·obtain⟨e1,e2,_⟩:=hd n _ (datAt_ob.2 g1) hk hnl
   exact⟨d,P,sz,hd',tot,datAt_ob.1 e1,g2,by unfold rootPL;rw[e2];exact g3,g4,g5⟩
 have keepP:∀{n p c v},PtrRel objs g n p c v→n∉k→(n∈l→c=false)→PtrRel objs' g' n p c v:=by
  rintro n p c v (⟨d,P,g1,g2,g3,g4,g5⟩|⟨e,q,wn,g1,g2,g3⟩) hk hc
  ·by_cases hnl:n∈l
   ·obtain rfl:=hc hnl
    obtain⟨d',e1,_,_,e2⟩:=hl n d g1 hk hnl
    obtain⟨P',e3,e4,e5,e6⟩:=e2 p P (g5 rfl) g2
    exact .inl ⟨d',P',e1,e3,g3,by rw[e4,e5];exact g4,fun _=>e6⟩
   ·obtain⟨e1,e2,_⟩:=hd n _ (datAt_ob.2 g1) hk hnl
    exact .inl ⟨d,P,datAt_ob.1 e1,by unfold rootPL;rw[e2];exact g2,g3,g4,g5⟩
  ·obtain⟨e1,_,e2⟩:=hd n _ g1 hk (hb n e q wn g1)
   exact .inr ⟨e,q,wn,e1,g2,by rw[e2];exact g3⟩
 cases sv with
 |val t x=>exact h
 |sl n p wn=>
  simp only[hits,Bool.or_eq_false_iff,List.contains_eq_mem,decide_eq_false_iff_not,Bool.and_eq_false_iff] at hh
  refine keepS h hh.1 (fun hnl=>?_)
  rcases hh.2 with q|q
  ·exact absurd hnl q
  ·cases p with
   |nil=>rfl
   |cons _ _=>simp at q
 |ptr n p c=>
  simp only[hits,Bool.or_eq_false_iff,List.contains_eq_mem,decide_eq_false_iff_not,Bool.and_eq_false_iff] at hh
  refine keepP h hh.1 (fun hnl=>?_)
  rcases hh.2 with q|q
  ·exact q
  ·exact absurd hnl q
 |fn f cs=>
  obtain⟨vs,e1,e2,e3⟩:=h
  refine⟨vs,e1,e2,fun i c u hc hu=>keepP (e3 i c u hc hu) ?_ (fun _=>rfl)⟩
  simp only[hits,List.any_eq_false,List.contains_eq_mem,decide_eq_true_eq] at hh
  exact hh c (List.mem_of_getElem? hc)
 |tup ts=>
  obtain⟨vs,e1,e2,e3⟩:=h
  refine⟨vs,e1,e2,fun i t u ht hu=>?_⟩
  have:=e3 i t u ht hu
  simp only[hits,List.any_eq_false] at hh
  have hh:=hh t (List.mem_of_getElem? ht)
  cases t with
  |val _ _=>exact this
  |sl n p wn=>
   simp only[Bool.or_eq_true,List.contains_eq_mem,decide_eq_true_eq,not_or] at hh
   exact keepS this hh.1 (fun q=>absurd q hh.2)
  |nil=>exact this
 |nil=>exact h
 |unk=>exact h
 |dead=>trivial
theorem SlRel.keep{objs objs':List (Option Ob)}{g g':Gh}{n:Nat}{p:List Stp}{wn:Win}{v:Value}(h:SlRel objs g n p wn v)(hd:∀d,datAt objs n=some d→datAt objs' n=some d∧g'.G n=g.G n):SlRel objs' g' n p wn v:=by
 obtain⟨d,P,sz,hd',tot,g1,g2,g3,g4,g5⟩:=h
 obtain⟨e1,e2⟩:=hd d g1
 exact⟨d,P,sz,hd',tot,e1,g2,by unfold rootPL;rw[e2];exact g3,g4,g5⟩
theorem R.renew(h:R m w0 MB s g a w)(ks:List Nat)(dn:Nat)(d:Dat)(L:Hdr×(Nat→d.t.loc))(w':World)(sv:SV)(dst:Option Tmp)(v:Value)
  (hks:∀k,k∈ks→∃dk,datAt s.objs k=some dk∧dk.wr=true∧dk.fresh=true) (hdn:dn<s.objs.length) (hnew:obAt s.objs dn=none∨dn∈ks)
  (hd:d.wr=true∧d.fresh=true∧d.hole=none)
  (hfr:Fr [] w w'∨(w'.os=w.os∧TD w' w∧w'.output=w.output∧w.heap.size≤w'.heap.size))
  (hw':∀b,b<w.heap.size→(∀k dk,k∈ks→datAt s.objs k=some dk→b∉blksD g k dk)→w'.heap[b]? = w.heap[b]?)
  (hm:memH w' true (.row d.e d.t) none d.l L) (hnd:(blks true (.row d.e d.t) none d.l L).Nodup)
  (hb:∀b,b∈blks true (.row d.e d.t) none d.l L→w.heap.size≤b∨∃k dk,k∈ks∧datAt s.objs k=some dk∧b∈blksD g k dk)
  (hv:SRel (updAll (ks.map (fun k=>(k,none))++[(dn,some (.dat d))]) s.objs) (g.put dn d.t L) sv v):
  R m w0 MB (Eff.on { v:=sv,upd:=ks.map (fun k=>(k,none))++[(dn,some (.dat d))],kill:=ks } dst s) (g.put dn d.t L) (a.put dst v) w':=by
 have hst:w'.os=w.os∧TD w' w∧w'.output=w.output∧w.heap.size≤w'.heap.size:=hfr.elim (fun q=>⟨q.os,q.tape,q.output,q.size⟩) id
 have hob:∀n,obAt (updAll (ks.map (fun k=>(k,none))++[(dn,some (.dat d))]) s.objs) n=if n=dn then some (.dat d) else if n∈ks then none else obAt s.objs n:=fun n=>by
  rw[updAll_append]
  show obAt ((updAll (ks.map fun k=>(k,none)) s.objs).set dn (some (.dat d))) n=_
  rw[obAt_set _ _ _ _ (by rw[updAll_length];exact hdn),obAt_gone]
 have hold:∀n x,obAt (updAll (ks.map (fun k=>(k,none))++[(dn,some (.dat d))]) s.objs) n=some x→n=dn∧x = .dat d∨(n≠dn∧n∉ks∧obAt s.objs n=some x):=fun n x hx=>by
  rw[hob n] at hx
  split at hx
  ·rename_i e
   exact .inl ⟨e,(Option.some.inj hx).symm⟩
  ·rename_i e
   split at hx
   ·cases hx
   ·rename_i e2
    exact .inr ⟨e,e2,hx⟩
 have hstay:∀n x,obAt s.objs n=some x→n∉ks→obAt (updAll (ks.map (fun k=>(k,none))++[(dn,some (.dat d))]) s.objs) n=some x∧n≠dn:=fun n x hx hk=>by
  have hne:n≠dn:=fun e=>by
   rcases hnew with q|q
   ·rw[e,q] at hx;cases hx
   ·exact hk (e▸q)
  exact⟨by rw[hob n,if_neg hne,if_neg hk];exact hx,hne⟩
 have hblk:∀n x,n≠dn→n∉ks→obAt s.objs n=some x→∀b,b∈blksO g n x→b<w.heap.size∧w'.heap[b]? = w.heap[b]? := by
  intro n x hne hk hx b hbx
  have hlt:b<w.heap.size:=by
   cases x with
   |dat d0=>
    exact blks_lt _ _ _ _ (h.dat n d0 (datAt_ob.1 hx)) b hbx
   |bx e q wn=>
    obtain⟨d1,u,_,_,hc,_⟩:=h.bx n e q wn hx
    obtain rfl:=List.mem_singleton.1 hbx
    exact World.block_lt_of_cell? w _ hc
  refine⟨hlt,hw' b hlt (fun k dk hk1 hk2 hb2=>?_)⟩
  obtain⟨dk',e1,e2,_⟩:=hks k hk1
  rw[hk2] at e1
  obtain rfl:=Option.some.inj e1
  exact (h.sep k dk hk2 e2).2 n x (fun e=>hk (e▸hk1)) hx b hb2 hbx
 refine h.step _ dst v _ w' (fun sv' u hr hh=>?_) hv ?_ ?_ ?_ ?_ ?_ (fun n d0 hn hf0=>?_)
 ·refine SRel.keep (fun n x hx hk _=>?_) (fun n d0 _ _ hl=>by cases hl) (fun _ _ _ _ _ hl=>by cases hl) hr hh
  obtain⟨e1,e2⟩:=hstay n x hx hk
  exact⟨e1,Gh.put_ne g _ _ e2,rfl⟩
 ·intro n d0 hn
  rcases hold n _ (datAt_ob.2 hn) with⟨rfl,e⟩|⟨e1,e2,e3⟩
  ·simp only[Ob.dat.injEq] at e
   subst e
   rw[hd.1,hd.2.2,Gh.put_same]
   exact hm
  ·rw[Gh.put_ne g _ _ e1]
   exact memH_frame hst.2.2.2 _ _ _ _ (h.dat n d0 (datAt_ob.1 e3)) (fun b hb=>(hblk n _ e1 e2 e3 b hb).2)
 ·intro n e' k wn hn
  rcases hold n _ hn with⟨_,e⟩|⟨e1,e2,e3⟩
  ·cases e
  ·obtain⟨d1,u,q1,q2,q3,q4⟩:=h.bx n e' k wn e3
   have hk:k∉ks:=fun q=>by
    obtain⟨dk,e4,e5,_⟩:=hks k q
    rw[q1] at e4
    obtain rfl:=Option.some.inj e4
    rw[q2] at e5;cases e5
   obtain⟨e4,e5⟩:=hstay k _ (datAt_ob.2 q1) hk
   refine⟨d1,u,datAt_ob.1 e4,q2,(World.cell?_of_block (w:=w) (hblk n _ e1 e2 e3 _ (List.mem_singleton.2 rfl)).2).trans q3,q4.keep (fun d2 hd2=>?_)⟩
   rw[q1] at hd2
   obtain rfl:=Option.some.inj hd2
   exact⟨datAt_ob.1 e4,Gh.put_ne g _ _ e5⟩
 ·intro n d0 hn hwr
  rcases hold n _ (datAt_ob.2 hn) with⟨rfl,e⟩|⟨e1,e2,e3⟩
  ·simp only[Ob.dat.injEq] at e
   subst e
   have eb:blksD (g.put n d0.t L) n d0=blks true (.row d0.e d0.t) none d0.l L:=by unfold blksD;rw[hd.1,hd.2.2,Gh.put_same]
   rw[eb]
   refine⟨hnd,fun n' x hne hx b hb1 hb2=>?_⟩
   rcases hold n' x hx with⟨e,_⟩|⟨q1,q2,q3⟩
   ·exact hne e
   ·have eo:blksO (g.put n d0.t L) n' x=blksO g n' x:=blksO_put_ne g _ _ hne x
    rw[eo] at hb2
    rcases hb b hb1 with q4|⟨k,dk,k1,k2,k3⟩
    ·have:=(hblk n' x q1 q2 q3 b hb2).1;omega
    ·obtain⟨dk',e4,e5,_⟩:=hks k k1
     rw[k2] at e4
     obtain rfl:=Option.some.inj e4
     exact (h.sep k dk k2 e5).2 n' x (fun e=>q2 (e▸k1)) q3 b k3 hb2
  ·have eb:blksD (g.put dn d.t L) n d0=blksD g n d0:=by unfold blksD;rw[Gh.put_ne g _ _ e1]
   rw[eb]
   obtain⟨s1,s2⟩:=h.sep n d0 (datAt_ob.1 e3) hwr
   refine⟨s1,fun n' x hne hx b hb1 hb2=>?_⟩
   rcases hold n' x hx with⟨rfl,rfl⟩|⟨q1,q2,q3⟩
   ·have eo:blksO (g.put n' d.t L) n' (.dat d)=blks true (.row d.e d.t) none d.l L:=by show blksD _ _ _=_;unfold blksD;rw[hd.1,hd.2.2,Gh.put_same]
    rw[eo] at hb2
    rcases hb b hb2 with q4|⟨k,dk,k1,k2,k3⟩
    ·have:=(hblk n _ e1 e2 e3 b hb1).1;omega
    ·obtain⟨dk',e4,e5,_⟩:=hks k k1
     rw[k2] at e4
     obtain rfl:=Option.some.inj e4
     exact (h.sep k dk k2 e5).2 n _ (fun e=>e2 (e▸k1)) e3 b k3 hb1
   ·have eo:blksO (g.put dn d.t L) n' x=blksO g n' x:=blksO_put_ne g _ _ q1 x
    rw[eo] at hb2
    exact s2 n' x hne q3 b hb1 hb2
 ·intro n d0 hn hwr b hb1
  rcases hold n _ (datAt_ob.2 hn) with⟨rfl,e⟩|⟨e1,e2,e3⟩
  ·simp only[Ob.dat.injEq] at e
   subst e
   have eb:blksD (g.put n d0.t L) n d0=blks true (.row d0.e d0.t) none d0.l L:=by unfold blksD;rw[hd.1,hd.2.2,Gh.put_same]
   rw[eb] at hb1
   refine⟨fun _=>?_,fun q=>by rw[hd.2.1] at q;cases q⟩
   rcases hb b hb1 with q4|⟨k,dk,k1,k2,k3⟩
   ·exact Nat.le_trans h.frame.size q4
   ·obtain⟨dk',e4,e5,e6⟩:=hks k k1
    rw[k2] at e4
    obtain rfl:=Option.some.inj e4
    exact (h.fresh k dk k2 e5 b k3).1 e6
  ·have eb:blksD (g.put dn d.t L) n d0=blksD g n d0:=by unfold blksD;rw[Gh.put_ne g _ _ e1]
   rw[eb] at hb1
   exact h.fresh n d0 (datAt_ob.1 e3) hwr b hb1
 ·refine⟨hst.1.trans h.frame.os,hst.2.1.trans h.frame.tape,hst.2.2.1.trans h.frame.output,Nat.le_trans h.frame.size hst.2.2.2,fun b hb1 hb2=>?_⟩
  rw[hw' b (Nat.lt_of_lt_of_le hb1 h.frame.size) (fun k dk k1 k2 k3=>?_)]
  ·exact h.frame.block b hb1 hb2
  ·obtain⟨dk',e4,e5,e6⟩:=hks k k1
   rw[k2] at e4
   obtain rfl:=Option.some.inj e4
   have:=(h.fresh k dk k2 e5 b k3).1 e6
   omega
 ·have hnk:n∉ks:=fun q=>by
   obtain⟨dk,e4,_,e6⟩:=hks n q
   rw[hn] at e4
   obtain rfl:=Option.some.inj e4
   rw[hf0] at e6;cases e6
  obtain⟨e1,e2⟩:=hstay n _ (datAt_ob.2 hn) hnk
  exact⟨d0,datAt_ob.1 e1,rfl,rfl,rfl,hf0,rfl,by rw[Gh.put_ne g _ _ e2]⟩
end
end Go.Proofs.Ytlipfbihlmlplaa.G
