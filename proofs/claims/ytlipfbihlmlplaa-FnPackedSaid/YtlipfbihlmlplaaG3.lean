/- A reading of Go's operations over plain values, and its proof against the model: part 3. -/
import Derived.LoopN
import Derived.Test.YtlipfbihlmlplaaG2
namespace Go.Proofs.Ytlipfbihlmlplaa.G
open Go Go.RowKit
set_option linter.unusedVariables false
set_option linter.unusedSimpArgs false
theorem crosses_nil(t:Ty):crosses t []=false:=by cases t<;>rfl
structure Gent where
 G:(t:Ty)→Hdr×(Nat→t.loc)
 B:Nat×Nat
def gent(t:Ty)(L:Hdr×(Nat→t.loc)):Gent:=⟨fun u=>if h:t=u then h▸L else (⟨none,0⟩,fun _=>u.dloc),(0,0)⟩
theorem gent_same(t:Ty)(L:Hdr×(Nat→t.loc)):(gent t L).G t=L:=by simp[gent]
def gentB(b:Nat×Nat):Gent:=⟨fun u=>(⟨none,0⟩,fun _=>u.dloc),b⟩
def At(OBJS:List (Option Ob))(gh:Gh)(k:Nat)(O:List (Option Ob))(GL:List Gent):Prop:=∀j ob e,O[j]? = some ob→GL[j]? = some e→obAt OBJS (k+j)=ob∧gh.G (k+j)=e.G∧gh.B (k+j)=e.B
theorem At.left{OBJS:List (Option Ob)}{gh:Gh}{k:Nat}{O1 O2:List (Option Ob)}{G1 G2:List Gent}(hl:O1.length=G1.length)(h:At OBJS gh k (O1++O2) (G1++G2)):At OBJS gh k O1 G1:=fun j ob e h1 h2=>by
 have hj:=(List.getElem?_eq_some_iff.1 h1).1
 exact h j ob e (by rw[List.getElem?_append_left hj];exact h1) (by rw[List.getElem?_append_left (by omega)];exact h2)
theorem At.right{OBJS:List (Option Ob)}{gh:Gh}{k:Nat}{O1 O2:List (Option Ob)}{G1 G2:List Gent}(hl:O1.length=G1.length)(h:At OBJS gh k (O1++O2) (G1++G2)):At OBJS gh (k+O1.length) O2 G2:=fun j ob e h1 h2=>by
 have:=h (O1.length+j) ob e (by rw[List.getElem?_append_right (Nat.le_add_right _ _)];simpa using h1) (by rw[hl,List.getElem?_append_right (Nat.le_add_right _ _)];simpa using h2)
 rwa[←Nat.add_assoc] at this
def ObOk(w:World)(OBJS:List (Option Ob))(gh:Gh)(n:Nat)(ob:Ob)(src:Nat→Prop):Prop:=match ob with
 |.dat d=>memH w d.wr (.row d.e d.t) none d.l (gh.G n d.t)∧d.hole=none∧d.fresh=false∧(d.wr=true→(blksD gh n d).Nodup)∧∀b,b∈blksD gh n d→src b
 |.bx e k wn=>(∃d u,datAt OBJS k=some d∧d.wr=false∧w.cell? ⟨(gh.B n).1,(gh.B n).2,none⟩=some u∧SlRel OBJS gh k [] wn u)∧src (gh.B n).1
def fromN(objs:List (Option Ob))(g:Gh)(x:SV)(b:Nat):Prop:=∃nm ob,nm∈namesOf objs x∧obAt objs nm=some ob∧b∈blksO g nm ob
def capObs(k:Nat):Option TypeId×Cont→(Nat×List Stp)×List (Option Ob)
 |(none,c)=>((k,[.idx 0]),[some (.dat ⟨c.e,c.t,c.l,false,false,none⟩)])
 |(some e,c)=>((k+1,[.idx 0]),[some (.dat ⟨c.e,c.t,c.l,false,false,none⟩),some (.bx e k none)])
theorem introCaps_cons(k:Nat)(c:Option TypeId×Cont)(r:List (Option TypeId×Cont)):introCaps k (c::r)=((capObs k c).1::(introCaps (k+(capObs k c).2.length) r).1,(capObs k c).2++(introCaps (k+(capObs k c).2.length) r).2):=by
 obtain⟨oe,c⟩:=c
 cases oe<;>rfl
def introArg(mt:Bool)(k:Nat):AV→SV×List (Option Ob)×Option Nat
 |.nil=>(.nil,[],none)
 |.val t x=>(.val t x,[],none)
 |.obj ptr c=>((match ptr with|true=>.ptr k [.idx 0] false|false=>.sl k [] none),[some (.dat ⟨c.e,c.t,c.l,mt,false,none⟩)],some k)
 |.bx e c=>(.ptr (k+1) [.idx 0] false,[some (.dat ⟨c.e,c.t,c.l,false,false,none⟩),some (.bx e k none)],none)
 |.fn f cs=>(.fn f (introCaps k cs).1,(introCaps k cs).2,none)
theorem intro_cons(muts:List Nat)(i k:Nat)(a:AV)(r:List AV):
  intro muts i k (a::r)=⟨(introArg (muts.contains i) k a).1::(intro muts (i+1) (k+(introArg (muts.contains i) k a).2.1.length) r).slots,
   (introArg (muts.contains i) k a).2.1++(intro muts (i+1) (k+(introArg (muts.contains i) k a).2.1.length) r).objs,
   (introArg (muts.contains i) k a).2.2::(intro muts (i+1) (k+(introArg (muts.contains i) k a).2.1.length) r).names⟩:=by
 cases a<;>rfl
theorem at_one{OBJS:List (Option Ob)}{gh:Gh}{k:Nat}{ob:Option Ob}{e:Gent}(h:At OBJS gh k [ob] [e]):obAt OBJS k=ob∧gh.G k=e.G∧gh.B k=e.B:=h 0 ob e rfl rfl
theorem at_two{OBJS:List (Option Ob)}{gh:Gh}{k:Nat}{o1 o2:Option Ob}{e1 e2:Gent}(h:At OBJS gh k [o1,o2] [e1,e2]):(obAt OBJS k=o1∧gh.G k=e1.G∧gh.B k=e1.B)∧(obAt OBJS (k+1)=o2∧gh.G (k+1)=e2.G∧gh.B (k+1)=e2.B):=⟨h 0 o1 e1 rfl rfl,h 1 o2 e2 rfl rfl⟩
section
variable {P:Program} {E:Env} {m:Nat} {w0:World} {MB:Out} {s:St} {g:Gh} {a:Act} {w:World} {α:Type}
theorem look_ok{OBJS:List (Option Ob)}{gh:Gh}{k:Nat}{c:Cont}{A:Option Addr}{cap:Nat}{locs:Nat→c.t.loc}{src:Nat→Prop}
  (h1:memH w false (.row c.e c.t) none c.l (⟨A,cap⟩,locs)) (h2:∀b,b∈blks false (.row c.e c.t) none c.l (⟨A,cap⟩,locs)→src b)
  (ha:gh.G k=(gent c.t (⟨A,cap⟩,locs)).G):ObOk w OBJS gh k (.dat ⟨c.e,c.t,c.l,false,false,none⟩) src:=by
 refine⟨?_,rfl,rfl,fun q=>(by cases q),fun b hb=>h2 b ?_⟩
 ·rw[ha,gent_same];exact h1
 ·unfold blksD at hb;rw[ha,gent_same] at hb;exact hb
theorem look_sl{OBJS:List (Option Ob)}{gh:Gh}{k:Nat}{c:Cont}{A:Option Addr}{cap:Nat}{locs:Nat→c.t.loc}{v:Value}{mt:Bool}(hv:SlV mt c.t.size ⟨A,cap⟩ c.l.length none v)
  (ho:obAt OBJS k=some (.dat ⟨c.e,c.t,c.l,mt,false,none⟩)) (ha:gh.G k=(gent c.t (⟨A,cap⟩,locs)).G):SlRel OBJS gh k [] none v:=
 ⟨_,_,_,_,_,datAt_ob.1 ho,fun _=>rfl,getPL_nil _ _ _ _ _,rfl,by rw[ha,gent_same];exact hv⟩
theorem cap_in(h:R m w0 MB s g a w){n:Nat}{p:List Stp}{cc:Bool}{v:Value}(hv:PtrRel s.objs g n p cc v){c:Option TypeId×Cont}(hc:capOf s.objs n p=some c)(k:Nat):
  ∃GL:List Gent,(capObs k c).2.length=GL.length∧∀OBJS gh,At OBJS gh k (capObs k c).2 GL→PtrRel OBJS gh (capObs k c).1.1 (capObs k c).1.2 false v ∧
   ∀j ob,j<(capObs k c).2.length→obAt OBJS (k+j)=some ob→ObOk w OBJS gh (k+j) ob (fromN s.objs g (.ptr n p cc)):=by
 unfold capOf at hc
 split at hc
 ·rename_i d0 hb
  rcases hv with⟨d,Q,h1,h2,h3,h4,h5⟩|⟨e',k',wn',h1,h2,h3⟩
  ·split at hc
   ·rename_i u y hz
    split at hc
    ·rename_i hf
     obtain rfl:=Option.some.inj hc
     obtain⟨hze,hh⟩:=place_of h1 h2 hz
     obtain⟨uq,yq,lq,bq,oq⟩:=Q
     cases hze
     obtain⟨r1,m1⟩:=root_read h h1 hh h3 h2
     have hbq:=root_blk h3 (by rw[hh];exact .inl rfl) h2
     have hlt:=blks_lt _ _ _ _ (h.dat n d h1) _ hbq
     have hm:memH w false (.row 0 uq) none [yq] (⟨some ⟨bq,oq,none⟩,1⟩,fun _=>lq):=by
      refine .inr ⟨⟨Nat.le_refl _,fun _=>⟨bq,oq,rfl,hlt,by rw[rowCells_one];exact r1⟩,fun q=>by cases q⟩,fun i hi=>?_⟩
      have:i=0:=by simpa using hi
      subst this
      exact (memH_weak _ _ _ m1).1
     have hbl:∀b,b∈blks false (.row 0 uq) none [yq] (⟨some ⟨bq,oq,none⟩,1⟩,fun _=>lq)→fromN s.objs g (.ptr n p cc) b:=fun b hb=>by
      rw[show blks false (.row 0 uq) none [yq] (⟨some ⟨bq,oq,none⟩,1⟩,fun _=>lq)=[bq]++(List.range 1).flatMap (fun i=>blks false uq none (List.getD [yq] i uq.dflt) lq) from rfl] at hb
      rcases List.mem_append.1 hb with hb|hb
      ·obtain rfl:=List.mem_singleton.1 hb
       refine⟨n,.dat d,?_,datAt_ob.2 h1,hbq⟩
       simp[namesOf,hb]
       rw[datAt_ob.2 h1]
       simp
      ·obtain⟨i,_,hb⟩:=List.mem_flatMap.1 hb
       rw[blks_flat _ hf] at hb;cases hb
     refine⟨[gent uq (⟨some ⟨bq,oq,none⟩,1⟩,fun _=>lq)],rfl,fun OBJS gh hat=>?_⟩
     obtain⟨a1,a2,a3⟩:=at_one hat
     refine⟨.inl ⟨_,⟨uq,yq,lq,bq,oq⟩,datAt_ob.1 a1,?_,by simp[capObs],h4,fun _=>crosses_nil uq⟩,fun j ob hj hob=>?_⟩
     ·show getPL (.row 0 uq) [yq] (gh.G k uq) 0 0 [.idx 0]=_
      rw[a2,gent_same]
      unfold getPL
      simp[getPL_nil]
     ·have:j=0:=by simpa[capObs] using hj
      subst this
      rw[Nat.add_zero,a1] at hob
      obtain rfl:=Option.some.inj hob
      exact look_ok (c:=⟨0,uq,[yq]⟩) hm hbl a2
    ·cases hc
   ·cases hc
  ·rw[h1] at hb;cases hb
 ·rename_i e k0 wn hb
  split at hc
  ·rename_i c' hcont
   obtain rfl:=Option.some.inj hc
   rcases hv with⟨d,Q,h1,_⟩|⟨e',k',wn',h1,h2,h3⟩
   ·rw[datAt_ob.2 h1] at hb;cases hb
   ·rw[hb] at h1
    cases h1
    obtain⟨d,u',g1,g2,g3,g4⟩:=h.bx n e k0 wn hb
    unfold contOf at hcont
    split at hcont
    ·rename_i u l hs
     obtain rfl:=Option.some.inj hcont
     obtain⟨d',A,cap,locs,q1,q2,q3,q4,q5⟩:=sl_shown h g4 hs (rowE s.objs k0 [])
     refine⟨[gent u (⟨A,cap⟩,locs),gentB (g.B n)],rfl,fun OBJS gh hat=>?_⟩
     obtain⟨⟨a1,a2,a3⟩,b1,b2,b3⟩:=at_two hat
     have hnm:namesOf s.objs (.ptr n [.idx 0] cc)=[n,k0]:=by simp[namesOf,hb]
     refine⟨.inr ⟨e,k,none,b1,rfl,(by show v = .pointer (some ⟨(gh.B (k+1)).1,(gh.B (k+1)).2,none⟩);rw[b3];exact h3)⟩,fun j ob hj hob=>?_⟩
     have hj2:j=0∨j=1:=by simp only[capObs,List.length_cons,List.length_nil] at hj;omega
     rcases hj2 with rfl|rfl
     ·rw[Nat.add_zero,a1] at hob
      obtain rfl:=Option.some.inj hob
      exact look_ok (c:=⟨rowE s.objs k0 [],u,l⟩) q3 (fun b hb'=>⟨k0,.dat d',by rw[hnm];simp,datAt_ob.2 q1,q5 b hb'⟩) a2
     ·rw[b1] at hob
      obtain rfl:=Option.some.inj hob
      refine⟨⟨_,u',datAt_ob.1 a1,rfl,by rw[b3];exact g3,look_sl (c:=⟨rowE s.objs k0 [],u,l⟩) q4 a1 a2⟩,n,.bx e k0 wn,by rw[hnm];simp,hb,?_⟩
      rw[b3]
      simp[blksO,gentB]
    ·cases hcont
  ·cases hc
 ·cases hc
end
end Go.Proofs.Ytlipfbihlmlplaa.G
namespace Go.Proofs.Ytlipfbihlmlplaa.G
open Go Go.RowKit
set_option linter.unusedVariables false
set_option linter.unusedSimpArgs false
theorem All2.cons_iff{β γ:Type}{r:β→γ→Prop}{x:β}{y:γ}{l:List β}{k:List γ}:All2 r (x::l) (y::k)↔r x y∧All2 r l k:=by
 constructor
 ·rintro⟨h1,h2⟩
  exact⟨h2 0 x y rfl rfl,by simpa using h1,fun i a b ha hb=>h2 (i+1) a b (by simpa using ha) (by simpa using hb)⟩
 ·rintro⟨h1,h2,h3⟩
  refine⟨by simp[h2],fun i a b ha hb=>?_⟩
  cases i with
  |zero=>simp at ha hb;subst ha hb;exact h1
  |succ i=>exact h3 i a b (by simpa using ha) (by simpa using hb)
theorem All2.nil{β γ:Type}(r:β→γ→Prop):All2 r [] []:=⟨rfl,fun i a b h=>by simp at h⟩
theorem All2.nil_left{β γ:Type}{r:β→γ→Prop}{k:List γ}(h:All2 r [] k):k=[]:=List.eq_nil_of_length_eq_zero h.1.symm
theorem ObOk.mono{w:World}{OBJS:List (Option Ob)}{gh:Gh}{n:Nat}{ob:Ob}{src src':Nat→Prop}(h:ObOk w OBJS gh n ob src)(hs:∀b,src b→src' b):ObOk w OBJS gh n ob src':=by
 cases ob with
 |dat d=>exact⟨h.1,h.2.1,h.2.2.1,h.2.2.2.1,fun b hb=>hs b (h.2.2.2.2 b hb)⟩
 |bx e k wn=>exact⟨h.1,hs _ h.2⟩
theorem getP_nil(t:Ty)(x:t.den):getP t x []=some ⟨t,x⟩:=by cases t<;>rfl
section
variable {P:Program} {E:Env} {m:Nat} {w0:World} {MB:Out} {s:St} {g:Gh} {a:Act} {w:World} {α:Type}
theorem caps_in(h:R m w0 MB s g a w):∀(caps:List (Nat×List Stp)) (vs:List Value) (cs:List (Option TypeId×Cont)) (k:Nat),All2 (fun (c:Nat×List Stp) u=>PtrRel s.objs g c.1 c.2 false u) caps vs→caps.mapM (fun c=>capOf s.objs c.1 c.2)=some cs →
  ∃GL:List Gent,(introCaps k cs).2.length=GL.length∧∀OBJS gh,At OBJS gh k (introCaps k cs).2 GL→All2 (fun (c:Nat×List Stp) u=>PtrRel OBJS gh c.1 c.2 false u) (introCaps k cs).1 vs ∧
   ∀j ob,j<(introCaps k cs).2.length→obAt OBJS (k+j)=some ob→ObOk w OBJS gh (k+j) ob (fun b=>∃c,c∈caps∧fromN s.objs g (.ptr c.1 c.2 false) b)
 |[],vs,cs,k,hv,hc=>by
  obtain rfl:=hv.nil_left
  simp at hc
  subst hc
  exact⟨[],rfl,fun OBJS gh _=>⟨All2.nil _,fun j ob hj=>by simp[introCaps] at hj⟩⟩
 |c::caps,[],cs,k,hv,hc=>by have:=hv.1;simp at this
 |c::caps,v::vs,cs,k,hv,hc=>by
  obtain⟨hv1,hv2⟩:=All2.cons_iff.1 hv
  simp only[List.mapM_cons,Option.bind_eq_bind,Option.pure_def] at hc
  cases hc1:capOf s.objs c.1 c.2 with
  |none=>rw[hc1] at hc;cases hc
  |some c1=>
   cases hc2:caps.mapM (fun c=>capOf s.objs c.1 c.2) with
   |none=>rw[hc1,hc2] at hc;cases hc
   |some cs2=>
    rw[hc1,hc2] at hc
    obtain rfl:=Option.some.inj hc
    obtain⟨G1,l1,f1⟩:=cap_in h hv1 hc1 k
    obtain⟨G2,l2,f2⟩:=caps_in h caps vs cs2 (k+(capObs k c1).2.length) hv2 hc2
    rw[introCaps_cons]
    refine⟨G1++G2,by simp only[List.length_append];omega,fun OBJS gh hat=>?_⟩
    obtain⟨p1,p2⟩:=f1 OBJS gh (hat.left l1)
    obtain⟨p3,p4⟩:=f2 OBJS gh (hat.right l1)
    refine⟨All2.cons_iff.2 ⟨p1,p3⟩,fun j ob hj hob=>?_⟩
    rcases Nat.lt_or_ge j (capObs k c1).2.length with q|q
    ·exact (p2 j ob q hob).mono (fun b hb=>⟨c,by simp,hb⟩)
    ·obtain⟨j',rfl⟩:∃j',j=(capObs k c1).2.length+j':=⟨j-(capObs k c1).2.length,by omega⟩
     rw[←Nat.add_assoc] at hob ⊢
     simp only[List.length_append] at hj
     exact (p4 j' ob (by omega) hob).mono (fun b ⟨c',hc',hb⟩=>⟨c',by simp[hc'],hb⟩)
theorem wholeOf_cases{objs:List (Option Ob)}{x:SV}{n:Nat}{d:Dat}(h:wholeOf objs x=some (n,d)):
  (x = .sl n [] none∨(∃c,x = .ptr n [.idx 0] c)∧List.length d.l=1)∧datAt objs n=some d∧d.hole=none∧d.wr=true:=by
 unfold wholeOf at h
 split at h
 ·split at h
  ·rename_i d' hd
   split at h
   ·rename_i h1 h2
    simp only[Option.some.injEq,Prod.mk.injEq] at h
    obtain⟨rfl,rfl⟩:=h
    exact⟨.inl rfl,hd,h1,h2⟩
   ·cases h
  ·cases h
 ·split at h
  ·rename_i c d' hd
   split at h
   ·rename_i h1 h2
    split at h
    ·rename_i h3
     simp only[Option.some.injEq,Prod.mk.injEq] at h
     obtain⟨rfl,rfl⟩:=h
     exact⟨.inr ⟨⟨_,rfl⟩,h3⟩,hd,h1,h2⟩
    ·cases h
   ·cases h
  ·cases h
 ·cases h
theorem arg_in(h:R m w0 MB s g a w){x:SV}{v:Value}(hx:SRel s.objs g x v){t:TypeId}{av:AV}(hav:avOf E s.objs t x=some av)(mt:Bool)(hmt:mt=true→∃n d,wholeOf s.objs x=some (n,d))(k:Nat):
  ∃GL:List Gent,(introArg mt k av).2.1.length=GL.length ∧
   (∀OBJS gh,At OBJS gh k (introArg mt k av).2.1 GL→SRel OBJS gh (introArg mt k av).1 v∧∀j ob,j<(introArg mt k av).2.1.length→obAt OBJS (k+j)=some ob→ObOk w OBJS gh (k+j) ob (fromN s.objs g x)) ∧
   (mt=true→∀n d,wholeOf s.objs x=some (n,d)→∃e,(introArg mt k av).2.1=[some (.dat ⟨e,d.t,d.l,true,false,none⟩)]∧GL=[⟨g.G n,(0,0)⟩]):=by
 cases mt with
 |true=>
  obtain⟨n,d,hwo⟩:=hmt rfl
  obtain⟨hxs,hd,hh,hw⟩:=wholeOf_cases hwo
  have hm:=h.dat n d hd
  have hs:=(h.sep n d hd hw).1
  have hb0:blksD g n d=blks true (.row d.e d.t) none d.l (g.G n d.t):=by unfold blksD;rw[hh,hw]
  rw[hb0] at hs
  rw[hh,hw] at hm
  have fin:∀(e:TypeId) (OBJS:List (Option Ob)) (gh:Gh),At OBJS gh k [some (.dat ⟨e,d.t,d.l,true,false,none⟩)] [⟨g.G n,(0,0)⟩]→∀j ob,j<1→obAt OBJS (k+j)=some ob→n∈namesOf s.objs x→ObOk w OBJS gh (k+j) ob (fromN s.objs g x):=by
   intro e OBJS gh hat j ob hj hob hnx
   obtain⟨a1,a2,a3⟩:=at_one hat
   obtain rfl:j=0:=by omega
   rw[Nat.add_zero,a1] at hob
   obtain rfl:=Option.some.inj hob
   have eb:blksD gh k ⟨e,d.t,d.l,true,false,none⟩=blks true (.row d.e d.t) none d.l (g.G n d.t):=by unfold blksD;rw[a2];rfl
   refine⟨by rw[Nat.add_zero,a2];exact hm,rfl,rfl,fun _=>by rw[Nat.add_zero,eb];exact hs,fun b hb=>⟨n,.dat d,hnx,datAt_ob.2 hd,?_⟩⟩
   rw[Nat.add_zero,eb] at hb
   show b∈blksD g n d
   rw[hb0];exact hb
  rcases hxs with rfl|⟨⟨c,rfl⟩,h1⟩
  ·have hpl:place s.objs n []=some ⟨.row d.e d.t,d.l⟩:=by unfold place;rw[hd];simp only[hh];rfl
   have hav':av = .obj false ⟨d.e,d.t,d.l⟩:=by
    have:avOf E s.objs t (.sl n [] none)=some (.obj false ⟨d.e,d.t,d.l⟩):=by
     unfold avOf contOf shows rowE
     simp only[hpl]
     rfl
    rw[this] at hav
    exact (Option.some.inj hav).symm
   subst hav'
   refine⟨[⟨g.G n,(0,0)⟩],rfl,fun OBJS gh hat=>⟨?_,fun j ob hj hob=>fin d.e OBJS gh hat j ob hj hob (by simp[namesOf])⟩,fun _ n' d' hwo'=>?_⟩
   ·obtain⟨a1,a2,a3⟩:=at_one hat
    obtain⟨d2,Q,sz,hd',tot,g1,g2,g3,g4,g5⟩:=hx
    rw[hd] at g1
    obtain rfl:=Option.some.inj g1
    unfold rootPL at g3
    rw[getPL_nil] at g3
    obtain rfl:=Option.some.inj g3
    simp only[hdrP,Option.some.injEq,Prod.mk.injEq] at g4
    obtain⟨rfl,rfl,rfl⟩:=g4
    rw[hw] at g5
    exact⟨_,_,_,_,_,datAt_ob.1 a1,fun _=>rfl,getPL_nil _ _ _ _ _,rfl,by rw[a2];exact g5⟩
   ·rw[hwo] at hwo'
    simp only[Option.some.injEq,Prod.mk.injEq] at hwo'
    obtain⟨rfl,rfl⟩:=hwo'
    exact⟨d.e,rfl,rfl⟩
  ·obtain⟨z,hz⟩:=List.length_eq_one_iff.1 h1
   have hpl:place s.objs n [.idx 0]=some ⟨d.t,List.getD d.l 0 d.t.dflt⟩:=by unfold place;rw[hd];simp only[hh];exact getP_nil _ _
   have hdl:[List.getD d.l 0 d.t.dflt]=d.l:=by rw[hz];rfl
   have hcap:capOf s.objs n [.idx 0]=if d.t.flat=true then some (none,⟨0,d.t,[List.getD d.l 0 d.t.dflt]⟩) else none:=by unfold capOf;simp only[datAt_ob.2 hd,hpl]
   replace hav:(capOf s.objs n [.idx 0]).map capAV=some av:=hav
   rw[hcap] at hav
   split at hav
   ·rename_i hf
    obtain rfl:=Option.some.inj hav
    refine⟨[⟨g.G n,(0,0)⟩],rfl,fun OBJS gh hat=>?_,fun _ n' d' hwo'=>?_⟩
    ·have hat':At OBJS gh k [some (.dat ⟨0,d.t,d.l,true,false,none⟩)] [⟨g.G n,(0,0)⟩]:=by
      have:=hat
      simp only[introArg,capAV] at this
      rw[hdl] at this
      exact this
     refine⟨?_,fun j ob hj hob=>fin 0 OBJS gh hat' j ob hj hob (by simp[namesOf,datAt_ob.2 hd])⟩
     obtain⟨a1,a2,a3⟩:=at_one hat'
     rcases hx with⟨d2,Q,g1,g2,g3,g4,g5⟩|⟨e,q,wn,g1,_⟩
     ·rw[hd] at g1
      obtain rfl:=Option.some.inj g1
      refine .inl ⟨_,Q,datAt_ob.1 a1,?_,by simp[introArg,capAV],g4,fun _=>crosses_nil _⟩
      unfold rootPL at g2 ⊢
      rw[a2]
      exact g2
     ·rw[datAt_ob.2 hd] at g1;cases g1
    ·rw[hwo] at hwo'
     simp only[Option.some.injEq,Prod.mk.injEq] at hwo'
     obtain⟨rfl,rfl⟩:=hwo'
     exact⟨0,by simp only[introArg,capAV];rw[hdl],rfl⟩
   ·cases hav
 |false=>
  suffices hsuf:∃GL:List Gent,(introArg false k av).2.1.length=GL.length ∧
    (∀OBJS gh,At OBJS gh k (introArg false k av).2.1 GL→SRel OBJS gh (introArg false k av).1 v∧∀j ob,j<(introArg false k av).2.1.length→obAt OBJS (k+j)=some ob→ObOk w OBJS gh (k+j) ob (fromN s.objs g x)) by
   obtain⟨GL,h1,h2⟩:=hsuf
   exact⟨GL,h1,h2,fun q=>by cases q⟩
  cases x with
  |val u y=>
   unfold avOf at hav
   simp only at hav
   split at hav
   ·obtain rfl:=Option.some.inj hav
    exact⟨[],rfl,fun OBJS gh _=>⟨hx,fun j ob hj=>by simp[introArg] at hj⟩⟩
   ·cases hav
  |nil=>
   unfold avOf at hav
   simp only at hav
   split at hav
   ·rename_i e u ht
    obtain rfl:=Option.some.inj hav
    refine⟨[gent u (⟨none,0⟩,fun _=>u.dloc)],rfl,fun OBJS gh hat=>?_⟩
    obtain⟨a1,a2,a3⟩:=at_one hat
    refine⟨look_sl (c:=⟨e,u,[]⟩) (mt:=false) ⟨none,0,hx,by simp[Win.off,Win.lenN],Nat.le_refl _,fun q=>absurd q (Nat.lt_irrefl 0),fun q=>by cases q⟩ a1 a2,fun j ob hj hob=>?_⟩
    obtain rfl:j=0:=by simp[introArg] at hj;exact hj
    rw[Nat.add_zero,a1] at hob
    obtain rfl:=Option.some.inj hob
    refine look_ok (c:=⟨e,u,[]⟩) ?_ (fun b hb=>?_) a2
    ·exact .inr ⟨⟨Nat.le_refl 0,fun q=>absurd q (Nat.lt_irrefl 0),fun q=>by cases q⟩,fun i hi=>absurd hi (Nat.not_lt_zero i)⟩
    ·cases hb
   ·obtain rfl:=Option.some.inj hav
    exact⟨[],rfl,fun OBJS gh _=>⟨hx,fun j ob hj=>by simp[introArg] at hj⟩⟩
   ·cases hav
  |sl n p wn=>
   unfold avOf contOf at hav
   simp only at hav
   split at hav
   ·rename_i u l hs
    obtain rfl:=Option.some.inj hav
    obtain⟨d',A,cap,locs,q1,q2,q3,q4,q5⟩:=sl_shown h hx hs (rowE s.objs n p)
    refine⟨[gent u (⟨A,cap⟩,locs)],rfl,fun OBJS gh hat=>?_⟩
    obtain⟨a1,a2,a3⟩:=at_one hat
    refine⟨look_sl (c:=⟨rowE s.objs n p,u,l⟩) q4 a1 a2,fun j ob hj hob=>?_⟩
    obtain rfl:j=0:=by simp[introArg] at hj;exact hj
    rw[Nat.add_zero,a1] at hob
    obtain rfl:=Option.some.inj hob
    exact look_ok (c:=⟨rowE s.objs n p,u,l⟩) q3 (fun b hb=>⟨n,.dat d',by simp[namesOf],datAt_ob.2 q1,q5 b hb⟩) a2
   ·cases hav
  |ptr n p c=>
   unfold avOf at hav
   simp only at hav
   obtain⟨c1,hc1,rfl⟩:=Option.map_eq_some_iff.1 hav
   obtain⟨GL,l1,f1⟩:=cap_in h hx hc1 k
   obtain⟨oe,c1⟩:=c1
   cases oe with
   |none=>exact⟨GL,l1,f1⟩
   |some e=>exact⟨GL,l1,f1⟩
  |fn f caps=>
   unfold avOf at hav
   simp only at hav
   obtain⟨cs,hcs,rfl⟩:=Option.map_eq_some_iff.1 hav
   obtain⟨vs,e1,e2⟩:=hx
   obtain⟨GL,l1,f1⟩:=caps_in h caps vs cs k e2 hcs
   refine⟨GL,l1,fun OBJS gh hat=>?_⟩
   obtain⟨p1,p2⟩:=f1 OBJS gh hat
   refine⟨⟨vs,e1,p1⟩,fun j ob hj hob=>(p2 j ob hj hob).mono (fun b ⟨c,hc,nm,ob',h1,h2,h3⟩=>⟨nm,ob',?_,h2,h3⟩)⟩
   exact List.mem_flatMap.2 ⟨c,hc,h1⟩
  |tup l=>cases hav
  |unk=>cases hav
  |dead=>cases hav
end
end Go.Proofs.Ytlipfbihlmlplaa.G
namespace Go.Proofs.Ytlipfbihlmlplaa.G
open Go Go.RowKit
set_option linter.unusedVariables false
set_option linter.unusedSimpArgs false
def Handed(E:Env)(objs:List (Option Ob))(g:Gh):List SV→List Value→List AV→Prop
 |[],[],[]=>True
 |x::xs,v::vs,a::as=>SRel objs g x v∧(∃t,avOf E objs t x=some a)∧Handed E objs g xs vs as
 |_,_,_=>False
theorem introArg_name{mt:Bool}{k nm:Nat}{av:AV}(h:(introArg mt k av).2.2=some nm):∃ptr c,nm=k∧av = .obj ptr c∧(introArg mt k av).2.1=[some (.dat ⟨c.e,c.t,c.l,mt,false,none⟩)]∧(introArg mt k av).1=(match ptr with|true=>.ptr k [.idx 0] false|false=>.sl k [] none):=by
 cases av with
 |obj ptr c=>
  simp only[introArg,Option.some.injEq] at h
  exact⟨ptr,c,h.symm,rfl,rfl,rfl⟩
 |_=>cases h
theorem introCaps_wr:∀(cs:List (Option TypeId×Cont)) (k j:Nat) (d:Dat),(introCaps k cs).2[j]? = some (some (.dat d))→d.wr=false
 |[],k,j,d,h=>by simp[introCaps] at h
 |(oe,c)::cs,k,j,d,h=>by
  rw[introCaps_cons] at h
  rcases Nat.lt_or_ge j (capObs k (oe,c)).2.length with q|q
  ·rw[List.getElem?_append_left q] at h
   cases oe with
   |none=>
    simp only[capObs,List.length_cons,List.length_nil] at q h
    obtain rfl:j=0:=by omega
    simp at h
    rw[←h]
   |some e=>
    simp only[capObs,List.length_cons,List.length_nil] at q h
    rcases Nat.lt_or_ge j 1 with q1|q1
    ·obtain rfl:j=0:=by omega
     simp at h
     rw[←h]
    ·obtain rfl:j=1:=by omega
     simp at h
  ·rw[List.getElem?_append_right q] at h
   exact introCaps_wr cs _ _ d h
theorem introArg_wr{mt:Bool}{k j:Nat}{av:AV}{d:Dat}(h:(introArg mt k av).2.1[j]? = some (some (.dat d)))(hw:d.wr=true):mt=true:=by
 cases av with
 |nil=>simp[introArg] at h
 |val t x=>simp[introArg] at h
 |obj ptr c=>
  cases j with
  |zero=>simp[introArg] at h;rw[←h] at hw;exact hw
  |succ j=>simp[introArg] at h
 |bx e c=>
  match j with
  |0=>simp[introArg] at h;rw[←h] at hw;cases hw
  |1=>simp[introArg] at h
  |j+2=>simp[introArg] at h
 |fn f cs=>
  have:=introCaps_wr cs k j d h
  rw[this] at hw;cases hw
section
variable {P:Program} {E:Env} {m:Nat} {w0:World} {MB:Out} {s:St} {g:Gh} {a:Act} {w:World} {α:Type}
structure Introduced(w:World)(objs:List (Option Ob))(g:Gh)(muts:List Nat)(i k:Nat)(xs:List SV)(vs:List Value)(avs:List AV)(GL:List Gent)(src:Nat→Nat):Prop where
 len:(intro muts i k avs).objs.length=GL.length
 ok:∀OBJS gh,At OBJS gh k (intro muts i k avs).objs GL→All2 (SRel OBJS gh) (intro muts i k avs).slots vs ∧
  ∀j ob,j<GL.length→obAt OBJS (k+j)=some ob→∃x,xs[src j]? = some x∧ObOk w OBJS gh (k+j) ob (fromN objs g x)
 one:∀j1 j2,j1<GL.length→j2<GL.length→src j1=src j2→muts.contains (i+src j1)=true→j1=j2
 names:∀i' nm,(intro muts i k avs).names[i']? = some (some nm)→∃j ptr c,nm=k+j∧j<GL.length∧src j=i'∧avs[i']? = some (.obj ptr c) ∧
  (intro muts i k avs).objs[j]? = some (some (.dat ⟨c.e,c.t,c.l,muts.contains (i+i'),false,none⟩))∧(intro muts i k avs).slots[i']? = some (match ptr with|true=>.ptr nm [.idx 0] false|false=>.sl nm [] none)
 mutAt:∀i' x n d,xs[i']? = some x→muts.contains (i+i')=true→wholeOf objs x=some (n,d)→∃j e,j<GL.length∧src j=i'∧(intro muts i k avs).objs[j]? = some (some (.dat ⟨e,d.t,d.l,true,false,none⟩))∧GL[j]? = some ⟨g.G n,(0,0)⟩∧(intro muts i k avs).names[i']? = some (some (k+j))
 wrAt:∀j d,(intro muts i k avs).objs[j]? = some (some (.dat d))→d.wr=true→muts.contains (i+src j)=true
 lens:(intro muts i k avs).slots.length=xs.length∧(intro muts i k avs).names.length=xs.length∧vs.length=xs.length
theorem introArg_mut_name{k:Nat}{t:TypeId}{x:SV}{av:AV}{n:Nat}{d:Dat}(hav:avOf E s.objs t x=some av)(hw:wholeOf s.objs x=some (n,d)):(introArg true k av).2.2=some k:=by
 obtain⟨hxs,hd,hh,_⟩:=wholeOf_cases hw
 rcases hxs with rfl|⟨⟨c,rfl⟩,_⟩
 ·unfold avOf at hav
  simp only at hav
  obtain⟨c,_,rfl⟩:=Option.map_eq_some_iff.1 hav
  rfl
 ·unfold avOf at hav
  simp only at hav
  obtain⟨c,hc,rfl⟩:=Option.map_eq_some_iff.1 hav
  unfold capOf at hc
  rw[datAt_ob.2 hd] at hc
  simp only at hc
  split at hc
  ·split at hc
   ·obtain rfl:=Option.some.inj hc
    rfl
   ·cases hc
  ·cases hc
theorem intro_ok(h:R m w0 MB s g a w)(muts:List Nat):∀(xs:List SV) (vs:List Value) (avs:List AV) (i k:Nat),Handed E s.objs g xs vs avs →
  (∀j x,xs[j]? = some x→muts.contains (i+j)=true→∃n d,wholeOf s.objs x=some (n,d))→∃GL src,Introduced w s.objs g muts i k xs vs avs GL src
 |[],[],[],i,k,_,_=>⟨[],fun _=>0,rfl,fun _ _ _=>⟨All2.nil _,fun j ob hj=>absurd hj (Nat.not_lt_zero j)⟩,fun j1 j2 hj=>absurd hj (Nat.not_lt_zero j1),fun i' nm hn=>by simp[intro] at hn,
   fun i' x n d hx=>by simp at hx,fun j d hj=>by simp[intro] at hj,rfl,rfl,rfl⟩
 |x::xs,v::vs,av::avs,i,k,hh,hm=>by
  obtain⟨h1,⟨t,h2⟩,h3⟩:=hh
  obtain⟨G1,l1,f1,m1⟩:=arg_in h h1 h2 (muts.contains i) (fun q=>hm 0 x rfl (by simpa using q)) k
  obtain⟨G2,src,I⟩:=intro_ok h muts xs vs avs (i+1) (k+(introArg (muts.contains i) k av).2.1.length) h3 (fun j y hy hc=>hm (j+1) y (by simpa using hy) (by rwa[←Nat.add_assoc,Nat.add_right_comm]))
  have hsh:∀j,(i+1)+j=i+(j+1):=fun j=>by omega
  refine⟨G1++G2,fun j=>if j<G1.length then 0 else src (j-G1.length)+1,?_,?_,?_,?_,?_,?_,?_⟩
  ·rw[intro_cons]
   have:=I.len
   simp only[List.length_append]
   omega
  ·intro OBJS gh hat
   rw[intro_cons] at hat ⊢
   obtain⟨p1,p2⟩:=f1 OBJS gh (hat.left l1)
   obtain⟨p3,p4⟩:=I.ok OBJS gh (hat.right l1)
   refine⟨All2.cons_iff.2 ⟨p1,p3⟩,fun j ob hj hob=>?_⟩
   try simp only
   rcases Nat.lt_or_ge j G1.length with q|q
   ·rw[if_pos q]
    exact⟨x,rfl,p2 j ob (by omega) hob⟩
   ·rw[if_neg (by omega)]
    obtain⟨j',rfl⟩:∃j',j=G1.length+j':=⟨j-G1.length,by omega⟩
    simp only[List.length_append] at hj
    rw[Nat.add_sub_cancel_left]
    obtain⟨y,hy,hok⟩:=p4 j' ob (by omega) (by rw[l1,Nat.add_assoc];exact hob)
    refine⟨y,by simpa using hy,?_⟩
    rw[l1,Nat.add_assoc] at hok
    exact hok
  ·intro j1 j2 hj1 hj2 he hc
   try simp only at he hc
   simp only[List.length_append] at hj1 hj2
   rcases Nat.lt_or_ge j1 G1.length with q1|q1
   ·rw[if_pos q1] at he hc
    rcases Nat.lt_or_ge j2 G1.length with q2|q2
    ·have hc':muts.contains i=true:=by simpa using hc
     obtain⟨n,d,hw⟩:=hm 0 x rfl (by simpa using hc)
     obtain⟨e,_,hg⟩:=m1 hc' n d hw
     rw[hg] at q1 q2
     simp at q1 q2
     omega
    ·rw[if_neg (by omega)] at he;omega
   ·rw[if_neg (by omega)] at he hc
    rcases Nat.lt_or_ge j2 G1.length with q2|q2
    ·rw[if_pos q2] at he;omega
    ·rw[if_neg (by omega)] at he
     have:=I.one (j1-G1.length) (j2-G1.length) (by omega) (by omega) (by omega) (by rw[hsh];exact hc)
     omega
  ·intro i' nm hn
   rw[intro_cons] at hn ⊢
   cases i' with
   |zero=>
    simp only[List.getElem?_cons_zero,Option.some.injEq] at hn
    obtain⟨ptr,c,e1,e2,e3,e4⟩:=introArg_name hn
    have hg1:G1.length=1:=by rw[←l1,e3];rfl
    refine⟨0,ptr,c,by rw[e1];rfl,by simp only[List.length_append];omega,by rw[if_pos (by omega)],by rw[e2];rfl,?_,?_⟩
    ·simp only[e3,Nat.add_zero];rfl
    ·simp only[List.getElem?_cons_zero,e4,e1]
   |succ i'=>
    simp only[List.getElem?_cons_succ] at hn
    obtain⟨j,ptr,c,e1,e2,e3,e4,e5,e6⟩:=I.names i' nm hn
    refine⟨G1.length+j,ptr,c,by rw[e1,l1];omega,by simp only[List.length_append];omega,?_,by simpa using e4,?_,by simpa using e6⟩
    ·rw[if_neg (by omega),Nat.add_sub_cancel_left,e3]
    ·rw[hsh] at e5
     simp only
     rw[List.getElem?_append_right (by omega),l1,Nat.add_sub_cancel_left]
     rw[l1] at e5
     exact e5
  ·intro i' y n d hy hc hw
   rw[intro_cons]
   cases i' with
   |zero=>
    simp only[List.getElem?_cons_zero,Option.some.injEq] at hy
    subst hy
    have hc':muts.contains i=true:=by simpa using hc
    obtain⟨e,ho,hg⟩:=m1 hc' n d hw
    refine⟨0,e,by rw[hg];simp,by rw[if_pos (by rw[hg];simp)],by simp only[ho];rfl,by rw[hg];rfl,?_⟩
    simp only[List.getElem?_cons_zero,Option.some.injEq,Nat.add_zero]
    rw[hc']
    exact introArg_mut_name h2 hw
   |succ i'=>
    simp only[List.getElem?_cons_succ] at hy
    obtain⟨j,e,e1,e2,e3,e4,e5⟩:=I.mutAt i' y n d hy (by rw[hsh];exact hc) hw
    refine⟨G1.length+j,e,by simp only[List.length_append];omega,?_,?_,?_,?_⟩
    ·rw[if_neg (by omega),Nat.add_sub_cancel_left,e2]
    ·simp only
     rw[List.getElem?_append_right (by omega),l1,Nat.add_sub_cancel_left]
     rw[l1] at e3
     exact e3
    ·rw[List.getElem?_append_right (by omega),Nat.add_sub_cancel_left];exact e4
    ·simp only[List.getElem?_cons_succ]
     rw[e5,l1,Nat.add_assoc]
  ·intro j d hj hw
   rw[intro_cons] at hj
   simp only at hj ⊢
   rcases Nat.lt_or_ge j G1.length with q|q
   ·rw[List.getElem?_append_left (by omega)] at hj
    rw[if_pos q,Nat.add_zero]
    exact introArg_wr hj hw
   ·rw[List.getElem?_append_right (by omega)] at hj
    rw[if_neg (by omega)]
    have:=I.wrAt _ d hj hw
    rw[hsh,l1] at this
    exact this
  ·rw[intro_cons]
   obtain⟨q1,q2,q3⟩:=I.lens
   exact⟨by rw[List.length_cons,List.length_cons,q1],by rw[List.length_cons,List.length_cons,q2],by rw[List.length_cons,List.length_cons,q3]⟩
 |[],[],_::_,_,_,hh,_=>hh.elim
 |[],_::_,_,_,_,hh,_=>hh.elim
 |_::_,[],_,_,_,hh,_=>hh.elim
 |_::_,_::_,[],_,_,hh,_=>hh.elim
end
end Go.Proofs.Ytlipfbihlmlplaa.G
namespace Go.Proofs.Ytlipfbihlmlplaa.G
open Go Go.RowKit
set_option linter.unusedVariables false
set_option linter.unusedSimpArgs false
def gent0:Gent:=⟨fun u=>(⟨none,0⟩,fun _=>u.dloc),(0,0)⟩
def ghOf(GL:List Gent):Gh:=⟨fun n=>(GL.getD n gent0).G,fun n=>(GL.getD n gent0).B⟩
theorem at_self{O:List (Option Ob)}{GL:List Gent}:At O (ghOf GL) 0 O GL:=fun j ob e h1 h2=>by
 rw[Nat.zero_add]
 refine⟨by unfold obAt;rw[List.getD_eq_getElem?_getD,h1];rfl,?_,?_⟩<;>simp[ghOf,List.getD_eq_getElem?_getD,h2]
def pinsOf(O:List (Option Ob))(gh:Gh):List Pin:=(List.range O.length).filterMap fun n=>(datAt O n).map fun d=>⟨n,d.e,d.t,d.wr,(gh.G n d.t).1,List.length d.l⟩
theorem pins_mem{O:List (Option Ob)}{gh:Gh}{n:Nat}{d:Dat}(h:datAt O n=some d):(⟨n,d.e,d.t,d.wr,(gh.G n d.t).1,List.length d.l⟩:Pin)∈pinsOf O gh:=by
 refine List.mem_filterMap.2 ⟨n,List.mem_range.2 (obAt_lt (datAt_ob.2 h)),?_⟩
 rw[h];rfl
theorem pins_of{O:List (Option Ob)}{gh:Gh}{q:Pin}(h:q∈pinsOf O gh):∃d,datAt O q.n=some d∧q=⟨q.n,d.e,d.t,d.wr,(gh.G q.n d.t).1,List.length d.l⟩:=by
 obtain⟨n,_,h⟩:=List.mem_filterMap.1 h
 obtain⟨d,hd,rfl⟩:=Option.map_eq_some_iff.1 h
 exact⟨d,hd,rfl⟩
def retV:List Value→Value
 |[v]=>v
 |l=>.tuple l.toArray
def Post(sig:Sig)(avs:List AV)(w:World)(gh:Gh)(MBb:List Nat)(r:Res)(v:Value)(w':World):Prop:=
 ∃objs' g' xs' vs',R xs'.length w ⟨MBb,pinsOf (intro sig.muts 0 0 avs).objs gh⟩ ⟨xs',objs'⟩ g' ⟨vs'.toArray,[]⟩ w' ∧
  outsOf (intro sig.muts 0 0 avs).objs.length objs' (intro sig.muts 0 0 avs).names xs' []=some r.rets∧sig.muts.mapM (mutOut objs' (intro sig.muts 0 0 avs).names)=some r.muts∧v=retV vs'
structure Sound(P:Program)(f:FuncId)(sig:Sig):Prop where
 fn : ∃ fn, P.funcs[f]? = some fn ∧ fn.name ≠ "runtime.NumGoroutine" ∧ fn.body.isNone = false
 does:∀avs r,sig.F Res avs some=some r→∀(vs:List Value) (w:World) (gh:Gh) (MBb:List Nat),
  R (intro sig.muts 0 0 avs).slots.length w ⟨MBb,pinsOf (intro sig.muts 0 0 avs).objs gh⟩ ⟨(intro sig.muts 0 0 avs).slots,(intro sig.muts 0 0 avs).objs⟩ gh ⟨vs.toArray,[]⟩ w →
  Calls P f vs.toArray w fun|.returned v,w'=>Post sig avs w gh MBb r v w'|_,_=>False
section
variable {P:Program} {E:Env} {m:Nat} {w0:World} {MB:Out} {s:St} {g:Gh} {a:Act} {w:World} {α:Type}
theorem whole_names{objs:List (Option Ob)}{x:SV}{n:Nat}{d:Dat}(h:wholeOf objs x=some (n,d)):namesOf objs x=[n]:=by
 obtain⟨hxs,hd,_⟩:=wholeOf_cases h
 rcases hxs with rfl|⟨⟨c,rfl⟩,_⟩
 ·rfl
 ·simp[namesOf,datAt_ob.2 hd]
theorem mutsOk_cases{objs:List (Option Ob)}{xs:List SV}{muts:List Nat}(h:mutsOk objs xs muts=true):
  muts=[]∨∃i x n d,muts=[i]∧xs[i]? = some x∧wholeOf objs x=some (n,d)∧∀j y,xs[j]? = some y→j≠i→n∉namesOf objs y:=by
 unfold mutsOk at h
 split at h
 ·exact .inl rfl
 ·rename_i i
  split at h
  ·rename_i n d hb
   obtain⟨x,hx,hw⟩:=Option.bind_eq_some_iff.1 hb
   refine .inr ⟨i,x,n,d,rfl,hx,hw,fun j y hy hne hn=>?_⟩
   have:=List.all_eq_true.1 h j (List.mem_range.2 (List.getElem?_eq_some_iff.1 hy).1)
   simp only[Bool.or_eq_true,beq_iff_eq,Bool.not_eq_true',List.contains_eq_mem,decide_eq_false_iff_not] at this
   rcases this with q|q
   ·exact hne q
   ·rw[List.getD_eq_getElem?_getD,hy] at q
    exact q hn
  ·cases h
 ·cases h
theorem callee_R(h:R m w0 MB s g a w){xs:List SV}{vs:List Value}{avs:List AV}{muts:List Nat}(hh:Handed E s.objs g xs vs avs)(hm:mutsOk s.objs xs muts=true):
  ∃GL src MBb,Introduced w s.objs g muts 0 0 xs vs avs GL src ∧
   R (intro muts 0 0 avs).slots.length w ⟨MBb,pinsOf (intro muts 0 0 avs).objs (ghOf GL)⟩ ⟨(intro muts 0 0 avs).slots,(intro muts 0 0 avs).objs⟩ (ghOf GL) ⟨vs.toArray,[]⟩ w ∧
   (muts=[]→MBb=[])∧∀i x n d,muts=[i]→xs[i]? = some x→wholeOf s.objs x=some (n,d)→MBb=blksD g n d:=by
 have hmm:=mutsOk_cases hm
 obtain⟨GL,src,I⟩:=intro_ok (E:=E) h muts xs vs avs 0 0 hh (fun j x hx hc=>by
  rcases hmm with rfl|⟨i,y,n,d,rfl,hy,hw,_⟩
  ·simp at hc
  ·have:j=i:=by simpa using hc
   subst this
   rw[hx] at hy
   obtain rfl:=Option.some.inj hy
   exact⟨n,d,hw⟩)
 obtain⟨okS,okO⟩:=I.ok _ _ at_self
 obtain⟨q1,q2,q3⟩:=I.lens
 have okO':∀n ob,obAt (intro muts 0 0 avs).objs n=some ob→∃x,xs[src n]? = some x∧ObOk w (intro muts 0 0 avs).objs (ghOf GL) n ob (fromN s.objs g x):=fun n ob hob=>by
  have hlt:=obAt_lt hob
  rw[I.len] at hlt
  have:=okO n ob hlt (by rw[Nat.zero_add];exact hob)
  rwa[Nat.zero_add] at this
 have getO:∀n ob,obAt (intro muts 0 0 avs).objs n=some ob→(intro muts 0 0 avs).objs[n]? = some (some ob):=fun n ob hob=>by
  have hlt:=obAt_lt hob
  unfold obAt at hob
  rw[List.getD_eq_getElem?_getD,List.getElem?_eq_getElem hlt] at hob
  rw[List.getElem?_eq_getElem hlt]
  exact congrArg some hob
 have wrMut:∀n d,datAt (intro muts 0 0 avs).objs n=some d→d.wr=true→∃i x n0 d0,muts=[i]∧src n=i∧xs[i]? = some x∧wholeOf s.objs x=some (n0,d0)∧(∀j y,xs[j]? = some y→j≠i→n0∉namesOf s.objs y):=fun n d hd hw=>by
  have hc:=I.wrAt n d (getO n _ (datAt_ob.2 hd)) hw
  rw[Nat.zero_add] at hc
  rcases hmm with rfl|⟨i,y,n0,d0,rfl,hy,hwo,hno⟩
  ·simp at hc
  ·exact⟨i,y,n0,d0,rfl,by simpa using hc,hy,hwo,hno⟩
 obtain⟨MBb,hMB0,hMB1⟩:∃MBb:List Nat,(muts=[]→MBb=[])∧∀i x n d,muts=[i]→xs[i]? = some x→wholeOf s.objs x=some (n,d)→MBb=blksD g n d:=by
  rcases hmm with rfl|⟨i,y,n0,d0,rfl,hy,hwo,hno⟩
  ·exact⟨[],fun _=>rfl,fun i x n d hi=>by cases hi⟩
  ·refine⟨blksD g n0 d0,(fun q=>by cases q),fun i' x n d hi hx hw=>?_⟩
   obtain rfl:i=i':=by simpa using hi
   rw[hy] at hx
   obtain rfl:=Option.some.inj hx
   rw[hwo] at hw
   simp only[Option.some.injEq,Prod.mk.injEq] at hw
   obtain⟨rfl,rfl⟩:=hw
   rfl
 refine⟨GL,src,MBb,I,?_,hMB0,hMB1⟩
 have fresh:∀n d,datAt (intro muts 0 0 avs).objs n=some d→d.fresh=false:=fun n d hd=>by
  obtain⟨x,_,hok⟩:=okO' n _ (datAt_ob.2 hd)
  exact hok.2.2.1
 constructor
 ·rfl
 ·rfl
 ·simp only[List.size_toArray]
  rw[q3,q1]
 ·intro t ht
  have ht2:t<vs.length:=by rw[q3,←q1];exact ht
  have:=okS.2 t _ _ (List.getElem?_eq_getElem ht) (List.getElem?_eq_getElem ht2)
  rw[List.getD_eq_getElem?_getD,List.getElem?_eq_getElem ht]
  simp only[Option.getD_some]
  rw[show (vs.toArray.getD t undef)=vs[t] by simp[ht2]]
  exact this
 ·intro n d hd
  obtain⟨x,_,hok⟩:=okO' n _ (datAt_ob.2 hd)
  have hhole:=hok.2.1
  have:=hok.1
  rw[hhole]
  exact this
 ·intro n e k wn hn
  obtain⟨x,_,hok⟩:=okO' n _ hn
  exact hok.1
 ·intro n d hd hw
  obtain⟨i,x,n0,d0,hmu,hsr,hx,hwo,hno⟩:=wrMut n d hd hw
  obtain⟨x',hx',hok⟩:=okO' n _ (datAt_ob.2 hd)
  rw[hsr,hx] at hx'
  obtain rfl:=Option.some.inj hx'
  refine⟨hok.2.2.2.1 hw,fun n' ob hne hob b hb1 hb2=>?_⟩
  obtain⟨nm,ob1,m1,m2,m3⟩:=hok.2.2.2.2 b hb1
  rw[whole_names hwo] at m1
  obtain rfl:=List.mem_singleton.1 m1
  obtain⟨_,hd0,_,hw0⟩:=wholeOf_cases hwo
  rw[datAt_ob.2 hd0] at m2
  obtain rfl:=Option.some.inj m2
  obtain⟨y,hy,hok2⟩:=okO' n' ob hob
  have hlt1:=obAt_lt (datAt_ob.2 hd)
  have hlt2:=obAt_lt hob
  rw[I.len] at hlt1 hlt2
  have hsn:src n'≠i:=fun e=>hne (I.one n' n hlt2 hlt1 (by rw[e,hsr]) (by rw[Nat.zero_add,e,hmu];simp))
  have hsrc:fromN s.objs g y b:=by
   cases ob with
   |dat d'=>exact hok2.2.2.2.2 b hb2
   |bx e k wn=>
    obtain rfl:=List.mem_singleton.1 hb2
    exact hok2.2
  obtain⟨nm2,ob2,k1,k2,k3⟩:=hsrc
  have hne2:nm2≠nm:=fun e=>hno (src n') y hy hsn (e▸k1)
  exact (h.sep nm d0 hd0 hw0).2 nm2 ob2 hne2 k2 b m3 k3
 ·intro n d hd hw b hb
  obtain⟨i,x,n0,d0,hmu,hsr,hx,hwo,hno⟩:=wrMut n d hd hw
  obtain⟨x',hx',hok⟩:=okO' n _ (datAt_ob.2 hd)
  rw[hsr,hx] at hx'
  obtain rfl:=Option.some.inj hx'
  refine⟨(fun q=>by rw[fresh n d hd] at q;cases q),fun _=>.inl ?_⟩
  obtain⟨nm,ob1,m1,m2,m3⟩:=hok.2.2.2.2 b hb
  rw[whole_names hwo] at m1
  obtain rfl:=List.mem_singleton.1 m1
  obtain⟨_,hd0,_,hw0⟩:=wholeOf_cases hwo
  rw[datAt_ob.2 hd0] at m2
  obtain rfl:=Option.some.inj m2
  show b∈MBb
  rw[hMB1 i x nm d0 hmu hx hwo]
  exact m3
 ·exact Fr.refl _ _
 ·intro q hq
  obtain⟨d,hd,hqe⟩:=pins_of hq
  rw[hqe]
  exact⟨d,hd,rfl,rfl,rfl,fresh _ d hd,rfl,rfl⟩
 ·refine h.go.to h.frame fun b hb=>?_
  rcases mutsOk_cases hm with hz|⟨i,x,n0,d0,e1,e2,e3,e4⟩
  ·rw[show MBb=[] from hMB0 hz] at hb
   cases hb
  ·rw[show MBb=blksD g n0 d0 from hMB1 i x n0 d0 e1 e2 e3] at hb
   obtain⟨_,hd0,_,hw0⟩:=wholeOf_cases e3
   have hf:=h.fresh n0 d0 hd0 hw0 b hb
   cases hq:d0.fresh with
   |true=>exact .inr (hf.1 hq)
   |false=>exact hf.2 hq
end
end Go.Proofs.Ytlipfbihlmlplaa.G
namespace Go.Proofs.Ytlipfbihlmlplaa.G
open Go Go.RowKit
set_option linter.unusedVariables false
set_option linter.unusedSimpArgs false
structure OwnR where
 nm:Nat
 c:Cont
 L:Hdr×(Nat→c.t.loc)
def OwnR.d(o:OwnR):Dat:=⟨o.c.e,o.c.t,o.c.l,true,true,none⟩
def OwnR.bl(o:OwnR):List Nat:=blks true (.row o.c.e o.c.t) none o.c.l o.L
structure MutR where
 n:Nat
 d:Dat
 l:List d.t.den
 L:Hdr×(Nat→d.t.loc)
def MutR.d'(M:MutR):Dat:=⟨M.d.e,M.d.t,M.l,M.d.wr,M.d.fresh,none⟩
def MutR.bl(M:MutR):List Nat:=blks true (.row M.d.e M.d.t) none M.l M.L
def ownUpd(OW:List OwnR):List (Nat×Option Ob):=OW.map fun o=>(o.nm,some (.dat o.d))
def mutUpd:Option MutR→List (Nat×Option Ob)
 |some M=>[(M.n,some (.dat M.d'))]
 |none=>[]
def mutGh(g:Gh):Option MutR→Gh
 |some M=>g.put M.n M.d.t M.L
 |none=>g
def ownGh:List OwnR→Gh→Gh
 |[],g=>g
 |o::r,g=>ownGh r (g.put o.nm o.c.t o.L)
theorem ownGh_ne:∀(OW:List OwnR) (g:Gh) (k:Nat),(∀o,o∈OW→k≠o.nm)→(ownGh OW g).G k=g.G k
 |[],g,k,_=>rfl
 |o::r,g,k,h=>by
  rw[ownGh,ownGh_ne r _ k (fun o' ho'=>h o' (by simp[ho']))]
  exact Gh.put_ne g _ _ (h o (by simp))
theorem ownGh_B:∀(OW:List OwnR) (g:Gh),(ownGh OW g).B=g.B
 |[],g=>rfl
 |o::r,g=>by rw[ownGh,ownGh_B r];rfl
theorem ownGh_at:∀(OW:List OwnR) (g:Gh),(OW.map (·.nm)).Nodup→∀o,o∈OW→(ownGh OW g).G o.nm o.c.t=o.L
 |[],g,_,o,ho=>by cases ho
 |o1::r,g,nd,o,ho=>by
  simp only[List.map_cons,List.nodup_cons] at nd
  rcases List.mem_cons.1 ho with rfl|ho
  ·rw[ownGh,ownGh_ne r _ _ (fun o' ho' e=>nd.1 (by rw[e];exact List.mem_map.2 ⟨o',ho',rfl⟩))]
   exact Gh.put_same _ _ _ _
  ·rw[ownGh]
   exact ownGh_at r _ nd.2 o ho
theorem obAt_upd:∀(u:List (Nat×Option Ob)) (o:List (Option Ob)),(∀q,q∈u→q.1<o.length)→(u.map (·.1)).Nodup →
  (∀k x,(k,x)∈u→obAt (updAll u o) k=x)∧∀k,k∉u.map (·.1)→obAt (updAll u o) k=obAt o k
 |[],o,_,_=>⟨fun k x h=>(by cases h),fun k _=>rfl⟩
 |(n,y)::r,o,h,nd=>by
  simp only[List.map_cons,List.nodup_cons] at nd
  have hn:=h (n,y) (by simp)
  obtain⟨i1,i2⟩:=obAt_upd r (o.set n y) (fun q hq=>by rw[List.length_set];exact h q (by simp[hq])) nd.2
  refine⟨fun k x hk=>?_,fun k hk=>?_⟩
  ·rcases List.mem_cons.1 hk with e|hk
   ·cases e
    rw[updAll,i2 n nd.1,obAt_set _ _ _ _ hn,if_pos rfl]
   ·exact i1 k x hk
  ·simp only[List.map_cons,List.mem_cons,not_or] at hk
   rw[updAll,i2 k hk.2,obAt_set _ _ _ _ hn,if_neg hk.1]
section
variable {P:Program} {E:Env} {m:Nat} {w0:World} {MB:Out} {s:St} {g:Gh} {a:Act} {w:World} {α:Type}
structure Called(w w':World)(s:St)(g:Gh)(OW:List OwnR)(mo:Option MutR):Prop where
 fr:Fr (match mo with|some M=>blksD g M.n M.d|none=>[]) w w'
 own:∀o,o∈OW→o.nm<s.objs.length∧obAt s.objs o.nm=none∧memH w' true (.row o.c.e o.c.t) none o.c.l o.L∧o.bl.Nodup∧∀b,b∈o.bl→w.heap.size≤b
 names:(OW.map (·.nm)).Nodup
 apart:∀o1 o2,o1∈OW→o2∈OW→o1.nm≠o2.nm→∀b,b∈o1.bl→b∉o2.bl
 mu:∀M,mo=some M→datAt s.objs M.n=some M.d∧M.d.wr=true∧M.d.hole=none∧M.l.length=M.d.l.length∧M.L.1=(g.G M.n M.d.t).1∧memH w' true (.row M.d.e M.d.t) none M.l M.L∧M.bl.Nodup ∧
  (∀b,b∈M.bl→b∈blksD g M.n M.d∨w.heap.size≤b)∧∀o,o∈OW→∀b,b∈M.bl→b∉o.bl
theorem called_obs{w':World}{OW:List OwnR}{mo:Option MutR}(C:Called w w' s g OW mo):
  (∀o,o∈OW→obAt (updAll (mutUpd mo++ownUpd OW) s.objs) o.nm=some (.dat o.d))∧(∀M,mo=some M→obAt (updAll (mutUpd mo++ownUpd OW) s.objs) M.n=some (.dat M.d')) ∧
  (∀k,(∀o,o∈OW→k≠o.nm)→(∀M,mo=some M→k≠M.n)→obAt (updAll (mutUpd mo++ownUpd OW) s.objs) k=obAt s.objs k):=by
 have hne:∀M,mo=some M→∀o,o∈OW→M.n≠o.nm:=fun M hM o ho e=>by
  have h1:=datAt_ob.2 (C.mu M hM).1
  rw[e,(C.own o ho).2.1] at h1;cases h1
 have hmap:(ownUpd OW).map (·.1)=OW.map (·.nm):=by simp[ownUpd]
 obtain⟨i1,i2⟩:=obAt_upd (mutUpd mo++ownUpd OW) s.objs (fun q hq=>by
  rcases List.mem_append.1 hq with hq|hq
  ·cases mo with
   |none=>cases hq
   |some M=>
    obtain rfl:=List.mem_singleton.1 hq
    exact obAt_lt (datAt_ob.2 (C.mu M rfl).1)
  ·obtain⟨o,ho,rfl⟩:=List.mem_map.1 hq
   exact (C.own o ho).1) (by
  rw[List.map_append,hmap]
  cases mo with
  |none=>exact C.names
  |some M=>
   refine List.nodup_cons.2 ⟨fun hq=>?_,C.names⟩
   obtain⟨o,ho,e⟩:=List.mem_map.1 hq
   exact hne M rfl o ho e.symm)
 refine⟨fun o ho=>i1 _ _ (List.mem_append_right _ (List.mem_map.2 ⟨o,ho,rfl⟩)),fun M hM=>i1 _ _ (List.mem_append_left _ (by rw[hM];simp[mutUpd])),fun k h1 h2=>i2 k (fun hk=>?_)⟩
 rw[List.map_append,hmap] at hk
 rcases List.mem_append.1 hk with hk|hk
 ·cases mo with
  |none=>cases hk
  |some M=>
   have:=List.mem_singleton.1 hk
   exact h2 M rfl this
 ·obtain⟨o,ho,e⟩:=List.mem_map.1 hk
  exact h1 o ho e.symm
theorem R.called(h:R m w0 MB s g a w){w':World}{OW:List OwnR}{mo:Option MutR}(C:Called w w' s g OW mo)(sv:SV)(dst:Option Tmp)(v:Value)
  (hv:SRel (updAll (mutUpd mo++ownUpd OW) s.objs) (ownGh OW (mutGh g mo)) sv v):
  R m w0 MB (Eff.on { v:=sv,upd:=mutUpd mo++ownUpd OW,loose:=(mutUpd mo).map (·.1) } dst s) (ownGh OW (mutGh g mo)) (a.put dst v) w':=by
 obtain⟨o1,o2,o3⟩:=called_obs C
 have gO:∀o,o∈OW→(ownGh OW (mutGh g mo)).G o.nm o.c.t=o.L:=ownGh_at OW _ C.names
 have gM:∀M,mo=some M→(ownGh OW (mutGh g mo)).G M.n M.d.t=M.L:=fun M hM=>by
  rw[ownGh_ne OW _ _ (fun o ho e=>by have h1:=datAt_ob.2 (C.mu M hM).1;rw[e,(C.own o ho).2.1] at h1;cases h1),hM]
  exact Gh.put_same _ _ _ _
 have gR:∀k,(∀o,o∈OW→k≠o.nm)→(∀M,mo=some M→k≠M.n)→(ownGh OW (mutGh g mo)).G k=g.G k:=fun k h1 h2=>by
  rw[ownGh_ne OW _ _ h1]
  cases mo with
  |none=>rfl
  |some M=>exact Gh.put_ne g _ _ (h2 M rfl)
 have gB:(ownGh OW (mutGh g mo)).B=g.B:=by
  rw[ownGh_B]
  cases mo<;>rfl
 have notO:∀k x,obAt s.objs k=some x→∀o,o∈OW→k≠o.nm:=fun k x hx o ho e=>by rw[e,(C.own o ho).2.1] at hx;cases hx
 have hold:∀k x,obAt (updAll (mutUpd mo++ownUpd OW) s.objs) k=some x→(∃o,o∈OW∧k=o.nm∧x = .dat o.d)∨(∃M,mo=some M∧k=M.n∧x = .dat M.d')∨(obAt s.objs k=some x∧(∀o,o∈OW→k≠o.nm)∧∀M,mo=some M→k≠M.n):=by
  intro k x hx
  by_cases c1:∃o,o∈OW∧k=o.nm
  ·obtain⟨o,ho,rfl⟩:=c1
   rw[o1 o ho] at hx
   exact .inl ⟨o,ho,rfl,(Option.some.inj hx).symm⟩
  ·by_cases c2:∃M,mo=some M∧k=M.n
   ·obtain⟨M,hM,rfl⟩:=c2
    rw[o2 M hM] at hx
    exact .inr (.inl ⟨M,hM,rfl,(Option.some.inj hx).symm⟩)
   ·have k1:∀o,o∈OW→k≠o.nm:=fun o ho e=>c1 ⟨o,ho,e⟩
    have k2:∀M,mo=some M→k≠M.n:=fun M hM e=>c2 ⟨M,hM,e⟩
    rw[o3 k k1 k2] at hx
    exact .inr (.inr ⟨hx,k1,k2⟩)
 have far:∀k x,obAt s.objs k=some x→(∀M,mo=some M→k≠M.n)→∀b,b∈blksO g k x→b<w.heap.size∧w'.heap[b]? = w.heap[b]? := by
  intro k x hx hk b hb
  have hlt:b<w.heap.size:=by
   cases x with
   |dat d0=>exact blks_lt _ _ _ _ (h.dat k d0 (datAt_ob.1 hx)) b hb
   |bx e q wn=>
    obtain⟨d1,u,_,_,hc,_⟩:=h.bx k e q wn hx
    obtain rfl:=List.mem_singleton.1 hb
    exact World.block_lt_of_cell? w _ hc
  refine⟨hlt,C.fr.block b hlt (fun hb2=>?_)⟩
  cases mo with
  |none=>cases hb2
  |some M=>
   obtain⟨m1,m2,_⟩:=C.mu M rfl
   exact (h.sep M.n M.d m1 m2).2 k x (hk M rfl) hx b hb2 hb
 have bO:∀o,o∈OW→blksD (ownGh OW (mutGh g mo)) o.nm o.d=o.bl:=fun o ho=>by
  show blks true (.row o.c.e o.c.t) none o.c.l ((ownGh OW (mutGh g mo)).G o.nm o.c.t)=_
  rw[gO o ho];rfl
 have bM:∀M,mo=some M→blksD (ownGh OW (mutGh g mo)) M.n M.d'=M.bl:=fun M hM=>by
  show blks M.d.wr (.row M.d.e M.d.t) none M.l ((ownGh OW (mutGh g mo)).G M.n M.d.t)=_
  rw[gM M hM,(C.mu M hM).2.1];rfl
 have bR:∀k x,(∀o,o∈OW→k≠o.nm)→(∀M,mo=some M→k≠M.n)→blksO (ownGh OW (mutGh g mo)) k x=blksO g k x:=fun k x h1 h2=>by
  cases x with
  |dat d=>show blksD _ _ _=blksD _ _ _;unfold blksD;rw[gR k h1 h2]
  |bx e q wn=>show [((ownGh OW (mutGh g mo)).B k).1]=[(g.B k).1];rw[gB]
 have apM:∀M,mo=some M→∀k x,obAt s.objs k=some x→k≠M.n→∀b,b∈M.bl→b∉blksO g k x:=fun M hM k x hx hk b hb1 hb2=>by
  obtain⟨m1,m2,m3,m4,m5,m6,m7,m8,m9⟩:=C.mu M hM
  rcases m8 b hb1 with q|q
  ·exact (h.sep M.n M.d m1 m2).2 k x hk hx b q hb2
  ·have:=(far k x hx (fun M' hM'=>by rw[hM] at hM';obtain rfl:=Option.some.inj hM';exact hk) b hb2).1;omega
 have apO:∀o,o∈OW→∀k x,obAt s.objs k=some x→(∀M,mo=some M→k≠M.n)→∀b,b∈o.bl→b∉blksO g k x:=fun o ho k x hx hk b hb1 hb2=>by
  have h1:=(C.own o ho).2.2.2.2 b hb1
  have h2:=(far k x hx hk b hb2).1
  omega
 refine h.step _ dst v _ w' (fun sv' u hr hh=>?_) hv ?_ ?_ ?_ ?_ ?_ (fun k d0 hk hf0=>?_)
 ·refine SRel.keep (fun k x hx _ hl=>?_) (fun k d0 hd0 _ hl=>?_) (fun k e0 q wn hk hl=>?_) hr hh
  ·have k2:∀M,mo=some M→k≠M.n:=fun M hM e=>hl (by rw[hM,e];simp[mutUpd])
   exact⟨by rw[o3 k (notO k x hx) k2];exact hx,gR k (notO k x hx) k2,by rw[gB]⟩
  ·cases mo with
   |none=>cases hl
   |some M=>
    obtain rfl:k=M.n:=by simpa[mutUpd] using hl
    obtain⟨m1,m2,m3,m4,m5,m6,m7,m8,m9⟩:=C.mu M rfl
    rw[m1] at hd0
    obtain rfl:=Option.some.inj hd0
    refine⟨M.d',datAt_ob.1 (o2 M rfl),fun P0 hP0=>?_,rfl,fun p' P' hc hP'=>?_⟩
    ·unfold rootPL at hP0 ⊢
     rw[getPL_nil] at hP0
     obtain rfl:=Option.some.inj hP0
     refine⟨_,getPL_nil _ _ _ _ _,fun sz hd' tot hz=>?_⟩
     have e1:(ownGh OW (mutGh g (some M))).G M.n M.d'.t=M.L:=gM M rfl
     simp only[hdrP] at hz ⊢
     rw[e1,m5,show List.length M.d'.l=List.length M.d.l from m4]
     exact hz
    ·match p',hc with
     |.idx j::q',hc=>
      have e1:(ownGh OW (mutGh g (some M))).G M.n M.d'.t=M.L:=gM M rfl
      unfold rootPL at hP' ⊢
      rw[e1]
      show ∃P2,getPL (.row M.d.e M.d.t) M.l M.L 0 0 (.idx j::q')=some P2∧P2.b=P'.b∧P2.o=P'.o∧ncross M.d' (.idx j::q')
      unfold getPL at hP' ⊢
      simp only[m4,m5]
      split at hP'
      ·rename_i hj
       rw[if_pos hj]
       split at hP'
       ·rename_i ad ha
        obtain⟨P2,k1,k2,k3,_⟩:=PL_shape M.d.t _ (List.getD M.l j M.d.t.dflt) _ (M.L.2 j) _ _ q' P' hP' hc
        exact⟨P2,k1,k2,k3,hc⟩
       ·cases hP'
      ·cases hP'
  ·cases mo with
   |none=>cases hl
   |some M=>
    obtain rfl:k=M.n:=by simpa[mutUpd] using hl
    rw[datAt_ob.2 (C.mu M rfl).1] at hk
    cases hk
 ·intro k d0 hk
  rcases hold k _ (datAt_ob.2 hk) with⟨o,ho,rfl,e⟩|⟨M,hM,rfl,e⟩|⟨k1,k2,k3⟩
  ·cases e
   show memH w' true (.row o.c.e o.c.t) none o.c.l ((ownGh OW (mutGh g mo)).G o.nm o.c.t)
   rw[gO o ho]
   exact (C.own o ho).2.2.1
  ·cases e
   show memH w' M.d.wr (.row M.d.e M.d.t) none M.l ((ownGh OW (mutGh g mo)).G M.n M.d.t)
   rw[gM M hM,(C.mu M hM).2.1]
   exact (C.mu M hM).2.2.2.2.2.1
  ·rw[gR k k2 k3]
   exact memH_frame C.fr.size _ _ _ _ (h.dat k d0 (datAt_ob.1 k1)) (fun b hb=>(far k _ k1 k3 b hb).2)
 ·intro k e0 q wn hk
  rcases hold k _ hk with⟨o,ho,rfl,e⟩|⟨M,hM,rfl,e⟩|⟨k1,k2,k3⟩
  ·cases e
  ·cases e
  ·obtain⟨d1,u,q1,q2,q3,q4⟩:=h.bx k e0 q wn k1
   have hq:∀M,mo=some M→q≠M.n:=fun M hM e=>by
    obtain⟨m1,m2,_⟩:=C.mu M hM
    rw[e,m1] at q1
    obtain rfl:=Option.some.inj q1
    rw[m2] at q2;cases q2
   have hqo:=notO q _ (datAt_ob.2 q1)
   refine⟨d1,u,datAt_ob.1 (by rw[o3 q hqo hq];exact datAt_ob.2 q1),q2,?_,q4.keep (fun d2 hd2=>⟨datAt_ob.1 (by rw[o3 q hqo hq];exact datAt_ob.2 hd2),gR q hqo hq⟩)⟩
   rw[gB]
   exact (World.cell?_of_block (w:=w) (far k _ k1 k3 (g.B k).1 (by simp[blksO])).2).trans q3
 ·intro k d0 hk hwr
  rcases hold k _ (datAt_ob.2 hk) with⟨o,ho,rfl,e⟩|⟨M,hM,rfl,e⟩|⟨k1,k2,k3⟩
  ·cases e
   rw[bO o ho]
   refine⟨(C.own o ho).2.2.2.1,fun n' x hne hx b hb1 hb2=>?_⟩
   rcases hold n' x hx with⟨o',ho',rfl,rfl⟩|⟨M,hM,rfl,rfl⟩|⟨j1,j2,j3⟩
   ·replace hb2:b∈blksD (ownGh OW (mutGh g mo)) o'.nm o'.d:=hb2
    rw[bO o' ho'] at hb2
    exact C.apart o o' ho ho' (Ne.symm hne) b hb1 hb2
   ·replace hb2:b∈blksD (ownGh OW (mutGh g mo)) M.n M.d':=hb2
    rw[bM M hM] at hb2
    exact (C.mu M hM).2.2.2.2.2.2.2.2 o ho b hb2 hb1
   ·rw[bR n' x j2 j3] at hb2
    exact apO o ho n' x j1 j3 b hb1 hb2
  ·cases e
   rw[bM M hM]
   refine⟨(C.mu M hM).2.2.2.2.2.2.1,fun n' x hne hx b hb1 hb2=>?_⟩
   rcases hold n' x hx with⟨o',ho',rfl,rfl⟩|⟨M',hM',rfl,rfl⟩|⟨j1,j2,j3⟩
   ·replace hb2:b∈blksD (ownGh OW (mutGh g mo)) o'.nm o'.d:=hb2
    rw[bO o' ho'] at hb2
    exact (C.mu M hM).2.2.2.2.2.2.2.2 o' ho' b hb1 hb2
   ·rw[hM] at hM'
    obtain rfl:=Option.some.inj hM'
    exact hne rfl
   ·rw[bR n' x j2 j3] at hb2
    exact apM M hM n' x j1 hne b hb1 hb2
  ·have eb:blksD (ownGh OW (mutGh g mo)) k d0=blksD g k d0:=bR k (.dat d0) k2 k3
   rw[eb]
   obtain⟨t1,t2⟩:=h.sep k d0 (datAt_ob.1 k1) hwr
   refine⟨t1,fun n' x hne hx b hb1 hb2=>?_⟩
   rcases hold n' x hx with⟨o',ho',rfl,rfl⟩|⟨M',hM',rfl,rfl⟩|⟨j1,j2,j3⟩
   ·replace hb2:b∈blksD (ownGh OW (mutGh g mo)) o'.nm o'.d:=hb2
    rw[bO o' ho'] at hb2
    exact apO o' ho' k _ k1 k3 b hb2 hb1
   ·replace hb2:b∈blksD (ownGh OW (mutGh g mo)) M'.n M'.d':=hb2
    rw[bM M' hM'] at hb2
    exact apM M' hM' k _ k1 (k3 M' hM') b hb2 hb1
   ·rw[bR n' x j2 j3] at hb2
    exact t2 n' x hne j1 b hb1 hb2
 ·intro k d0 hk hwr b hb1
  rcases hold k _ (datAt_ob.2 hk) with⟨o,ho,rfl,e⟩|⟨M,hM,rfl,e⟩|⟨k1,k2,k3⟩
  ·cases e
   rw[bO o ho] at hb1
   have:=Nat.le_trans h.frame.size ((C.own o ho).2.2.2.2 b hb1)
   exact⟨fun _=>this,fun _=>.inr this⟩
  ·cases e
   rw[bM M hM] at hb1
   obtain⟨m1,m2,m3,m4,m5,m6,m7,m8,m9⟩:=C.mu M hM
   rcases m8 b hb1 with q|q
   ·exact h.fresh M.n M.d m1 m2 b q
   ·have:=Nat.le_trans h.frame.size q
    exact⟨fun _=>this,fun _=>.inr this⟩
  ·have eb:blksD (ownGh OW (mutGh g mo)) k d0=blksD g k d0:=bR k (.dat d0) k2 k3
   rw[eb] at hb1
   exact h.fresh k d0 (datAt_ob.1 k1) hwr b hb1
 ·refine⟨C.fr.os.trans h.frame.os,C.fr.tape.trans h.frame.tape,C.fr.output.trans h.frame.output,Nat.le_trans h.frame.size C.fr.size,fun b hb1 hb2=>?_⟩
  rw[C.fr.block b (Nat.lt_of_lt_of_le hb1 h.frame.size) (fun hq=>?_)]
  ·exact h.frame.block b hb1 hb2
  ·cases mo with
   |none=>cases hq
   |some M=>
    obtain⟨m1,m2,_⟩:=C.mu M rfl
    have hf:=h.fresh M.n M.d m1 m2 b hq
    cases hfq:M.d.fresh with
    |true=>have:=hf.1 hfq;omega
    |false=>
     rcases hf.2 hfq with q|q
     ·exact hb2 q
     ·omega
 ·by_cases c:∃M,mo=some M∧k=M.n
  ·obtain⟨M,hM,rfl⟩:=c
   obtain⟨m1,m2,m3,m4,m5,m6,m7,m8,m9⟩:=C.mu M hM
   rw[m1] at hk
   obtain rfl:=Option.some.inj hk
   exact⟨M.d',datAt_ob.1 (o2 M hM),rfl,rfl,rfl,hf0,m4,by rw[gM M hM,m5]⟩
  ·have k2:∀M,mo=some M→k≠M.n:=fun M hM e=>c ⟨M,hM,e⟩
   have k1:=notO k _ (datAt_ob.2 hk)
   exact⟨d0,datAt_ob.1 (by rw[o3 k k1 k2];exact datAt_ob.2 hk),rfl,rfl,rfl,hf0,rfl,by rw[gR k k1 k2]⟩
end
end Go.Proofs.Ytlipfbihlmlplaa.G
namespace Go.Proofs.Ytlipfbihlmlplaa.G
open Go Go.RowKit
set_option linter.unusedVariables false
set_option linter.unusedSimpArgs false
section
variable {P:Program} {E:Env} {m:Nat} {w0:World} {MB:Out} {s:St} {g:Gh} {a:Act} {w:World} {α:Type}
def AlHyp(sobjs objs':List (Option Ob))(g':Gh)(muts:List Nat)(names:List (Option Nat))(xsC:List SV)(OBJS:List (Option Ob))(gh:Gh):Prop:=
 ∀i nm wv v',names[i]? = some (some nm)→SlRel objs' g' nm [] wv v'→∀n p d,xsC[i]? = some (.sl n p none)→datAt sobjs n=some d→(d.wr=true→muts.contains i=true)→SlRel OBJS gh n p wv v'
theorem own_sl{OBJS:List (Option Ob)}{gh:Gh}{o:OwnR}{w':World}{A:Option Addr}{c:Nat}(h1:obAt OBJS o.nm=some (.dat o.d))(h2:gh.G o.nm o.c.t=o.L)(hA:o.L.1=⟨A,c⟩)(hm:memH w' true (.row o.c.e o.c.t) none o.c.l o.L):
  SlRel OBJS gh o.nm [] none (.slice A o.c.l.length c):=by
 have hm:=hm.resolve_left (by simp[lent])
 rw[hA] at hm
 have hp:rootPL gh o.nm o.d []=some ⟨.row o.c.e o.c.t,o.c.l,o.L,0,0⟩:=by
  unfold rootPL
  rw[getPL_nil]
  show some (⟨.row o.c.e o.c.t,o.c.l,gh.G o.nm o.c.t,0,0⟩:Pl)=_
  rw[h2]
 refine⟨_,_,_,_,_,datAt_ob.1 h1,fun _=>rfl,hp,rfl,A,c,rfl,by simp[Win.off,Win.lenN],hm.1.le,fun hn=>?_,fun _=>⟨by rw[hA];simp[Win.off],fun hc=>?_⟩⟩
 ·obtain⟨b,o',q1,_⟩:=hm.1.at_ hn
  simp only at q1
  exact⟨b,o',by rw[hA];exact q1,by simp[Win.off,q1]⟩
 ·obtain⟨b,o',arr,e,q1,_⟩:=hm.1.own rfl hc
  simp only at q1
  exact⟨b,o',by rw[hA];exact q1,by simp[Win.off,q1]⟩
theorem rets_ok{mc:Nat}{MBc:Out}{s':St}{g':Gh}{ac:Act}{w':World}(Rc:R mc w MBc s' g' ac w'){base:Nat}{names:List (Option Nat)}{muts:List Nat}{xsC:List SV}{sobjs:List (Option Ob)}:
  ∀(xs:List SV) (vs:List Value) (ks ns:List Nat) (rets:List RV) (ts:List TV) (us:List (Nat×Option Ob)),All2 (SRel s'.objs g') xs vs→outsOf base s'.objs names xs ks=some rets→retsOf sobjs muts xsC ns rets=some (ts,us)→ns.Nodup →
   ∃OW:List OwnR,us=ownUpd OW∧(OW.map (·.nm)).Sublist ns ∧
    (∀o,o∈OW→∃kk dk,kk∉ks∧base≤kk∧datAt s'.objs kk=some dk∧dk.wr=true∧dk.fresh=true∧memH w' true (.row o.c.e o.c.t) none o.c.l o.L∧o.bl.Nodup∧∀b,b∈o.bl→b∈blksD g' kk dk) ∧
    (∀o1 o2,o1∈OW→o2∈OW→o1.nm≠o2.nm→∀b,b∈o1.bl→b∉o2.bl) ∧
    ∀OBJS gh,(∀o,o∈OW→obAt OBJS o.nm=some (.dat o.d)∧gh.G o.nm o.c.t=o.L)→AlHyp sobjs s'.objs g' muts names xsC OBJS gh→All2 (TRel OBJS gh) ts vs
 |[],vs,ks,ns,rets,ts,us,hv,ho,hr,hn=>by
  obtain rfl:=hv.nil_left
  simp only[outsOf,Option.some.injEq] at ho
  subst ho
  simp only[retsOf,Option.some.injEq,Prod.mk.injEq] at hr
  obtain⟨rfl,rfl⟩:=hr
  exact⟨[],rfl,List.nil_sublist _,(fun o ho=>by cases ho),(fun o1 o2 ho=>by cases ho),fun _ _ _ _=>All2.nil _⟩
 |x::xs,[],ks,ns,rets,ts,us,hv,ho,hr,hn=>by have:=hv.1;simp at this
 |x::xs,v::vs,ks,ns,rets,ts,us,hv,ho,hr,hn=>by
  obtain⟨hv1,hv2⟩:=All2.cons_iff.1 hv
  unfold outsOf at ho
  split at ho
  ·rename_i rv k hout
   split at ho
   ·rename_i hk
    split at ho
    ·rename_i rl hrest
     obtain rfl:=Option.some.inj ho
     unfold retsOf at hr
     split at hr
     ·rename_i t1 u1 ns' hret
      split at hr
      ·rename_i ts2 us2 hr2
       simp only[Option.some.injEq,Prod.mk.injEq] at hr
       obtain⟨rfl,rfl⟩:=hr
       have quiet:k=[]→u1=[]→ns'=ns→(∀OBJS gh,AlHyp sobjs s'.objs g' muts names xsC OBJS gh→TRel OBJS gh t1 v)→∃OW:List OwnR,u1++us2=ownUpd OW∧(OW.map (·.nm)).Sublist ns ∧
         (∀o,o∈OW→∃kk dk,kk∉ks∧base≤kk∧datAt s'.objs kk=some dk∧dk.wr=true∧dk.fresh=true∧memH w' true (.row o.c.e o.c.t) none o.c.l o.L∧o.bl.Nodup∧∀b,b∈o.bl→b∈blksD g' kk dk) ∧
         (∀o1 o2,o1∈OW→o2∈OW→o1.nm≠o2.nm→∀b,b∈o1.bl→b∉o2.bl) ∧
         ∀OBJS gh,(∀o,o∈OW→obAt OBJS o.nm=some (.dat o.d)∧gh.G o.nm o.c.t=o.L)→AlHyp sobjs s'.objs g' muts names xsC OBJS gh→All2 (TRel OBJS gh) (t1::ts2) (v::vs):=by
        intro e1 e2 e3 hq
        subst e1 e2 e3
        obtain⟨OW,i1,i2,i3,i4,i5⟩:=rets_ok Rc xs vs _ _ rl ts2 us2 hv2 hrest hr2 hn
        exact⟨OW,i1,i2,i3,i4,fun OBJS gh h1 h2=>All2.cons_iff.2 ⟨hq OBJS gh h2,i5 OBJS gh h1 h2⟩⟩
       unfold outOf at hout
       split at hout
       ·rename_i t y
        split at hout
        ·rename_i hf
         simp only[Option.some.injEq,Prod.mk.injEq] at hout
         obtain⟨rfl,rfl⟩:=hout
         simp only[retOf,Option.some.injEq,Prod.mk.injEq] at hret
         obtain⟨rfl,rfl,rfl⟩:=hret
         exact quiet rfl rfl rfl (fun _ _ _=>hv1)
        ·cases hout
       ·simp only[Option.some.injEq,Prod.mk.injEq] at hout
        obtain⟨rfl,rfl⟩:=hout
        simp only[retOf,Option.some.injEq,Prod.mk.injEq] at hret
        obtain⟨rfl,rfl,rfl⟩:=hret
        exact quiet rfl rfl rfl (fun _ _ _=>hv1)
       ·rename_i n p wv
        split at hout
        ·rename_i dk hdk
         split at hout
         ·rename_i hh
          split at hout
          ·
           simp only at hout
           split at hout
           ·rename_i hi
            simp only[Option.some.injEq,Prod.mk.injEq] at hout
            obtain⟨rfl,rfl⟩:=hout
            have hnm:names[names.idxOf (some n)]? = some (some n):=by rw[List.getElem?_eq_getElem hi,List.getElem_idxOf]
            simp only[retOf] at hret
            split at hret
            ·rename_i n2 p2 hx2
             split at hret
             ·rename_i d2 hd2
              split at hret
              ·cases hret
              ·rename_i hc
               simp only[Option.some.injEq,Prod.mk.injEq] at hret
               obtain⟨rfl,rfl,rfl⟩:=hret
               refine quiet rfl rfl rfl (fun OBJS gh hal=>hal _ n wv v hnm hv1 n2 p2 d2 hx2 hd2 (fun hw=>?_))
               cases hcc:muts.contains (names.idxOf (some n)) with
               |true=>rfl
               |false=>exact absurd hcc (hc hw)
             ·cases hret
            ·cases hret
           ·cases hout
          ·rename_i hge
           split at hout
           ·rename_i hwf
            simp only[Bool.and_eq_true] at hwf
            simp only[Option.some.injEq,Prod.mk.injEq] at hout
            obtain⟨rfl,rfl⟩:=hout
            cases ns with
            |nil=>simp only[retOf] at hret;cases hret
            |cons nm ns0=>
             simp only[retOf,Option.some.injEq,Prod.mk.injEq] at hret
             obtain⟨rfl,rfl,rfl⟩:=hret
             have hn':=List.nodup_cons.1 hn
             obtain⟨OW,i1,i2,i3,i4,i5⟩:=rets_ok Rc xs vs _ _ rl ts2 us2 hv2 hrest hr2 hn'.2
             obtain⟨d2,Q,sz,hd',tot,g1,g2,g3,g4,g5⟩:=hv1
             rw[hdk] at g1
             obtain rfl:=Option.some.inj g1
             unfold rootPL at g3
             rw[getPL_nil] at g3
             obtain rfl:=Option.some.inj g3
             simp only[hdrP,Option.some.injEq,Prod.mk.injEq] at g4
             obtain⟨rfl,rfl,rfl⟩:=g4
             rw[hwf.1] at g5
             have hm:=Rc.dat n dk hdk
             have hs:=(Rc.sep n dk hdk hwf.1).1
             unfold blksD at hs
             rw[hh,hwf.1] at hm hs
             obtain⟨A,c2,q1,q2,q3,q4⟩:=win_row (e:=dk.e) (H:=(g'.G n dk.t).1) (locs:=(g'.G n dk.t).2) hm hs g5
             have hbD:∀b,b∈blks true (.row dk.e dk.t) none dk.l (g'.G n dk.t)→b∈blksD g' n dk:=fun b hb=>by unfold blksD;rw[hh,hwf.1];exact hb
             have hksn:n∉ks:=by simpa using hk
             refine⟨⟨nm,⟨dk.e,dk.t,wv.cut dk.l⟩,(⟨A,c2⟩,fun i=>(g'.G n dk.t).2 (wv.off+i))⟩::OW,by rw[i1];rfl,by simpa using i2,fun o ho=>?_,fun o1 o2 h1 h2 hne b hb1 hb2=>?_,fun OBJS gh h1 h2=>?_⟩
             ·rcases List.mem_cons.1 ho with rfl|ho
              ·exact⟨n,dk,hksn,by omega,hdk,hwf.1,hwf.2,q2,q3,fun b hb=>hbD b (q4 b hb)⟩
              ·obtain⟨kk,dk',j1,j2⟩:=i3 o ho
               exact⟨kk,dk',fun q=>j1 (by simp[q]),j2⟩
             ·rcases List.mem_cons.1 h1 with rfl|h1
              ·rcases List.mem_cons.1 h2 with rfl|h2
               ·exact hne rfl
               ·obtain⟨kk,dk',j1,j2,j3,j4,j5,j6,j7,j8⟩:=i3 o2 h2
                exact (Rc.sep n dk hdk hwf.1).2 kk _ (fun e=>j1 (by simp[e])) (datAt_ob.2 j3) b (hbD b (q4 b hb1)) (j8 b hb2)
              ·rcases List.mem_cons.1 h2 with rfl|h2
               ·obtain⟨kk,dk',j1,j2,j3,j4,j5,j6,j7,j8⟩:=i3 o1 h1
                exact (Rc.sep n dk hdk hwf.1).2 kk _ (fun e=>j1 (by simp[e])) (datAt_ob.2 j3) b (hbD b (q4 b hb2)) (j8 b hb1)
               ·exact i4 o1 o2 h1 h2 hne b hb1 hb2
             ·refine All2.cons_iff.2 ⟨?_,i5 OBJS gh (fun o ho=>h1 o (by simp[ho])) h2⟩
              obtain⟨k1,k2⟩:=h1 _ (List.mem_cons_self ..)
              show SlRel OBJS gh nm [] none v
              rw[q1]
              exact own_sl (o:=⟨nm,⟨dk.e,dk.t,wv.cut dk.l⟩,(⟨A,c2⟩,fun i=>(g'.G n dk.t).2 (wv.off+i))⟩) k1 k2 rfl q2
           ·cases hout
         ·cases hout
        ·cases hout
       ·cases hout
      ·cases hr
     ·cases hr
    ·cases ho
   ·cases ho
  ·cases ho
end
end Go.Proofs.Ytlipfbihlmlplaa.G
namespace Go.Proofs.Ytlipfbihlmlplaa.G
open Go Go.RowKit
set_option linter.unusedVariables false
set_option linter.unusedSimpArgs false
section
variable {P:Program} {E:Env} {m:Nat} {w0:World} {MB:Out} {s:St} {g:Gh} {a:Act} {w:World} {α:Type}
theorem handed_append{objs:List (Option Ob)}:∀(xs:List SV) (vs:List Value) (as:List AV) (xs2:List SV) (vs2:List Value) (as2:List AV),Handed E objs g xs vs as→Handed E objs g xs2 vs2 as2→Handed E objs g (xs++xs2) (vs++vs2) (as++as2)
 |[],[],[],_,_,_,_,h2=>h2
 |x::xs,v::vs,a::as,xs2,vs2,as2,h1,h2=>⟨h1.1,h1.2.1,handed_append xs vs as xs2 vs2 as2 h1.2.2 h2⟩
 |[],[],_::_,_,_,_,h1,_=>h1.elim
 |[],_::_,_,_,_,_,h1,_=>h1.elim
 |_::_,[],_,_,_,_,h1,_=>h1.elim
 |_::_,_::_,[],_,_,_,h1,_=>h1.elim
theorem handed_args{objs:List (Option Ob)}:∀(as:List (TypeId×SV)) (vs:List Value) (l:List AV),avsOf E objs as=some l→All2 (SRel objs g) (as.map (·.2)) vs→Handed E objs g (as.map (·.2)) vs l
 |[],vs,l,h,hv=>by
  obtain rfl:=hv.nil_left
  simp[avsOf] at h
  subst h
  trivial
 |(t,x)::r,[],l,h,hv=>by have:=hv.1;simp at this
 |(t,x)::r,v::vs,l,h,hv=>by
  obtain⟨h1,h2⟩:=All2.cons_iff.1 hv
  unfold avsOf at h
  split at h
  ·rename_i av l' hav hl
   obtain rfl:=Option.some.inj h
   exact⟨h1,⟨t,hav⟩,handed_args r vs l' hl h2⟩
  ·cases h
theorem handed_args_nil{objs:List (Option Ob)}{ns:List Nat}{i:Nat}{as:List (TypeId×SV)}{vs:List Value}{l:List AV}(h1:avsOf E objs (markNil ns i as)=some l)(h2:All2 (SRel objs g) (as.map (·.2)) vs):Handed E objs g (as.map (·.2)) vs l:=by
 have:=handed_args (markNil ns i as) vs l h1 (by rw[markNil_snd];exact h2)
 rwa[markNil_snd] at this
theorem handed_caps{objs:List (Option Ob)}:∀(caps:List (Nat×List Stp)) (vs:List Value) (cs:List (Option TypeId×Cont)),All2 (fun (c:Nat×List Stp) u=>PtrRel objs g c.1 c.2 false u) caps vs→caps.mapM (fun c=>capOf objs c.1 c.2)=some cs →
  Handed E objs g (caps.map fun c=>SV.ptr c.1 c.2 false) vs (cs.map capAV)
 |[],vs,cs,hv,hc=>by
  obtain rfl:=hv.nil_left
  simp at hc
  subst hc
  trivial
 |c::caps,[],cs,hv,hc=>by have:=hv.1;simp at this
 |c::caps,v::vs,cs,hv,hc=>by
  obtain⟨h1,h2⟩:=All2.cons_iff.1 hv
  simp only[List.mapM_cons,Option.bind_eq_bind,Option.pure_def] at hc
  cases hc1:capOf objs c.1 c.2 with
  |none=>rw[hc1] at hc;cases hc
  |some c1=>
   cases hc2:caps.mapM (fun c=>capOf objs c.1 c.2) with
   |none=>rw[hc1,hc2] at hc;cases hc
   |some cs2=>
    rw[hc1,hc2] at hc
    obtain rfl:=Option.some.inj hc
    refine⟨h1,⟨0,?_⟩,handed_caps caps vs cs2 h2 hc2⟩
    show (capOf objs c.1 c.2).map capAV=_
    rw[hc1];rfl
theorem handed_at{objs:List (Option Ob)}:∀(xs:List SV) (vs:List Value) (as:List AV),Handed E objs g xs vs as→∀(i:Nat) (x:SV),xs[i]? = some x→∃v av,vs[i]? = some v∧as[i]? = some av∧SRel objs g x v∧∃t,avOf E objs t x=some av
 |[],_,_,_,i,x,h=>by simp at h
 |x::xs,v::vs,a::as,h1,i,y,h=>by
  cases i with
  |zero=>simp at h;subst h;exact⟨v,a,rfl,rfl,h1.1,h1.2.1⟩
  |succ i=>exact handed_at xs vs as h1.2.2 i y (by simpa using h)
 |_::_,[],_,h1,_,_,_=>h1.elim
 |_::_,_::_,[],h1,_,_,_=>h1.elim
theorem svOf_rel{objs:List (Option Ob)}{ts:List TV}{vs:List Value}(h:All2 (TRel objs g) ts vs):SRel objs g (svOf ts) (retV vs):=by
 match ts,vs,h with
 |[],vs,h=>trivial
 |[t],[],h=>have:=h.1;simp at this
 |[t],[v],h=>
  have:=(All2.cons_iff.1 h).1
  cases t with
  |val _ _=>exact this
  |sl _ _ _=>exact this
  |nil=>exact this
 |[t],_::_::_,h=>have:=h.1;simp at this
 |t1::t2::ts,vs,h=>
  have e1:svOf (t1::t2::ts) = .tup (t1::t2::ts):=by cases t1<;>rfl
  have e2:retV vs = .tuple vs.toArray:=by
   match vs,h with
   |[],h=>rfl
   |[v],h=>have:=h.1;simp at this
   |_::_::_,h=>rfl
  rw[e1,e2]
  exact⟨vs,rfl,h⟩
theorem al_hyp(h:R m w0 MB s g a w){xs:List SV}{vs:List Value}{avs:List AV}{muts:List Nat}{GL:List Gent}{src:Nat→Nat}(hh:Handed E s.objs g xs vs avs)(I:Introduced w s.objs g muts 0 0 xs vs avs GL src)
  {mc:Nat} {MBb:List Nat} {s':St} {g':Gh} {ac:Act} {w':World} (Rc:R mc w ⟨MBb,pinsOf (intro muts 0 0 avs).objs (ghOf GL)⟩ s' g' ac w') {OBJS:List (Option Ob)} {gh:Gh}
  (hkeep:∀n d,datAt s.objs n=some d→d.wr=false→datAt OBJS n=some d∧gh.G n=g.G n)
  (hmut:∀i x n d j,muts.contains i=true→xs[i]? = some x→wholeOf s.objs x=some (n,d)→(intro muts 0 0 avs).names[i]? = some (some j)→∃dj,datAt s'.objs j=some dj∧dj.hole=none∧∃D,datAt OBJS n=some D∧D.hole=none∧D.t=dj.t∧D.wr=dj.wr∧List.length D.l=List.length dj.l∧(gh.G n dj.t).1=(g'.G j dj.t).1) (hmo:∀i x,muts.contains i=true→xs[i]? = some x→∃n d,wholeOf s.objs x=some (n,d)):
  AlHyp s.objs s'.objs g' muts (intro muts 0 0 avs).names xs OBJS gh:=by
 intro i nm wv v' hnm hv' n p d hx hd hw
 obtain⟨j,ptr,c,e1,e2,e3,e4,e5,e6⟩:=I.names i nm hnm
 rw[Nat.zero_add] at e1
 subst e1
 rw[Nat.zero_add] at e5
 have hob:obAt (intro muts 0 0 avs).objs nm=some (.dat ⟨c.e,c.t,c.l,muts.contains i,false,none⟩):=by unfold obAt;rw[List.getD_eq_getElem?_getD,e5];rfl
 have hpin:=Rc.pins _ (pins_mem (gh:=ghOf GL) (datAt_ob.1 hob))
 obtain⟨dj,p1,p2,p3,p4,p5,p6,p7⟩:=hpin
 simp only at p1 p2 p3 p4 p6 p7
 obtain⟨dv,Q,sz,hd',tot,g1,g2,g3,g4,g5⟩:=hv'
 rw[p1] at g1
 obtain rfl:=Option.some.inj g1
 unfold rootPL at g3
 rw[getPL_nil] at g3
 obtain rfl:=Option.some.inj g3
 simp only[hdrP,Option.some.injEq,Prod.mk.injEq] at g4
 obtain⟨rfl,rfl,rfl⟩:=g4
 cases hmt:muts.contains i with
 |true=>
  obtain⟨n0,d0,hwo⟩:=hmo i _ hmt hx
  obtain⟨dj',q1,q2,D,q3,q4,q5,q6,q7,q8⟩:=hmut i _ n0 d0 nm hmt hx hwo hnm
  rw[p1] at q1
  obtain rfl:=Option.some.inj q1
  obtain⟨hxs,_⟩:=wholeOf_cases hwo
  rcases hxs with e|⟨⟨c',e⟩,_⟩
  ·cases e
   refine⟨D,_,_,_,_,q3,fun _=>rfl,getPL_nil _ _ _ _ _,rfl,?_⟩
   obtain⟨De,Dt,Dl,Dw,Df,Dh⟩:=D
   obtain⟨je,jt,jl,jw,jf,jh⟩:=dj
   simp only at q5 q6 q7 q8 g5
   subst q5 q6
   simp only
   rw[q7,q8]
   exact g5
  ·cases e
 |false=>
  have hwf:d.wr=false:=by
   cases hq:d.wr with
   |false=>rfl
   |true=>rw[hw hq] at hmt;cases hmt
  obtain⟨vi,av,r1,r2,r3,t,r4⟩:=handed_at xs vs avs hh i _ hx
  rw[e4] at r2
  obtain rfl:=Option.some.inj r2
  unfold avOf at r4
  simp only at r4
  obtain⟨c',hc',hce⟩:=Option.map_eq_some_iff.1 r4
  simp only[AV.obj.injEq] at hce
  obtain⟨rfl,rfl⟩:=hce
  obtain⟨okS,_⟩:=I.ok _ _ at_self
  have hci:=okS.2 i _ _ e6 r1
  obtain⟨dc,Qc,szc,hdc,totc,c1,c2,c3,c4,c5⟩:=hci
  rw[datAt_ob.1 hob] at c1
  obtain rfl:=Option.some.inj c1
  unfold rootPL at c3
  rw[getPL_nil] at c3
  obtain rfl:=Option.some.inj c3
  simp only[hdrP,Option.some.injEq,Prod.mk.injEq] at c4
  obtain⟨rfl,rfl,rfl⟩:=c4
  obtain⟨dn,Qn,szn,hdn,totn,n1,n2,n3,n4,n5⟩:=r3
  rw[hd] at n1
  obtain rfl:=Option.some.inj n1
  have hsz:szn=c'.t.size:=by
   unfold contOf at hc'
   split at hc'
   ·rename_i u l hs
    obtain rfl:=Option.some.inj hc'
    unfold shows at hs
    obtain⟨uq,yq,lq,bq,oq⟩:=Qn
    split at hs
    ·rename_i e' u' Y hz
     obtain⟨hze,_⟩:=place_of hd n3 hz
     cases hze
     simp only[hdrP,Option.some.injEq,Prod.mk.injEq] at n4
     simp only[Option.some.injEq] at hs
     cases hs
     exact n4.1.symm
    ·rename_i e' u' Y hz
     obtain⟨hze,_⟩:=place_of hd n3 hz
     cases hze
     simp only[hdrP,Option.some.injEq,Prod.mk.injEq] at n4
     simp only[Option.some.injEq] at hs
     cases hs
     exact n4.1.symm
    ·cases hs
   ·cases hc'
  obtain⟨A1,k1,v1,o1,l1,a1,w1⟩:=c5
  obtain⟨A2,k2,v2,o2,l2,a2,w2⟩:=n5
  rw[v1] at v2
  simp only[Value.slice.injEq,Win.lenN] at v2
  obtain⟨rfl,v2,rfl⟩:=v2
  obtain⟨A3,k3,v3,o3,l3,a3,w3⟩:=g5
  refine SlRel.keep ⟨d,Qn,szn,hdn,totn,hd,n2,n3,n4,A3,k3,?_,?_,?_,fun hn=>?_,fun q=>by rw[hwf] at q;cases q⟩ (fun d2 hd2=>?_)
  ·rw[v3,p6,v2]
  ·rw[←v2,←p6];exact o3
  ·rw[←v2,←p6];exact l3
  ·rw[←v2,←p6] at hn
   obtain⟨b,o,q1,q2⟩:=a3 hn
   have hpos:0<List.length c'.l:=by omega
   obtain⟨b1,o1',y1,y2⟩:=a1 hpos
   obtain⟨b2,o2',z1,z2⟩:=a2 (by simp only[Win.lenN];omega)
   simp only[Win.off,Nat.zero_mul,Nat.add_zero] at y2 z2
   rw[y2] at z2
   obtain⟨rfl,rfl⟩:b1=b2∧o1'=o2':=by simpa using z2
   have hG:(g'.G nm dj.t).1=((ghOf GL).G nm c'.t).1:=by rw[p3];exact p7
   rw[hG,y1] at q1
   obtain⟨rfl,rfl⟩:b1=b∧o1'=o:=by simpa using q1
   refine⟨b1,o1',z1,?_⟩
   rw[q2,hsz,p3]
  ·rw[hd] at hd2
   obtain rfl:=Option.some.inj hd2
   exact hkeep n d hd hwf
end
end Go.Proofs.Ytlipfbihlmlplaa.G
namespace Go.Proofs.Ytlipfbihlmlplaa.G
open Go Go.RowKit
set_option linter.unusedVariables false
set_option linter.unusedSimpArgs false
section
variable {P:Program} {E:Env} {m:Nat} {w0:World} {MB:Out} {s:St} {g:Gh} {a:Act} {w:World} {α:Type}
theorem after_call(h:R m w0 MB s g a w){sig:Sig}{xs:List SV}{vs:List Value}{avs:List AV}(hh:Handed E s.objs g xs vs avs)(hm:mutsOk s.objs xs sig.muts=true){GL:List Gent}{src:Nat→Nat}{MBb:List Nat}
  (I:Introduced w s.objs g sig.muts 0 0 xs vs avs GL src) (hM0:sig.muts=[]→MBb=[]) (hM1:∀i x n d,sig.muts=[i]→xs[i]? = some x→wholeOf s.objs x=some (n,d)→MBb=blksD g n d)
  {r:Res} {v:Value} {w':World} (hp:Post sig avs w (ghOf GL) MBb r v w') {u us:List (Nat×Option Ob)} {ts:List TV} {dn dn2:Nat} (hpu:putMuts s.objs xs sig.muts r.muts=some u) (hre:retsOf s.objs sig.muts xs [dn,dn2] r.rets=some (ts,us))
  (h12:dn≠dn2) (hnew:newOk { v:=svOf ts,upd:=u++us,loose:=u.map (·.1) } s.objs dn dn2=true) (dst:Option Tmp):
  ∃g',R m w0 MB (Eff.on { v:=svOf ts,upd:=u++us,loose:=u.map (·.1) } dst s) g' (a.put dst v) w':=by
 obtain⟨objs',g',xs',vs',Rc,hou,hmu,rfl⟩:=hp
 have slv:All2 (SRel objs' g') xs' vs':=by
  have t1:=Rc.tm
  simp only[List.size_toArray] at t1
  refine⟨t1.symm,fun i x y hx hy=>?_⟩
  have hi:=(List.getElem?_eq_some_iff.1 hx).1
  have:=Rc.slots i hi
  rw[List.getD_eq_getElem?_getD,hx] at this
  rw[show vs'.toArray.getD i undef=y by
   have hi2:=(List.getElem?_eq_some_iff.1 hy).1
   have e:=(List.getElem?_eq_some_iff.1 hy).2
   simp[hi2,e]] at this
  exact this
 obtain⟨OW,e1,e2,e3,e4,e5⟩:=rets_ok Rc xs' vs' [] [dn,dn2] r.rets ts us slv hou hre (by simp[h12])
 subst e1
 have hnm:∀o,o∈OW→o.nm<s.objs.length∧obAt s.objs o.nm=none:=fun o ho=>by
  have hin:o.nm∈[dn,dn2]:=e2.subset (List.mem_map.2 ⟨o,ho,rfl⟩)
  have:=List.all_eq_true.1 hnew (o.nm,some (.dat o.d)) (List.mem_append_right _ (List.mem_map.2 ⟨o,ho,rfl⟩))
  simp only[List.mem_cons,List.not_mem_nil,or_false] at hin
  rcases hin with q|q<;>simp[q] at this<;>(rw[q];exact⟨this.2,this.1⟩)
 have hnames:(OW.map (·.nm)).Nodup:=e2.nodup (by simp[h12])
 have hown:∀o,o∈OW→o.nm<s.objs.length∧obAt s.objs o.nm=none∧memH w' true (.row o.c.e o.c.t) none o.c.l o.L∧o.bl.Nodup∧∀b,b∈o.bl→w.heap.size≤b:=fun o ho=>by
  obtain⟨kk,dk,_,_,j3,j4,j5,j6,j7,j8⟩:=e3 o ho
  exact⟨(hnm o ho).1,(hnm o ho).2,j6,j7,fun b hb=>(Rc.fresh kk dk j3 j4 b (j8 b hb)).1 j5⟩
 have hwb:=Rc.frame
 rcases mutsOk_cases hm with hmz|⟨i,x,n,d,hmi,hx,hwo,hno⟩
 ·
  have hu:u=[]:=by
   rw[hmz] at hpu
   unfold putMuts at hpu
   split at hpu
   ·simpa using hpu.symm
   ·rename_i q1 q2;cases q1
   ·cases hpu
  subst hu
  have C:Called w w' s g OW none:=⟨by rw[hM0 hmz] at hwb;exact hwb,hown,hnames,e4,fun M hM=>by cases hM⟩
  refine⟨_,h.called C (svOf ts) dst (retV vs') (svOf_rel (e5 _ _ (fun o ho=>⟨(called_obs C).1 o ho,ownGh_at OW _ hnames o ho⟩) ?_))⟩
  refine al_hyp h hh I Rc (fun n d hd hw=>?_) (fun i x n d j hc=>by rw[hmz] at hc;cases hc) (fun i x hc=>by rw[hmz] at hc;cases hc)
  have hk:∀o,o∈OW→n≠o.nm:=fun o ho e=>by
   have:=datAt_ob.2 hd
   rw[e,(hnm o ho).2] at this;cases this
  exact⟨datAt_ob.1 (by rw[(called_obs C).2.2 n hk (fun M hM=>by cases hM)];exact datAt_ob.2 hd),ownGh_ne OW _ n hk⟩
 ·
  obtain⟨_,hd,hh0,hw0⟩:=wholeOf_cases hwo
  obtain⟨j,e,a1,a2,a3,a4,a5⟩:=I.mutAt i x n d hx (by rw[hmi];simp) hwo
  rw[Nat.zero_add] at a5
  have hob:obAt (intro sig.muts 0 0 avs).objs j=some (.dat ⟨e,d.t,d.l,true,false,none⟩):=by unfold obAt;rw[List.getD_eq_getElem?_getD,a3];rfl
  have hG:(ghOf GL).G j=g.G n:=by simp[ghOf,List.getD_eq_getElem?_getD,a4]
  obtain⟨dj,p1,p2,p3,p4,p5,p6,p7⟩:=Rc.pins _ (pins_mem (gh:=ghOf GL) (datAt_ob.1 hob))
  simp only at p1 p2 p3 p4 p6 p7
  rw[hG] at p7
  rw[hmi] at hpu hmu
  cases hmo:mutOut objs' (intro [i] 0 0 avs).names i with
  |none=>simp[hmo] at hmu
  |some c=>
   simp only[List.mapM_cons,List.mapM_nil,Option.bind_eq_bind,Option.pure_def,hmo,Option.bind_some,Option.some.injEq] at hmu
   rw[←hmu] at hpu
   rw[hmi] at a5
   unfold mutOut at hmo
   rw[a5] at hmo
   simp only[p1] at hmo
   split at hmo
   ·rename_i hjh
    obtain rfl:=Option.some.inj hmo
    simp only[putMuts,hx,Option.bind_some,hwo] at hpu
    ·by_cases ht:dj.t=d.t
     ·rw[dif_pos ht] at hpu
      obtain rfl:=Option.some.inj hpu
      obtain⟨de,dt,dl,dw,df,dh⟩:=d
      obtain⟨je,jt,jl,jw,jf,jh⟩:=dj
      simp only at ht p2 p3 p4 p5 p6 p7 hjh hh0 hw0
      subst ht p4 p5 hjh hh0 hw0
      have hblj:blksD g' j ⟨je,jt,jl,true,false,none⟩=blks true (.row je jt) none jl (g'.G j jt):=rfl
      have hmem:=Rc.dat j _ p1
      obtain⟨sp1,sp2⟩:=Rc.sep j _ p1 rfl
      have hfs:=Rc.fresh j _ p1 rfl
      rw[hM1 i x n _ hmi hx hwo] at hfs hwb
      have C:Called w w' s g OW (some ⟨n,⟨de,jt,dl,true,df,none⟩,jl,g'.G j jt⟩):=by
       refine⟨hwb,hown,hnames,e4,fun M hM=>?_⟩
       obtain rfl:=Option.some.inj hM
       refine⟨hd,rfl,rfl,p6,p7,hmem,sp1,fun b hb=>(hfs b hb).2 rfl,fun o ho b hb1 hb2=>?_⟩
       obtain⟨kk,dk,j1,j2,j3,j4,j5,j6,j7,j8⟩:=e3 o ho
       have hjk:kk≠j:=fun e=>by
        have:=I.len
        rw[this] at j2
        omega
       exact sp2 kk _ hjk (datAt_ob.2 j3) b hb1 (j8 b hb2)
      refine⟨_,h.called C (svOf ts) dst (retV vs') (svOf_rel (e5 _ _ (fun o ho=>⟨(called_obs C).1 o ho,ownGh_at OW _ hnames o ho⟩) ?_))⟩
      have hnO:∀o,o∈OW→n≠o.nm:=fun o ho e=>by
       have:=datAt_ob.2 hd
       rw[e,(hnm o ho).2] at this;cases this
      refine al_hyp h hh I Rc (fun n' d' hd' hw'=>?_) (fun i' x' n' d' j' hc hx' hwo' hn'=>?_) (fun i' x' hc hx'=>?_)
      ·have hne:n'≠n:=fun e=>by
        rw[e,hd] at hd'
        obtain rfl:=Option.some.inj hd'
        cases hw'
       have hk:∀o,o∈OW→n'≠o.nm:=fun o ho e=>by
        have:=datAt_ob.2 hd'
        rw[e,(hnm o ho).2] at this;cases this
       have k2:∀M,some (⟨n,⟨de,jt,dl,true,df,none⟩,jl,g'.G j jt⟩:MutR)=some M→n'≠M.n:=fun M hM=>by
        obtain rfl:=Option.some.inj hM
        exact hne
       exact⟨datAt_ob.1 (by rw[(called_obs C).2.2 n' hk k2];exact datAt_ob.2 hd'),by rw[ownGh_ne OW _ n' hk];exact Gh.put_ne g _ _ hne⟩
      ·rw[hmi] at hc hn'
       obtain rfl:i'=i:=by simpa using hc
       rw[hx] at hx'
       obtain rfl:=Option.some.inj hx'
       rw[hwo] at hwo'
       simp only[Option.some.injEq,Prod.mk.injEq] at hwo'
       obtain⟨rfl,rfl⟩:=hwo'
       rw[a5] at hn'
       simp only[Option.some.injEq] at hn'
       subst hn'
       refine⟨_,p1,rfl,_,datAt_ob.1 ((called_obs C).2.1 _ rfl),rfl,rfl,rfl,rfl,?_⟩
       rw[ownGh_ne OW _ n hnO]
       show ((g.put n jt (g'.G j jt)).G n jt).1=_
       rw[Gh.put_same]
      ·rw[hmi] at hc
       obtain rfl:i'=i:=by simpa using hc
       rw[hx] at hx'
       obtain rfl:=Option.some.inj hx'
       exact⟨n,_,hwo⟩
     ·rw[dif_neg ht] at hpu
      cases hpu
   ·cases hmo
theorem call_holds(hS:∀f sig,E.T f=some sig→Sound P f sig)(h:R m w0 MB s g a w){o:Oper}{c:Call}{f:Operand}{gid:FuncId}{caps:List (Nat×List Stp)}(ho:o.op = .call c)(hc:c.callee = .value f)(hf:evalO s.slots f = .fn gid caps)(hsz:c.argTypes.size=c.args.size)
  {dn dn2:Nat} (h12:dn≠dn2) {K:Eff→Option α} {r:α} (hK:effCall E s.objs dn dn2 gid (c.argTypes.toList.zip (c.args.toList.map (evalO s.slots))) caps K=some r):
  ∃e,K e=some r∧(newOk e s.objs dn dn2=true→Holds P m w0 MB s g o a w e):=by
 unfold effCall at hK
 split at hK
 ·rename_i sig l cs hsig hl hcs
  simp only at hK
  split at hK
  ·rename_i hmut
   rw[sig.law] at hK
   obtain⟨res,hres,hK⟩:=Option.bind_eq_some_iff.1 hK
   split at hK
   ·rename_i u ts us hpu hre
    refine⟨_,hK,fun hn=>?_⟩
    have hfn:=h.eval f
    rw[hf] at hfn
    obtain⟨cvs,hfe,hcv⟩:=hfn
    have hmap:(c.argTypes.toList.zip (c.args.toList.map (evalO s.slots))).map (·.2)=c.args.toList.map (evalO s.slots):=List.map_snd_zip (by simp[hsz])
    have hargs:All2 (SRel s.objs g) ((c.argTypes.toList.zip (c.args.toList.map (evalO s.slots))).map (·.2)) (c.args.toList.map a.eval):=by
     rw[hmap]
     refine⟨by simp,fun i x y hx hy=>?_⟩
     rw[List.getElem?_map] at hx hy
     cases hz:c.args.toList[i]? with
     |none=>rw[hz] at hx;cases hx
     |some z=>
      rw[hz] at hx hy
      simp only[Option.map_some,Option.some.injEq] at hx hy
      subst hx hy
      exact h.eval z
    have hh:=handed_append _ _ _ _ _ _ (handed_args_nil hl hargs) (handed_caps (E:=E) _ _ _ hcv hcs)
    obtain⟨GL,src,MBb,I,Rq,hM0,hM1⟩:=callee_R h hh hmut
    have S:=hS gid sig hsig
    obtain⟨fn,f1,f2,f3⟩:=S.fn
    have hcall:=S.does _ _ hres _ w _ MBb Rq
    have hrun:(execOp a.eval o).run P w = .ok (.enter gid (c.args.toList.map a.eval++cvs).toArray) w:=by
     unfold execOp
     rw[ho]
     have e1:(c.args.toList.map a.eval++cvs).toArray = #[]++c.args.map a.eval++cvs.toArray:=by
      apply Array.ext'
      simp
     simp only[resolve,hc,Deferred.ofValue,hfe,Sem.run_bind,Sem.run_pure,Result.andThen_ok,invoke,callFunc,run_program,f1,e1]
     have f2' : (fn.name == "runtime.NumGoroutine") = false := by simpa using f2
     simp[f2',f3]
    intro next Q hnext
    unfold Oper.wp
    rw[hrun]
    refine hcall.mono (fun e w' he=>?_)
    cases e with
    |returned v=>
     obtain⟨g'',hR⟩:=after_call h hh hmut I hM0 hM1 he hpu hre h12 hn o.dst
     exact hnext v w' ⟨g'',hR⟩
    |panicked _=>exact he.elim
    |outgrown=>exact he.elim
   ·cases hK
  ·cases hK
 ·cases hK
end
end Go.Proofs.Ytlipfbihlmlplaa.G
namespace Go.Proofs.Ytlipfbihlmlplaa.G
open Go Go.RowKit
set_option linter.unusedVariables false
set_option linter.unusedSimpArgs false
section
variable {E:Env} {α:Type} {objs objs':List (Option Ob)} {n:Nat}
theorem datAt_congr(h:obAt objs' n=obAt objs n):datAt objs' n=datAt objs n:=by unfold datAt;rw[h]
theorem place_congr(h:obAt objs' n=obAt objs n)(p:List Stp):place objs' n p=place objs n p:=by unfold place;rw[datAt_congr h]
theorem place0_congr(h:obAt objs' n=obAt objs n)(p:List Stp):place0 objs' n p=place0 objs n p:=by unfold place0;rw[datAt_congr h]
theorem placeTy_congr(h:obAt objs' n=obAt objs n)(p:List Stp):placeTy objs' n p=placeTy objs n p:=by unfold placeTy;rw[datAt_congr h]
theorem rowE_congr(h:obAt objs' n=obAt objs n)(p:List Stp):rowE objs' n p=rowE objs n p:=by unfold rowE;rw[place_congr h]
theorem wholeLen_congr(h:obAt objs' n=obAt objs n)(p:List Stp):wholeLen objs' n p=wholeLen objs n p:=by unfold wholeLen;rw[place0_congr h]
theorem winLen_congr(h:obAt objs' n=obAt objs n)(p:List Stp)(w:Win):winLen objs' n p w=winLen objs n p w:=by unfold winLen;simp only[wholeLen_congr h]
theorem elemTy_congr(h:obAt objs' n=obAt objs n)(p:List Stp):elemTy objs' n p=elemTy objs n p:=by unfold elemTy;rw[place0_congr h]
theorem contOf_congr(h:obAt objs' n=obAt objs n)(p:List Stp)(w:Win):contOf objs' n p w=contOf objs n p w:=by unfold contOf;rw[shows_congr p w h,rowE_congr h]
theorem capOf_congr(h:obAt objs' n=obAt objs n)(h2:∀e k w,obAt objs n=some (.bx e k w)→obAt objs' k=obAt objs k)(p:List Stp):capOf objs' n p=capOf objs n p:=by
 unfold capOf
 rw[h]
 split
 ·rw[place_congr h]
 ·rename_i e k w hb
  simp only[contOf_congr (h2 e k w hb)]
 ·rfl
def Agree(objs objs':List (Option Ob))(l:List SV):Prop:=∀x,x∈l→∀k,k∈namesOf objs x→obAt objs' k=obAt objs k
theorem Agree.sl{l:List SV}(h:Agree objs objs' l){p:List Stp}{w:Win}(hx:SV.sl n p w∈l):obAt objs' n=obAt objs n:=h _ hx n (by simp[namesOf])
theorem Agree.ptr{l:List SV}(h:Agree objs objs' l){p:List Stp}{c:Bool}(hx:SV.ptr n p c∈l):obAt objs' n=obAt objs n∧∀e k w,obAt objs n=some (.bx e k w)→obAt objs' k=obAt objs k:=by
 refine⟨h _ hx n ?_,fun e k w hb=>h _ hx k ?_⟩
 ·unfold namesOf;simp only;split<;>simp
 ·unfold namesOf;simp[hb]
theorem loc_load{t:TypeId}{x:SV}{K:Eff→Option α}(h:Agree objs objs' [x]):effLoad E objs' t x K=effLoad E objs t x K:=by
 cases x with
 |ptr n p c=>
  obtain⟨h1,_⟩:=h.ptr (List.mem_singleton.2 rfl)
  unfold effLoad
  simp only[h1,place_congr h1]
 |_=>rfl
theorem loc_takeOver{x:SV}{e:TypeId}{t:Ty}(h:Agree objs objs' [x]):takeOver objs' x e t=takeOver objs x e t:=by
 cases x with
 |sl n p w=>
  have h1:=h.sl (List.mem_singleton.2 rfl)
  cases p with
  |nil=>cases w with
   |none=>unfold takeOver;simp only[datAt_congr h1]
   |some _=>rfl
  |cons _ _=>rfl
 |_=>rfl
theorem loc_store{t:TypeId}{x y:SV}{K:Eff→Option α}(h:Agree objs objs' [x,y]):effStore E objs' t x y K=effStore E objs t x y K:=by
 cases x with
 |ptr n p c=>
  obtain⟨h1,_⟩:=h.ptr (show SV.ptr n p c∈[SV.ptr n p c,y] by simp)
  have h2:∀e u,takeOver objs' y e u=takeOver objs y e u:=fun e u=>loc_takeOver (fun z hz=>h z (by simp at hz;simp[hz]))
  unfold effStore
  simp only[datAt_congr h1]
  cases hd:datAt objs n with
  |none=>rfl
  |some d=>
   simp only
   cases hw:d.wr with
   |false=>rfl
   |true=>
    cases y with
    |sl n' q w=>
     have h3:∀e u,takeOver objs' (SV.sl n' q w) e u=takeOver objs (SV.sl n' q w) e u:=h2
     simp only[h3]
    |_=>rfl
 |_=>rfl
theorem loc_box{dn:Nat}{t:TypeId}{x:SV}{K:Eff→Option α}(h:Agree objs objs' [x]):effBox E objs' dn t x K=effBox E objs dn t x K:=by
 cases x with
 |sl n p w=>
  have h1:=h.sl (List.mem_singleton.2 rfl)
  cases p with
  |nil=>unfold effBox;simp only[datAt_congr h1]
  |cons _ _=>rfl
 |_=>rfl
theorem loc_fieldAddr{t:TypeId}{x:SV}{f:Nat}{K:Eff→Option α}(h:Agree objs objs' [x]):effFieldAddr E objs' t x f K=effFieldAddr E objs t x f K:=by
 cases x with
 |ptr n p c=>
  obtain⟨h1,_⟩:=h.ptr (List.mem_singleton.2 rfl)
  unfold effFieldAddr
  cases E.TT t with
  |none=>rfl
  |some _=>simp only[placeTy_congr h1]
 |_=>rfl
theorem loc_indexAddr{t:TypeId}{x y:SV}{K:Eff→Option α}(h:Agree objs objs' [x,y]):effIndexAddr E objs' t x y K=effIndexAddr E objs t x y K:=by
 cases x with
 |ptr n p c=>
  obtain⟨h1,_⟩:=h.ptr (show SV.ptr n p c∈[SV.ptr n p c,y] by simp)
  unfold effIndexAddr
  cases y with
  |val u j=>cases u with
   |int k=>simp only[placeTy_congr h1]
   |_=>rfl
  |_=>rfl
 |sl n p w=>
  have h1:=h.sl (show SV.sl n p w∈[SV.sl n p w,y] by simp)
  unfold effIndexAddr
  cases y with
  |val u j=>cases u with
   |int k=>simp only[place0_congr h1,winLen_congr h1]
   |_=>rfl
  |_=>rfl
 |_=>rfl
theorem loc_slice{t:TypeId}{x:SV}{lo hi:Option SV}{mx:Bool}{K:Eff→Option α}{l:List SV}(hx:x∈l)(h:Agree objs objs' l):effSlice E objs' t x lo hi mx K=effSlice E objs t x lo hi mx K:=by
 cases x with
 |ptr n p c=>
  obtain⟨h1,_⟩:=h.ptr hx
  unfold effSlice
  cases mx with
  |true=>rfl
  |false=>cases E.TT t with
   |none=>rfl
   |some ty=>cases ty with
    |arr _ _=>simp only[placeTy_congr h1,datAt_congr h1]
    |_=>rfl
 |sl n p w=>
  have h1:=h.sl hx
  unfold effSlice
  cases mx with
  |true=>rfl
  |false=>cases E.TT t with
   |none=>rfl
   |some ty=>cases ty with
    |row _ _=>simp only[elemTy_congr h1,winLen_congr h1]
    |_=>rfl
 |nil=>
  unfold effSlice
  cases mx with
  |true=>rfl
  |false=>cases E.TT t with
   |none=>rfl
   |some ty=>cases ty<;>rfl
 |val u y=>
  unfold effSlice
  cases mx with
  |true=>rfl
  |false=>cases E.TT t with
   |none=>cases u<;>rfl
   |some ty=>cases ty<;>cases u<;>rfl
 |_=>cases mx<;>rfl
theorem loc_len{tt:Option Ty}{x:SV}{K:Eff→Option α}(h:Agree objs objs' [x]):effLen tt objs' x K=effLen tt objs x K:=by
 cases x with
 |sl n p w=>
  have h1:=h.sl (List.mem_singleton.2 rfl)
  unfold effLen
  cases tt with
  |none=>rfl
  |some ty=>cases ty with
   |row _ _=>simp only[place0_congr h1]
   |_=>rfl
 |val u y=>cases u<;>(cases tt with
  |none=>rfl
  |some ty=>cases ty<;>rfl)
 |nil=>cases tt with
  |none=>rfl
  |some ty=>cases ty<;>rfl
 |_=>rfl
theorem loc_lit{dn:Nat}{t:TypeId}{m:Nat}{ps:List (Nat×SV)}{K:Eff→Option α}(h:Agree objs objs' (ps.map (·.2))):effLit E objs' dn t m ps K=effLit E objs dn t m ps K:=by
 have h2:∀i x,(i,x)∈ps→∀e u,takeOver objs' x e u=takeOver objs x e u:=fun i x hx e u=>loc_takeOver (fun z hz=>h z (by simp at hz;subst hz;exact List.mem_map.2 ⟨(i,z),hx,rfl⟩))
 unfold effLit
 split
 ·split
  ·rfl
  ·split
   ·rw[h2 0 _ (List.mem_singleton.2 rfl)]
   ·rfl
   ·rfl
  ·rfl
 ·rfl
theorem loc_bytes{t0 t:TypeId}{x:SV}{K:Eff→Option α}(h:Agree objs objs' [x]):effBytes E objs' t0 t x K=effBytes E objs t0 t x K:=by
 unfold effBytes
 have e:appended objs' x (.int .u8)=appended objs x (.int .u8):=appended_congr (fun k hk=>by
  cases x with
  |sl n p w=>
   simp only[nameIn,beq_iff_eq] at hk
   subst hk
   exact h _ (List.mem_singleton.2 rfl) _ (by simp[namesOf])
  |_=>cases hk)
 rw[e]
theorem loc_append{dn:Nat}{t:TypeId}{x y:SV}{K:Eff→Option α}(h:Agree objs objs' [x,y]):effAppend E objs' dn t x y K=effAppend E objs dn t x y K:=by
 have h2:∀u,appended objs' y u=appended objs y u:=fun u=>appended_congr (fun k hk=>by
  cases y with
  |sl n p w=>
   have:n=k:=by simpa[nameIn] using hk
   subst this
   exact h.sl (show SV.sl n p w∈[x,SV.sl n p w] by simp)
  |_=>cases hk)
 unfold effAppend
 simp only[h2]
 cases x with
 |sl n p w=>
  have h1:=h.sl (show SV.sl n p w∈[SV.sl n p w,y] by simp)
  simp only[datAt_congr h1]
 |_=>rfl
theorem loc_nil{tt:Option Ty}{op:BinOp}{x:SV}{K:Eff→Option α}(h:Agree objs objs' [x]):effNil tt objs' op x K=effNil tt objs op x K:=by
 cases x with
 |sl n p w=>
  have h1:=h.sl (List.mem_singleton.2 rfl)
  have h2:shows objs' n p w=shows objs n p w:=shows_congr p w h1
  unfold effNil
  cases op<;>first|rfl|(cases tt with
   |none=>rfl
   |some y=>cases y<;>first|rfl|simp only[h2])
 |_=>unfold effNil;cases op<;>rfl
theorem loc_clear{t:TypeId}{x:SV}{K:Eff→Option α}(h:Agree objs objs' [x]):effClear E objs' t x K=effClear E objs t x K:=by
 unfold effClear
 cases x with
 |sl n p w=>
  have h1:=h.sl (List.mem_singleton.2 rfl)
  cases p with
  |nil=>
   cases E.TT t with
   |none=>rfl
   |some y=>cases y<;>first|rfl|simp only[datAt_congr h1]
  |cons _ _=>rfl
 |nil=>
  cases E.TT t with
  |none=>rfl
  |some y=>cases y<;>rfl
 |_=>rfl
theorem loc_copy{t:TypeId}{x y:SV}{K:Eff→Option α}(h:Agree objs objs' [x,y]):effCopy E objs' t x y K=effCopy E objs t x y K:=by
 have h2:∀u,appended objs' y u=appended objs y u:=fun u=>appended_congr (fun k hk=>by
  cases y with
  |sl n p w=>
   have:n=k:=by simpa[nameIn] using hk
   subst this
   exact h.sl (show SV.sl n p w∈[x,SV.sl n p w] by simp)
  |_=>cases hk)
 unfold effCopy
 simp only[h2]
 cases x with
 |sl n p w=>
  have h1:=h.sl (show SV.sl n p w∈[SV.sl n p w,y] by simp)
  cases p with
  |nil=>
   cases E.TT t with
   |none=>rfl
   |some y=>cases y<;>first|rfl|simp only[datAt_congr h1]
  |cons _ _=>rfl
 |_=>rfl
theorem loc_capOf{l:List SV}(h:Agree objs objs' l){p:List Stp}{c:Bool}(hx:SV.ptr n p c∈l):capOf objs' n p=capOf objs n p:=capOf_congr (h.ptr hx).1 (h.ptr hx).2 p
theorem mapM_congr{β γ:Type}{f f':β→Option γ}:∀(l:List β),(∀x,x∈l→f x=f' x)→l.mapM f=l.mapM f'
 |[],_=>rfl
 |x::l,h=>by rw[List.mapM_cons,List.mapM_cons,h x (by simp),mapM_congr l (fun y hy=>h y (by simp[hy]))]
theorem loc_caps{cs:List (Nat×List Stp)}(h:∀c,c∈cs→∀k,k∈namesOf objs (.ptr c.1 c.2 false)→obAt objs' k=obAt objs k):cs.mapM (fun c=>capOf objs' c.1 c.2)=cs.mapM (fun c=>capOf objs c.1 c.2):=
 mapM_congr cs (fun c hc=>loc_capOf (c:=false) (l:=[SV.ptr c.1 c.2 false]) (fun x hx k hk=>by simp at hx;subst hx;exact h c hc k hk) (by simp))
theorem fn_names{f:FuncId}{cs:List (Nat×List Stp)}{c:Nat×List Stp}(hc:c∈cs){k:Nat}(hk:k∈namesOf objs (.ptr c.1 c.2 false)):k∈namesOf objs (.fn f cs):=List.mem_flatMap.2 ⟨c,hc,hk⟩
theorem loc_avOf{t:TypeId}{x:SV}(h:Agree objs objs' [x]):avOf E objs' t x=avOf E objs t x:=by
 cases x with
 |sl n p w=>unfold avOf;simp only[contOf_congr (h.sl (List.mem_singleton.2 rfl))]
 |ptr n p c=>unfold avOf;simp only[loc_capOf h (List.mem_singleton.2 rfl)]
 |fn f cs=>unfold avOf;simp only[loc_caps (fun c hc k hk=>h _ (List.mem_singleton.2 rfl) k (fn_names hc hk))]
 |_=>rfl
theorem loc_avsOf:∀(as:List (TypeId×SV)),Agree objs objs' (as.map (·.2))→avsOf E objs' as=avsOf E objs as
 |[],_=>rfl
 |(t,x)::r,h=>by
  unfold avsOf
  rw[loc_avOf (fun y hy=>h y (by simp at hy;simp[hy])),loc_avsOf r (fun y hy=>h y (by simp only[List.map_cons];exact List.mem_cons_of_mem _ hy))]
end
end Go.Proofs.Ytlipfbihlmlplaa.G
namespace Go.Proofs.Ytlipfbihlmlplaa.G
open Go Go.RowKit
set_option linter.unusedVariables false
set_option linter.unusedSimpArgs false
section
variable {E:Env} {α:Type} {objs objs':List (Option Ob)} {n:Nat}
theorem flatMap_cg{β γ:Type}{f g:β→List γ}:∀(l:List β),(∀x,x∈l→f x=g x)→l.flatMap f=l.flatMap g
 |[],_=>rfl
 |x::l,h=>by rw[List.flatMap_cons,List.flatMap_cons,h x (by simp),flatMap_cg l (fun y hy=>h y (by simp[hy]))]
theorem wholeOf_congr{x:SV}(h:Agree objs objs' [x]):wholeOf objs' x=wholeOf objs x:=by
 unfold wholeOf
 split
 ·rename_i n
  have h1:=h.sl (List.mem_singleton.2 rfl)
  simp only[datAt_congr h1]
 ·have h1:=(h.ptr (List.mem_singleton.2 rfl)).1
  simp only[datAt_congr h1]
 ·rfl
theorem namesOf_congr{x:SV}(h:Agree objs objs' [x]):namesOf objs' x=namesOf objs x:=by
 cases x with
 |ptr n p c=>
  have h1:=(h.ptr (List.mem_singleton.2 rfl)).1
  unfold namesOf
  simp only[h1]
 |fn f cs=>
  unfold namesOf
  refine flatMap_cg cs (fun c hc=>?_)
  have h1:obAt objs' c.1=obAt objs c.1:=h _ (List.mem_singleton.2 rfl) c.1 (fn_names hc (by unfold namesOf;simp only;split<;>simp))
  simp only[h1]
 |_=>rfl
theorem Agree.one{l:List SV}(h:Agree objs objs' l){x:SV}(hx:x∈l):Agree objs objs' [x]:=fun y hy k hk=>h y (by simp at hy;subst hy;exact hx) k hk
theorem bind_whole{xs:List SV}(h:Agree objs objs' xs)(i:Nat):(xs[i]?).bind (wholeOf objs')=(xs[i]?).bind (wholeOf objs):=by
 cases hx:xs[i]? with
 |none=>rfl
 |some x=>exact wholeOf_congr (h.one (List.mem_of_getElem? hx))
theorem mutsOk_congr{xs:List SV}(h:Agree objs objs' xs)(muts:List Nat):mutsOk objs' xs muts=mutsOk objs xs muts:=by
 unfold mutsOk
 split
 ·rfl
 ·rename_i i
  rw[bind_whole h i]
  split
  ·rw[Bool.eq_iff_iff]
   simp only[List.all_eq_true,List.mem_range]
   refine⟨fun hq j hj=>?_,fun hq j hj=>?_⟩ <;>
   ·have:=hq j hj
    have e:namesOf objs' (xs.getD j .dead)=namesOf objs (xs.getD j .dead):=namesOf_congr (h.one (by rw[List.getD_eq_getElem?_getD,List.getElem?_eq_getElem hj];exact List.getElem_mem hj))
    simpa only[e] using this
  ·rfl
 ·rfl
theorem putMuts_congr{xs:List SV}(h:Agree objs objs' xs)(muts:List Nat)(cs:List Cont):putMuts objs' xs muts cs=putMuts objs xs muts cs:=by
 unfold putMuts
 split
 ·rfl
 ·rename_i i c
  rw[bind_whole h i]
 ·rfl
theorem retOf_congr{xs:List SV}(h:Agree objs objs' xs)(muts ns:List Nat)(rv:RV):retOf objs' muts xs ns rv=retOf objs muts xs ns rv:=by
 cases rv with
 |al i w=>
  cases hx:xs[i]? with
  |none=>cases ns<;>simp only[retOf,hx]
  |some x=>
   cases x with
   |sl n p wn=>
    have h1:=h.sl (List.mem_of_getElem? hx)
    cases wn with
    |none=>cases ns<;>simp only[retOf,hx,datAt_congr h1]
    |some _=>cases ns<;>simp only[retOf,hx]
   |_=>cases ns<;>simp only[retOf,hx]
 |own c=>cases ns<;>rfl
 |val t y=>cases ns<;>rfl
 |nil=>cases ns<;>rfl
theorem retsOf_congr{xs:List SV}(h:Agree objs objs' xs)(muts:List Nat):∀(rets:List RV) (ns:List Nat),retsOf objs' muts xs ns rets=retsOf objs muts xs ns rets
 |[],_=>rfl
 |r::rs,ns=>by
  unfold retsOf
  rw[retOf_congr h]
  split
  ·rw[retsOf_congr h muts rs]
  ·rfl
theorem loc_call{dn dn2:Nat}{f:FuncId}{as:List (TypeId×SV)}{caps:List (Nat×List Stp)}{K:Eff→Option α}(h1:Agree objs objs' (as.map (·.2)))(h2:Agree objs objs' [.fn f caps]):
  effCall E objs' dn dn2 f as caps K=effCall E objs dn dn2 f as caps K:=by
 have hc:∀c,c∈caps→∀k,k∈namesOf objs (.ptr c.1 c.2 false)→obAt objs' k=obAt objs k:=fun c hc k hk=>h2 _ (List.mem_singleton.2 rfl) k (fn_names hc hk)
 have hx:Agree objs objs' (as.map (·.2)++caps.map fun c=>SV.ptr c.1 c.2 false):=fun x hx k hk=>by
  rcases List.mem_append.1 hx with hx|hx
  ·exact h1 x hx k hk
  ·obtain⟨c,hcm,rfl⟩:=List.mem_map.1 hx
   exact hc c hcm k hk
 unfold effCall
 rw[loc_avsOf (markNil _ 0 as) (by rw[markNil_snd];exact h1),loc_caps hc]
 split
 ·simp only[mutsOk_congr hx,putMuts_congr hx,retsOf_congr hx]
 ·rfl
theorem loc_callIn{dn:Nat}{f:FuncId}{as:List (TypeId×SV)}{caps:List (Nat×List Stp)}{K:Eff→Option α}(h1:Agree objs objs' (as.map (·.2)))(h2:Agree objs objs' [.fn f caps]):
  effCallIn E objs' dn f as caps K=effCallIn E objs dn f as caps K:=by
 have hc:∀c,c∈caps→∀k,k∈namesOf objs (.ptr c.1 c.2 false)→obAt objs' k=obAt objs k:=fun c hc k hk=>h2 _ (List.mem_singleton.2 rfl) k (fn_names hc hk)
 have hx:Agree objs objs' (as.map (·.2)++caps.map fun c=>SV.ptr c.1 c.2 false):=fun x hx k hk=>by
  rcases List.mem_append.1 hx with hx|hx
  ·exact h1 x hx k hk
  ·obtain⟨c,hcm,rfl⟩:=List.mem_map.1 hx
   exact hc c hcm k hk
 unfold effCallIn
 rw[loc_avsOf (markNil _ 0 as) (by rw[markNil_snd];exact h1),loc_caps hc]
 split
 ·simp only
  split
  ·rename_i i _
   split
   ·rename_i n q0 q hxi
    have e1:=datAt_congr (hx.sl (List.mem_of_getElem? hxi))
    rw[e1]
    have e2:((List.range (as.map (·.2)++caps.map fun c=>SV.ptr c.1 c.2 false).length).all fun j=>j==i||!(namesOf objs' ((as.map (·.2)++caps.map fun c=>SV.ptr c.1 c.2 false).getD j .dead)).contains n) =
      ((List.range (as.map (·.2)++caps.map fun c=>SV.ptr c.1 c.2 false).length).all fun j=>j==i||!(namesOf objs ((as.map (·.2)++caps.map fun c=>SV.ptr c.1 c.2 false).getD j .dead)).contains n):=by
     rw[Bool.eq_iff_iff]
     simp only[List.all_eq_true,List.mem_range]
     refine⟨fun hq j hj=>?_,fun hq j hj=>?_⟩ <;>
     ·have:=hq j hj
      have e:namesOf objs' ((as.map (·.2)++caps.map fun c=>SV.ptr c.1 c.2 false).getD j .dead)=namesOf objs ((as.map (·.2)++caps.map fun c=>SV.ptr c.1 c.2 false).getD j .dead):=namesOf_congr (hx.one (by rw[List.getD_eq_getElem?_getD,List.getElem?_eq_getElem hj];exact List.getElem_mem hj))
      simpa only[e] using this
    simp only[e2]
   ·rfl
  ·rfl
 ·rfl
theorem loc_callAny{dn dn2:Nat}{f:FuncId}{as:List (TypeId×SV)}{caps:List (Nat×List Stp)}{K:Eff→Option α}(h1:Agree objs objs' (as.map (·.2)))(h2:Agree objs objs' [.fn f caps]):
  effCallAny E objs' dn dn2 f as caps K=effCallAny E objs dn dn2 f as caps K:=by
 unfold effCallAny
 rw[loc_call h1 h2,loc_callIn h1 h2]
theorem loc_op{slots slots':List SV}{o:Oper}{dn dn2:Nat}{K:Eff→Option α}(hs:∀x,x∈o.op.operands.toList→evalO slots' x=evalO slots x)(h:Agree objs objs' (opSVs slots o)):
  effOp E slots' objs' o dn dn2 K=effOp E slots objs o dn dn2 K:=by
 have ag:∀l:List Operand,(∀x,x∈l→x∈o.op.operands.toList)→Agree objs objs' (l.map (evalO slots)):=fun l hl y hy=>by
  obtain⟨x,hx,rfl⟩:=List.mem_map.1 hy
  exact h _ (List.mem_map.2 ⟨x,hl x hx,rfl⟩)
 cases ho:o.op with
 |move x=>simp only[effOp,ho];rw[hs x (by simp[ho,Op.operands])]
 |assign x=>simp only[effOp,ho];rw[hs x (by simp[ho,Op.operands])]
 |pick c x y=>simp only[effOp,ho];rw[hs x (by simp[ho,Op.operands]),hs y (by simp[ho,Op.operands]),hs c (by simp[ho,Op.operands])]
 |alloc t=>simp only[effOp,ho]
 |box t x=>simp only[effOp,ho];rw[hs x (by simp[ho,Op.operands])];exact loc_box (ag [x] (by simp[ho,Op.operands]))
 |build t ps=>
  simp only[effOp,ho]
  have:(ps.toList.map fun q=>(q.1,evalO slots' q.2))=ps.toList.map fun q=>(q.1,evalO slots q.2):=List.map_congr_left (fun q hq=>by rw[hs q.2 (by simp[ho,Op.operands];exact⟨q.1,by simpa using hq⟩)])
  rw[this]
 |buildSlice t n ps=>
  simp only[effOp,ho]
  have hm:∀q,q∈ps.toList→q.2∈o.op.operands.toList:=fun q hq=>by simp[ho,Op.operands];exact⟨q.1,by simpa using hq⟩
  have:(ps.toList.map fun q=>(q.1,evalO slots' q.2))=ps.toList.map fun q=>(q.1,evalO slots q.2):=List.map_congr_left (fun q hq=>by rw[hs q.2 (hm q hq)])
  rw[this]
  refine loc_lit ?_
  have:=ag (ps.toList.map (·.2)) (fun x hx=>by obtain⟨q,hq,rfl⟩:=List.mem_map.1 hx;exact hm q hq)
  simpa[List.map_map,Function.comp_def] using this
 |load t x=>simp only[effOp,ho];rw[hs x (by simp[ho,Op.operands])];exact loc_load (ag [x] (by simp[ho,Op.operands]))
 |store t x y=>simp only[effOp,ho];rw[hs x (by simp[ho,Op.operands]),hs y (by simp[ho,Op.operands])];exact loc_store (ag [x,y] (by simp[ho,Op.operands]))
 |nilCheck x=>simp only[effOp,ho];rw[hs x (by simp[ho,Op.operands])]
 |binOp op t x y t2=>simp only[effOp,ho];rw[hs x (by simp[ho,Op.operands]),hs y (by simp[ho,Op.operands]),loc_nil (ag [x] (by simp[ho,Op.operands]))]
 |unOp op t x=>simp only[effOp,ho];rw[hs x (by simp[ho,Op.operands])]
 |convert t0 t x=>
  simp only[effOp,ho]
  rw[hs x (by simp[ho,Op.operands])]
  have hb:=loc_bytes (E:=E) (t0:=t0) (t:=t) (K:=K) (ag [x] (fun y hy=>by simp only[List.mem_singleton] at hy;subst hy;simp[ho,Op.operands]))
  simp only[hb]
 |makeFunc f first caps=>
  simp only[effOp,ho]
  have:caps.toList.map (evalO slots')=caps.toList.map (evalO slots):=List.map_congr_left (fun x hx=>hs x (by simp[ho,Op.operands];exact .inr (by simpa using hx)))
  rw[this]
 |makeSlice t x y=>simp only[effOp,ho];rw[hs x (by simp[ho,Op.operands]),hs y (by simp[ho,Op.operands])]
 |slice t x lo hi mx=>
  simp only[effOp,ho]
  have e1:lo.map (evalO slots')=lo.map (evalO slots):=by
   cases lo with
   |none=>rfl
   |some q=>simp only[Option.map_some];rw[hs q (by simp[ho,Op.operands])]
  have e2:hi.map (evalO slots')=hi.map (evalO slots):=by
   cases hi with
   |none=>rfl
   |some q=>simp only[Option.map_some];rw[hs q (by simp[ho,Op.operands])]
  rw[e1,e2,hs x (by simp[ho,Op.operands])]
  exact loc_slice (l:=[x].map (evalO slots)) (by simp) (ag [x] (by simp[ho,Op.operands]))
 |fieldAddr t x f=>simp only[effOp,ho];rw[hs x (by simp[ho,Op.operands])];exact loc_fieldAddr (ag [x] (by simp[ho,Op.operands]))
 |field t x f=>simp only[effOp,ho];rw[hs x (by simp[ho,Op.operands])]
 |indexAddr t x i=>simp only[effOp,ho];rw[hs x (by simp[ho,Op.operands]),hs i (by simp[ho,Op.operands])];exact loc_indexAddr (ag [x,i] (by simp[ho,Op.operands]))
 |index t x i=>simp only[effOp,ho];rw[hs x (by simp[ho,Op.operands]),hs i (by simp[ho,Op.operands])]
 |extract x i=>simp only[effOp,ho];rw[hs x (by simp[ho,Op.operands])]
 |call c=>
  have hargs:∀x,x∈c.args.toList→x∈o.op.operands.toList:=fun x hx=>by
   simp only[ho,Op.operands,Call.operands,Array.toList_append,List.mem_append]
   exact .inr hx
  have em:c.args.toList.map (evalO slots')=c.args.toList.map (evalO slots):=List.map_congr_left (fun x hx=>hs x (hargs x hx))
  cases hc:c.callee with
  |value f=>
   have hfm:f∈o.op.operands.toList:=by
    simp only[ho,Op.operands,Call.operands,hc,Array.toList_append,List.mem_append]
    exact .inl (by simp)
   simp only[effOp,ho,em,hc]
   rw[hs f hfm]
   cases hf:evalO slots f with
   |fn g cs=>
    simp only
    split
    ·refine loc_callAny (fun x hx k hk=>?_) (fun x hx k hk=>?_)
     ·obtain⟨q,hq,rfl⟩:=List.mem_map.1 hx
      exact ag c.args.toList hargs q.2 (List.of_mem_zip hq).2 k hk
     ·obtain rfl:=List.mem_singleton.1 hx
      exact h _ (List.mem_map.2 ⟨f,hfm,hf⟩) k hk
    ·rfl
   |_=>rfl
  |invoke x nm=>simp only[effOp,ho,hc]
  |builtin b=>
   cases b with
   |len=>
    simp only[effOp,ho,hc]
    split
    ·rename_i x t h1 h2
     rw[hs x (hargs x (by rw[h1];simp))]
     exact loc_len (ag [x] (fun y hy=>hargs y (by rw[h1];exact hy)))
    ·rfl
   |append=>
    simp only[effOp,ho,hc]
    split
    ·rename_i x y t t' h1 h2
     rw[hs x (hargs x (by rw[h1];simp)),hs y (hargs y (by rw[h1];simp))]
     split
     ·exact loc_append (ag [x,y] (fun z hz=>hargs z (by rw[h1];exact hz)))
     ·rfl
    ·rfl
   |cap=>
    simp only[effOp,ho,hc]
    split
    ·rename_i x t h1 h2
     rw[hs x (hargs x (by rw[h1];simp))]
    ·rfl
   |clear=>
    simp only[effOp,ho,hc]
    split
    ·rename_i x t h1 h2
     rw[hs x (hargs x (by rw[h1];simp))]
     exact loc_clear (ag [x] (fun y hy=>hargs y (by rw[h1];exact hy)))
    ·rfl
   |copy=>
    simp only[effOp,ho,hc]
    split
    ·rename_i x y t t' h1 h2
     rw[hs x (hargs x (by rw[h1];simp)),hs y (hargs y (by rw[h1];simp))]
     exact loc_copy (ag [x,y] (fun z hz=>hargs z (by rw[h1];exact hz)))
    ·rfl
   |max=>simp only[effOp,ho,hc,em]
   |min=>simp only[effOp,ho,hc,em]
   |_=>simp only[effOp,ho,hc]
 |_=>simp only[effOp,ho]
end
end Go.Proofs.Ytlipfbihlmlplaa.G
namespace Go.Proofs.Ytlipfbihlmlplaa.G
open Go Go.RowKit
set_option linter.unusedVariables false
set_option linter.unusedSimpArgs false
section
variable {P:Program} {E:Env} {m:Nat} {w0:World} {MB:Out} {s:St} {g:Gh} {a:Act} {w:World} {α:Type}
theorem plain_rel{objs':List (Option Ob)}{g':Gh}{base:Nat}{names:List (Option Nat)}:∀(xs:List SV) (vs:List Value) (ks:List Nat) (rets:List RV) (ts:List TV),All2 (SRel objs' g') xs vs→outsOf base objs' names xs ks=some rets→plainRets rets=some ts →
  ∀objs g,All2 (TRel objs g) ts vs
 |[],vs,ks,rets,ts,hv,ho,hp,objs,g=>by
  obtain rfl:=hv.nil_left
  simp only[outsOf,Option.some.injEq] at ho
  subst ho
  simp only[plainRets,Option.some.injEq] at hp
  subst hp
  exact All2.nil _
 |x::xs,[],ks,rets,ts,hv,ho,hp,objs,g=>by have:=hv.1;simp at this
 |x::xs,v::vs,ks,rets,ts,hv,ho,hp,objs,g=>by
  obtain⟨hv1,hv2⟩:=All2.cons_iff.1 hv
  unfold outsOf at ho
  split at ho
  ·rename_i rv k hout
   split at ho
   ·rename_i hk
    split at ho
    ·rename_i rl hrest
     obtain rfl:=Option.some.inj ho
     unfold plainRets at hp
     split at hp
     ·rename_i e;cases e
     ·rename_i t y r e
      simp only[List.cons.injEq] at e
      obtain⟨rfl,rfl⟩:=e
      split at hp
      ·rename_i ts2 hp2
       obtain rfl:=Option.some.inj hp
       refine All2.cons_iff.2 ⟨?_,plain_rel xs vs _ _ _ hv2 hrest hp2 objs g⟩
       unfold outOf at hout
       split at hout
       ·split at hout
        ·simp only[Option.some.injEq,Prod.mk.injEq,RV.val.injEq] at hout
         obtain⟨⟨rfl,e⟩,_⟩:=hout
         obtain rfl:=eq_of_heq e
         exact hv1
        ·cases hout
       ·simp at hout
       ·repeat' (split at hout)
        all_goals first
         |(cases hout;done)
         |(simp at hout;done)
       ·cases hout
      ·cases hp
     ·cases hp
    ·cases ho
   ·cases ho
  ·cases ho
theorem handed_iff{objs:List (Option Ob)}:∀(xs:List SV) (vs:List Value) (as:List AV),Handed E objs g xs vs as↔xs.length=vs.length∧xs.length=as.length∧∀(i:Nat) (x:SV) (v:Value) (av:AV),xs[i]? = some x→vs[i]? = some v→as[i]? = some av→SRel objs g x v∧∃t,avOf E objs t x=some av
 |[],[],[]=>by simp[Handed]
 |[],[],_::_=>by simp[Handed]
 |[],_::_,_=>by simp[Handed]
 |_::_,[],_=>by simp[Handed]
 |_::_,_::_,[]=>by simp[Handed]
 |x::xs,v::vs,a::as=>by
  unfold Handed
  rw[handed_iff xs vs as]
  simp only[List.length_cons,Nat.add_right_cancel_iff]
  constructor
  ·rintro⟨h1,h2,h3,h4,h5⟩
   refine⟨h3,h4,fun i x' v' av' e1 e2 e3=>?_⟩
   cases i with
   |zero=>
    simp only[List.getElem?_cons_zero,Option.some.injEq] at e1 e2 e3
    subst e1 e2 e3
    exact⟨h1,h2⟩
   |succ i=>exact h5 i x' v' av' (by simpa using e1) (by simpa using e2) (by simpa using e3)
  ·rintro⟨h3,h4,h5⟩
   obtain⟨h1,h2⟩:=h5 0 x v a rfl rfl rfl
   exact⟨h1,h2,h3,h4,fun i x' v' av' e1 e2 e3=>h5 (i+1) x' v' av' (by simpa using e1) (by simpa using e2) (by simpa using e3)⟩
theorem R.holed(h:R m w0 MB s g a w){n:Nat}{d:Dat}{p:List Stp}{e':TypeId}{u':Ty}{y:List u'.den}{lq:(Ty.row e' u').loc}{bq oq:Nat}(hd:datAt s.objs n=some d)(hw:d.wr=true)(hh:d.hole=none)(hp:p≠[])
  (hP:rootPL g n d p=some ⟨.row e' u',y,lq,bq,oq⟩) {w':World} (hf:Fr (blks true (.row e' u') none y lq) w w'):
  R m w0 MB (Eff.on { v:=.dead,upd:=[(n,some (.dat ⟨d.e,d.t,d.l,d.wr,d.fresh,some p⟩))],loose:=[n] } none s) g (a.put none undef) w':=by
 have hn:obAt s.objs n=some (.dat d):=datAt_ob.2 hd
 have hob:∀k,obAt (updAll [(n,some (.dat ⟨d.e,d.t,d.l,d.wr,d.fresh,some p⟩))] s.objs) k=if k=n then some (.dat ⟨d.e,d.t,d.l,d.wr,d.fresh,some p⟩) else obAt s.objs k:=fun k=>by
  show obAt (s.objs.set n _) k=_
  rw[obAt_set _ _ _ _ (obAt_lt hn)]
 have hold:∀k x,obAt (updAll [(n,some (.dat ⟨d.e,d.t,d.l,d.wr,d.fresh,some p⟩))] s.objs) k=some x →
   (k=n∧x = .dat ⟨d.e,d.t,d.l,d.wr,d.fresh,some p⟩)∨(k≠n∧obAt s.objs k=some x):=fun k x hx=>by
  rw[hob k] at hx
  split at hx
  ·rename_i e2;exact .inl ⟨e2,(Option.some.inj hx).symm⟩
  ·rename_i e2;exact .inr ⟨e2,hx⟩
 have hm:=h.dat n d hd
 obtain⟨hs,hs2⟩:=h.sep n d hd hw
 have hfs:=h.fresh n d hd hw
 have s2:∀k,k∈blks true (.row e' u') none y lq→k∈blksD g n d:=fun k hk=>by unfold blksD;rw[hh,hw];exact PL_blks (own:=true) _ _ _ _ _ _ _ hP k hk
 have hs':=hs
 unfold blksD at hs'
 rw[hh,hw] at hs'
 rw[hh,hw] at hm
 have bN:blksD g n ⟨d.e,d.t,d.l,d.wr,d.fresh,some p⟩=blks true (.row d.e d.t) (some p) d.l (g.G n d.t):=by unfold blksD;rw[hw]
 have s1:∀k,k∈blks true (.row d.e d.t) (some p) d.l (g.G n d.t)→k∈blksD g n d:=fun k hk=>by unfold blksD;rw[hh,hw];exact (blks_lend _ _ _ _).subset hk
 have s3:∀k,k∈blks true (.row d.e d.t) (some p) d.l (g.G n d.t)→k∉blks true (.row e' u') none y lq:=fun k hk=>blks_apart (own:=true) _ _ _ _ _ _ _ hP rfl hs' k hk
 have far:∀k x,obAt s.objs k=some x→k≠n→∀b,b∈blksO g k x→b<w.heap.size∧w'.heap[b]? = w.heap[b]? := by
  intro k x hx hk b hb
  have hlt:b<w.heap.size:=by
   cases x with
   |dat d0=>exact blks_lt _ _ _ _ (h.dat k d0 (datAt_ob.1 hx)) b hb
   |bx e q wn=>
    obtain⟨d1,u,_,_,hc,_⟩:=h.bx k e q wn hx
    obtain rfl:=List.mem_singleton.1 hb
    exact World.block_lt_of_cell? w _ hc
  exact⟨hlt,hf.block b hlt (fun hb2=>hs2 k x hk hx b (s2 b hb2) hb)⟩
 refine h.step _ none undef _ w' (fun sv u hr hh'=>?_) trivial ?_ ?_ ?_ ?_ ?_ (fun k d0 hk hf0=>?_)
 ·refine SRel.keep (fun k x hx _ hl=>?_) (fun k d0 hd0 _ hl=>?_) (fun k e0 q wn hb hl=>?_) hr hh'
  ·have hkn:k≠n:=fun q=>hl (by simp[q])
   exact⟨by rw[hob k,if_neg hkn];exact hx,rfl,rfl⟩
  ·obtain rfl:k=n:=by simpa using hl
   rw[hd] at hd0
   obtain rfl:=Option.some.inj hd0
   refine⟨⟨d.e,d.t,d.l,d.wr,d.fresh,some p⟩,?_,fun Q hQ=>⟨Q,hQ,fun _ _ _ q=>q⟩,rfl,fun q Q hc hQ=>⟨Q,hQ,rfl,rfl,hc⟩⟩
   rw[←datAt_ob,hob k,if_pos rfl]
  ·obtain rfl:k=n:=by simpa using hl
   rw[hn] at hb
   cases hb
 ·intro k d0 hk
  rcases hold k _ (datAt_ob.2 hk) with⟨rfl,e⟩|⟨e2,e3⟩
  ·cases e
   simp only[hw]
   refine memH_frame hf.size _ _ _ _ (memH_lend _ _ _ _ hm) (fun b hb=>hf.block b (blks_lt _ _ _ _ (memH_lend _ _ _ _ hm) b hb) (s3 b hb))
  ·exact memH_frame hf.size _ _ _ _ (h.dat k d0 (datAt_ob.1 e3)) (fun b hb=>(far k _ e3 e2 b hb).2)
 ·intro k e0 q wn hk
  rcases hold k _ hk with⟨rfl,e⟩|⟨e2,e3⟩
  ·cases e
  ·obtain⟨d1,u,q1,q2,q3,q4⟩:=h.bx k e0 q wn e3
   have hqn:q≠n:=fun e=>by
    rw[e,hd] at q1
    obtain rfl:=Option.some.inj q1
    rw[hw] at q2;cases q2
   have e4:obAt (updAll [(n,some (.dat ⟨d.e,d.t,d.l,d.wr,d.fresh,some p⟩))] s.objs) q=some (.dat d1):=by rw[hob q,if_neg hqn];exact datAt_ob.2 q1
   refine⟨d1,u,datAt_ob.1 e4,q2,?_,q4.keep (fun d2 hd2=>?_)⟩
   ·exact (World.cell?_of_block (w:=w) (far k _ e3 e2 (g.B k).1 (by simp[blksO])).2).trans q3
   ·rw[q1] at hd2
    obtain rfl:=Option.some.inj hd2
    exact⟨datAt_ob.1 e4,rfl⟩
 ·intro k d0 hk hwr
  rcases hold k _ (datAt_ob.2 hk) with⟨rfl,e⟩|⟨e2,e3⟩
  ·cases e
   rw[bN]
   refine⟨(blks_lend _ _ _ _).nodup hs',fun n' x hne' hx b hb1 hb2=>?_⟩
   rcases hold n' x hx with⟨e,_⟩|⟨q2,q3⟩
   ·exact hne' e
   ·exact hs2 n' x q2 q3 b (s1 b hb1) hb2
  ·obtain⟨t1,t2⟩:=h.sep k d0 (datAt_ob.1 e3) hwr
   refine⟨t1,fun n' x hne' hx b hb1 hb2=>?_⟩
   rcases hold n' x hx with⟨rfl,e⟩|⟨q2,q3⟩
   ·cases e
    replace hb2:b∈blksD g n' _:=hb2
    rw[bN] at hb2
    exact t2 n' _ (Ne.symm e2) hn b hb1 (s1 b hb2)
   ·exact t2 n' x hne' q3 b hb1 hb2
 ·intro k d0 hk hwr b hb
  rcases hold k _ (datAt_ob.2 hk) with⟨rfl,e⟩|⟨e2,e3⟩
  ·cases e
   rw[bN] at hb
   exact hfs b (s1 b hb)
  ·exact h.fresh k d0 (datAt_ob.1 e3) hwr b hb
 ·refine⟨hf.os.trans h.frame.os,hf.tape.trans h.frame.tape,hf.output.trans h.frame.output,Nat.le_trans h.frame.size hf.size,fun b hb1 hb2=>?_⟩
  rw[hf.block b (Nat.lt_of_lt_of_le hb1 h.frame.size) (fun hq=>?_)]
  ·exact h.frame.block b hb1 hb2
  ·have hq2:=hfs b (s2 b hq)
   cases hfq:d.fresh with
   |true=>have:=hq2.1 hfq;omega
   |false=>
    rcases hq2.2 hfq with q|q
    ·exact hb2 q
    ·omega
 ·by_cases hkn:k=n
  ·subst hkn
   rw[hd] at hk
   obtain rfl:=Option.some.inj hk
   exact⟨⟨d.e,d.t,d.l,d.wr,d.fresh,some p⟩,datAt_ob.1 (by rw[hob k,if_pos rfl]),rfl,rfl,rfl,hf0,rfl,rfl⟩
  ·exact⟨d0,datAt_ob.1 (by rw[hob k,if_neg hkn];exact datAt_ob.2 hk),rfl,rfl,rfl,hf0,rfl,rfl⟩
theorem hits_none{objs:List (Option Ob)}{n:Nat}{sv:SV}(h:n∉namesOf objs sv):hits [n] [] sv=false:=by
 have one:∀k:Nat,n≠k→([n]:List Nat).contains k=false:=fun k hk=>by simp[Ne.symm hk]
 cases sv with
 |sl k p w=>simp only[namesOf,List.mem_singleton] at h;simp[hits,Ne.symm h]
 |ptr k p c=>
  have hk:n≠k:=fun e=>h (by unfold namesOf;simp only;split<;>simp[e])
  simp[hits,Ne.symm hk]
 |fn f cs=>
  simp only[hits,List.any_eq_false]
  intro c hc
  have hk:n≠c.1:=fun e=>h (fn_names hc (by unfold namesOf;simp only;split<;>simp[e]))
  simp[Ne.symm hk]
 |tup l=>
  simp only[hits,List.any_eq_false]
  intro t ht
  cases t with
  |sl k p w=>
   have hk:n≠k:=fun e=>h (List.mem_flatMap.2 ⟨_,ht,by simp[e]⟩)
   simp[Ne.symm hk]
  |_=>simp
 |_=>rfl
theorem wrote_refl(w:World)(b o n:Nat):Wrote w w b o n where
 size:=rfl
 far:=fun _ _=>rfl
 out:=fun _ _=>rfl
 row:=fun cur e h=>⟨cur,h,rfl⟩
theorem svOf_plain{ts:List TV}{rets:List RV}(h:plainRets rets=some ts){vs:List Value}(hr:∀objs g,All2 (TRel objs g) ts vs)(objs:List (Option Ob))(g:Gh):SRel objs g (svOf ts) (retV vs):=svOf_rel (hr objs g)
theorem call_in_holds(hS:∀f sig,E.T f=some sig→Sound P f sig)(h:R m w0 MB s g a w){o:Oper}{c:Call}{f:Operand}{gid:FuncId}{caps:List (Nat×List Stp)}(ho:o.op = .call c)(hc:c.callee = .value f)(hf:evalO s.slots f = .fn gid caps)(hsz:c.argTypes.size=c.args.size)
  {dn dn2:Nat} {K:Eff→Option α} {r:α} (hK:effCallIn E s.objs dn gid (c.argTypes.toList.zip (c.args.toList.map (evalO s.slots))) caps K=some r):
  ∃e,K e=some r∧(newOk e s.objs dn dn2=true→Holds P m w0 MB s g o a w e):=by
 unfold effCallIn at hK
 split at hK
 rotate_left
 ·cases hK
 rename_i sig l cs hsig hl hcs
 simp only at hK
 split at hK
 rotate_left
 ·cases hK
 rename_i i hmu
 split at hK
 rotate_left
 ·cases hK
 rename_i n q0 q hxi
 split at hK
 rotate_left
 ·cases hK
 rename_i d hd
 split at hK
 rotate_left
 ·cases hK
 rename_i e' u' y hw hh hgp
 split at hK
 rotate_left
 ·cases hK
 rename_i hno
 rw[sig.law] at hK
 obtain⟨res,hres,hK⟩:=Option.bind_eq_some_iff.1 hK
 split at hK
 rotate_left
 ·cases hK
 rename_i cc ts hrm hpl
 split at hK
 rotate_left
 ·cases hK
 rename_i hct
 split at hK
 rotate_left
 ·cases hK
 rename_i d' hput
 refine⟨_,hK,fun hn=>?_⟩
 obtain⟨hdn2,hdn⟩:obAt s.objs dn=none∧dn<s.objs.length:=by
  have:=List.all_eq_true.1 hn (dn,none) (by simp)
  simpa using this
 have hfn:=h.eval f
 rw[hf] at hfn
 obtain⟨cvs,hfe,hcv⟩:=hfn
 have hmap:(c.argTypes.toList.zip (c.args.toList.map (evalO s.slots))).map (·.2)=c.args.toList.map (evalO s.slots):=List.map_snd_zip (by simp[hsz])
 have hargs:All2 (SRel s.objs g) ((c.argTypes.toList.zip (c.args.toList.map (evalO s.slots))).map (·.2)) (c.args.toList.map a.eval):=by
  rw[hmap]
  refine⟨by simp,fun i x y hx hy=>?_⟩
  rw[List.getElem?_map] at hx hy
  cases hz:c.args.toList[i]? with
  |none=>rw[hz] at hx;cases hx
  |some z=>
   rw[hz] at hx hy
   simp only[Option.map_some,Option.some.injEq] at hx hy
   subst hx hy
   exact h.eval z
 have hh0:=handed_append _ _ _ _ _ _ (handed_args_nil hl hargs) (handed_caps (E:=E) _ _ _ hcv hcs)
 generalize hxs:(c.argTypes.toList.zip (c.args.toList.map (evalO s.slots))).map (·.2)++caps.map (fun c=>SV.ptr c.1 c.2 false)=xs at *
 obtain⟨hl1,hl2,hall⟩:=(handed_iff _ _ _).1 hh0
 have hil:i<xs.length:=(List.getElem?_eq_some_iff.1 hxi).1
 have other:∀j x,xs[j]? = some x→j≠i→n∉namesOf s.objs x:=fun j x hx hj hm=>by
  have hjl:=(List.getElem?_eq_some_iff.1 hx).1
  have:=List.all_eq_true.1 hno j (List.mem_range.2 hjl)
  simp only[Bool.or_eq_true,beq_iff_eq,Bool.not_eq_true',List.contains_eq_mem,decide_eq_false_iff_not] at this
  rcases this with q|q
  ·exact hj q
  ·rw[List.getD_eq_getElem?_getD,hx] at q
   exact q hm
 have hvl:i<(c.args.toList.map a.eval++cvs).length:=by omega
 have hal:i<(l++cs.map capAV).length:=by omega
 obtain⟨hsl,ti,hav⟩:=hall i _ _ _ hxi (List.getElem?_eq_getElem hvl) (List.getElem?_eq_getElem hal)
 obtain⟨d2,Q,sz,hd',tot,g1,g2,hP,g4,g5⟩:=hsl
 rw[hd] at g1
 obtain rfl:=Option.some.inj g1
 have eQ:=getP_of_PL _ _ _ _ _ _ _ hP
 rw[hgp] at eQ
 obtain⟨uq,yq,lq,bq,oq⟩:=Q
 simp only[Option.some.injEq,Sigma.mk.injEq] at eQ
 obtain⟨rfl,eQ⟩:=eQ
 obtain rfl:=eq_of_heq eQ
 simp only[hdrP,Option.some.injEq,Prod.mk.injEq] at g4
 obtain⟨rfl,rfl,rfl⟩:=g4
 have hp:(q0::q)≠[]:=by simp
 have hn0:obAt s.objs n=some (.dat d):=datAt_ob.2 hd
 have hnd:n≠dn:=fun q=>by rw[q,hdn2] at hn0;cases hn0
 have h1:=h.lendF hd hw hh hp hP hdn hdn2
 generalize hs1:Eff.on { v:=.dead,upd:=[(n,some (.dat ⟨d.e,d.t,d.l,d.wr,d.fresh,some (q0::q)⟩)),(dn,some (.dat ⟨e',u',y,true,d.fresh,none⟩))],loose:=[n] } none s=s1 at h1
 have hobj:s1.objs=(s.objs.set n (some (.dat ⟨d.e,d.t,d.l,d.wr,d.fresh,some (q0::q)⟩))).set dn (some (.dat ⟨e',u',y,true,d.fresh,none⟩)):=by rw[←hs1];rfl
 have hob:∀k,obAt s1.objs k=if k=dn then some (.dat ⟨e',u',y,true,d.fresh,none⟩) else if k=n then some (.dat ⟨d.e,d.t,d.l,d.wr,d.fresh,some (q0::q)⟩) else obAt s.objs k:=fun k=>by
  rw[hobj,obAt_set _ _ _ _ (by simpa using hdn),obAt_set _ _ _ _ (obAt_lt hn0)]
 have hput0:a.put none undef=a:=rfl
 rw[hput0] at h1
 have hdD:datAt s1.objs dn=some ⟨e',u',y,true,d.fresh,none⟩:=by rw[←datAt_ob,hob dn,if_pos rfl]
 have named:∀{sv v} {OB:List (Option Ob)} {gg:Gh},SRel OB gg sv v→∀k,k∈namesOf OB sv→True:=fun _ _ _=>trivial
 have agree:∀j x,xs[j]? = some x→j≠i→∀v,SRel s.objs g x v→(∃t av,avOf E s.objs t x=some av)→Agree s.objs s1.objs [x]:=by
  intro j x hx hj v hv hav y' hy k hk
  obtain rfl:=List.mem_singleton.1 hy
  have hkn:k≠n:=fun e=>other j y' hx hj (e▸hk)
  by_cases hkd:k=dn
  ·exfalso
   subst hkd
   obtain⟨t,av,hav⟩:=hav
   have some_of:∀{n p w},(contOf s.objs n p w).isSome=true→obAt s.objs n≠none:=fun {n p w} hc e=>by
    unfold contOf shows place datAt at hc
    rw[e] at hc
    cases hc
   have cap_of:∀{n p},(capOf s.objs n p).isSome=true→obAt s.objs n≠none:=fun {n p} hc e=>by
    unfold capOf at hc
    rw[e] at hc
    cases hc
   have cap_of2:∀{n p e k w},(capOf s.objs n p).isSome=true→obAt s.objs n=some (.bx e k w)→obAt s.objs k≠none:=fun {n p e k w} hc e1 e2=>by
    unfold capOf at hc
    rw[e1] at hc
    simp only at hc
    split at hc
    ·rename_i h5 h6
     exact some_of (by rw[h6];rfl) e2
    ·cases hc
   have ptr_of:∀{n p c},(capOf s.objs n p).isSome=true→k∈namesOf s.objs (.ptr n p c)→False:=fun {n p c} hc hk=>by
    unfold namesOf at hk
    simp only at hk
    split at hk
    ·rename_i e0 k0 w0 e1
     simp only[List.mem_cons,List.not_mem_nil,or_false] at hk
     rcases hk with rfl|rfl
     ·exact cap_of hc hdn2
     ·exact cap_of2 hc e1 hdn2
    ·simp only[List.mem_cons,List.not_mem_nil,or_false] at hk
     subst hk
     exact cap_of hc hdn2
   cases y' with
   |val t x=>cases hk
   |nil=>cases hk
   |unk=>cases hk
   |dead=>cases hk
   |tup l=>cases hav
   |sl n' p' w'=>
    simp only[namesOf,List.mem_singleton] at hk
    subst hk
    unfold avOf at hav
    simp only at hav
    obtain⟨c0,hc0,_⟩:=Option.map_eq_some_iff.1 hav
    exact some_of (by rw[hc0];rfl) hdn2
   |ptr n' p' c'=>
    unfold avOf at hav
    simp only at hav
    obtain⟨c0,hc0,_⟩:=Option.map_eq_some_iff.1 hav
    exact ptr_of (by rw[hc0];rfl) hk
   |fn f' cs'=>
    unfold avOf at hav
    simp only at hav
    obtain⟨c0,hc0,_⟩:=Option.map_eq_some_iff.1 hav
    obtain⟨c1,hc1,hk1⟩:=List.mem_flatMap.1 hk
    have:(capOf s.objs c1.1 c1.2).isSome=true:=by
     have hgen:∀(l:List (Nat×List Stp)) (z:List (Option TypeId×Cont)),l.mapM (fun c=>capOf s.objs c.1 c.2)=some z→∀c,c∈l→(capOf s.objs c.1 c.2).isSome=true:=by
      intro l
      induction l with
      |nil=>intro z _ c hc;cases hc
      |cons b l ih=>
       intro z hz c hc
       rw[List.mapM_cons] at hz
       cases hb:capOf s.objs b.1 b.2 with
       |none=>rw[hb] at hz;cases hz
       |some bb=>
        rw[hb] at hz
        cases hr:l.mapM (fun c=>capOf s.objs c.1 c.2) with
        |none=>simp[hr] at hz
        |some rr=>
         rcases List.mem_cons.1 hc with rfl|hc
         ·rw[hb];rfl
         ·exact ih rr hr c hc
     exact hgen _ _ hc0 _ hc1
    exact ptr_of (c:=false) this hk1
  ·rw[hob k,if_neg hkd,if_neg hkn]
 have hh1:Handed E s1.objs (g.put dn u' lq) (xs.set i (.sl dn [] none)) (c.args.toList.map a.eval++cvs) (l++cs.map capAV):=by
  refine (handed_iff _ _ _).2 ⟨by simpa using hl1,by simpa using hl2,fun j x v av hx hv hav'=>?_⟩
  by_cases hj:j=i
  ·subst hj
   rw[List.getElem?_set_self hil] at hx
   obtain rfl:=Option.some.inj hx
   rw[List.getElem?_eq_getElem hvl] at hv
   obtain rfl:=Option.some.inj hv
   rw[List.getElem?_eq_getElem hal] at hav'
   obtain rfl:=Option.some.inj hav'
   refine⟨⟨_,_,_,_,_,hdD,fun _=>rfl,getPL_nil _ _ _ _ _,rfl,by rw[Gh.put_same];rw[hw] at g5;exact g5⟩,ti,?_⟩
   rw[←hav]
   unfold avOf contOf shows rowE place
   simp only[hdD,hd,hh,hgp]
   rfl
  ·rw[List.getElem?_set_ne (Ne.symm hj)] at hx
   obtain⟨k1,t,k2⟩:=hall j x v av hx hv hav'
   have ag:=agree j x hx hj v k1 ⟨t,av,k2⟩
   refine⟨?_,t,by rw[←k2];exact loc_avOf ag⟩
   refine SRel.keep (k:=[n]) (l:=[]) (fun k z hz hk _=>?_) (fun k d0 _ _ hk=>by cases hk) (fun _ _ _ _ _ hk=>by cases hk) k1 (hits_none (other j x hx hj))
   have hkn:k≠n:=by simpa using hk
   have hkd:k≠dn:=fun e=>by rw[e,hdn2] at hz;cases hz
   exact⟨by rw[hob k,if_neg hkd,if_neg hkn];exact hz,Gh.put_ne g _ _ hkd,rfl⟩
 have hwo:wholeOf s1.objs (.sl dn [] none)=some (dn,⟨e',u',y,true,d.fresh,none⟩):=by
  unfold wholeOf
  simp only[hdD]
 have hmut:mutsOk s1.objs (xs.set i (.sl dn [] none)) sig.muts=true:=by
  rw[hmu]
  unfold mutsOk
  simp only[List.getElem?_set_self hil,Option.bind_some,hwo]
  refine List.all_eq_true.2 (fun j hj=>?_)
  have hjl:j<xs.length:=by simpa using List.mem_range.1 hj
  by_cases hji:j=i
  ·simp[hji]
  ·have e1:(xs.set i (.sl dn [] none)).getD j .dead=xs[j]:=by
    rw[List.getD_eq_getElem?_getD,List.getElem?_set_ne (Ne.symm hji),List.getElem?_eq_getElem hjl];rfl
   have hxj:xs[j]? = some xs[j]:=List.getElem?_eq_getElem hjl
   obtain⟨k1,t,k2⟩:=hall j xs[j] (c.args.toList.map a.eval++cvs)[j] (l++cs.map capAV)[j] hxj (List.getElem?_eq_getElem (by omega)) (List.getElem?_eq_getElem (by omega))
   have ag:=agree j _ hxj hji _ k1 ⟨t,_,k2⟩
   rw[e1,namesOf_congr ag]
   simp only[Bool.or_eq_true,beq_iff_eq,Bool.not_eq_true',List.contains_eq_mem,decide_eq_false_iff_not]
   refine .inr (fun hm=>?_)
   have:=ag _ (List.mem_singleton.2 rfl) dn hm
   rw[hob dn,if_pos rfl,hdn2] at this
   cases this
 obtain⟨GL,src,MBb,I,Rq,hM0,hM1⟩:=callee_R h1 hh1 hmut
 have S:=hS gid sig hsig
 obtain⟨fn,f1,f2,f3⟩:=S.fn
 have hcall:=S.does _ _ hres _ w _ MBb Rq
 have hrun:(execOp a.eval o).run P w = .ok (.enter gid (c.args.toList.map a.eval++cvs).toArray) w:=by
  unfold execOp
  rw[ho]
  have e1:(c.args.toList.map a.eval++cvs).toArray = #[]++c.args.map a.eval++cvs.toArray:=by
   apply Array.ext'
   simp
  simp only[resolve,hc,Deferred.ofValue,hfe,Sem.run_bind,Sem.run_pure,Result.andThen_ok,invoke,callFunc,run_program,f1,e1]
  have f2' : (fn.name == "runtime.NumGoroutine") = false := by simpa using f2
  simp[f2',f3]
 intro next QQ hnext
 unfold Oper.wp
 rw[hrun]
 refine hcall.mono (fun e w' he=>?_)
 cases e with
 |panicked _=>exact he.elim
 |outgrown=>exact he.elim
 |returned v=>
  obtain⟨objs',g',xs',vs',Rc,hou,hmu',rfl⟩:=he
  have slv:All2 (SRel objs' g') xs' vs':=by
   have t1:=Rc.tm
   simp only[List.size_toArray] at t1
   refine⟨t1.symm,fun i x y hx hy=>?_⟩
   have hi:=(List.getElem?_eq_some_iff.1 hx).1
   have:=Rc.slots i hi
   rw[List.getD_eq_getElem?_getD,hx] at this
   rw[show vs'.toArray.getD i undef=y by
    have hi2:=(List.getElem?_eq_some_iff.1 hy).1
    have e:=(List.getElem?_eq_some_iff.1 hy).2
    simp[hi2,e]] at this
   exact this
  have hrel:=plain_rel _ _ _ _ _ slv hou hpl
  have hwb:=Rc.frame
  have hxi1:(xs.set i (.sl dn [] none))[i]? = some (.sl dn [] none):=List.getElem?_set_self hil
  obtain⟨j,e,a1,a2,a3,a4,a5⟩:=I.mutAt i _ dn _ hxi1 (by rw[hmu];simp) hwo
  rw[Nat.zero_add] at a5
  have hobj':obAt (intro sig.muts 0 0 (l++cs.map capAV)).objs j=some (.dat ⟨e,u',y,true,false,none⟩):=by unfold obAt;rw[List.getD_eq_getElem?_getD,a3];rfl
  have hG:(ghOf GL).G j=(g.put dn u' lq).G dn:=by simp[ghOf,List.getD_eq_getElem?_getD,a4]
  obtain⟨dj,p1,p2,p3,p4,p5,p6,p7⟩:=Rc.pins _ (pins_mem (gh:=ghOf GL) (datAt_ob.1 hobj'))
  simp only at p1 p2 p3 p4 p6 p7
  rw[hG,Gh.put_same] at p7
  rw[hrm,hmu] at hmu'
  rw[hmu] at a5
  cases hmo:mutOut objs' (intro [i] 0 0 (l++cs.map capAV)).names i with
  |none=>simp[hmo] at hmu'
  |some c1=>
   simp only[List.mapM_cons,List.mapM_nil,Option.bind_eq_bind,Option.pure_def,hmo,Option.bind_some,Option.some.injEq,List.cons.injEq,and_true] at hmu'
   subst hmu'
   unfold mutOut at hmo
   rw[a5] at hmo
   simp only[p1] at hmo
   split at hmo
   rotate_left
   ·cases hmo
   rename_i hjh
   obtain rfl:=Option.some.inj hmo
   obtain⟨je,jt,jl,jw,jf,jh⟩:=dj
   simp only at p2 p3 p4 p5 p6 p7 hjh hct hput
   subst p3 p4 p5 hjh
   have hmem:=Rc.dat j _ p1
   obtain⟨sp1,sp2⟩:=Rc.sep j _ p1 rfl
   have hfs:=Rc.fresh j _ p1 rfl
   have hblD:blksD (g.put dn jt lq) dn ⟨e',jt,y,true,d.fresh,none⟩=blks true (.row e' jt) none y lq:=by unfold blksD;rw[Gh.put_same]
   rw[hM1 i _ dn _ hmu hxi1 hwo,hblD] at hfs hwb
   have hR2:=h.holed hd hw hh hp hP hwb
   rw[hput0] at hR2
   generalize hs2:Eff.on { v:=.dead,upd:=[(n,some (.dat ⟨d.e,d.t,d.l,d.wr,d.fresh,some (q0::q)⟩))],loose:=[n] } none s=s2 at hR2
   have hobj2:s2.objs=s.objs.set n (some (.dat ⟨d.e,d.t,d.l,d.wr,d.fresh,some (q0::q)⟩)):=by rw[←hs2];rfl
   have hob2:∀k,obAt s2.objs k=if k=n then some (.dat ⟨d.e,d.t,d.l,d.wr,d.fresh,some (q0::q)⟩) else obAt s.objs k:=fun k=>by
    rw[hobj2,obAt_set _ _ _ _ (obAt_lt hn0)]
   have hd2:datAt s2.objs n=some ⟨d.e,d.t,d.l,d.wr,d.fresh,some (q0::q)⟩:=by rw[←datAt_ob,hob2 n,if_pos rfl]
   have hP2:rootPL g n ⟨d.e,d.t,d.l,d.wr,d.fresh,some (q0::q)⟩ (q0::q)=some ⟨.row e' jt,y,lq,bq,oq⟩:=hP
   have hcells:cells (.row e' jt) jl (g'.G j jt)=cells (.row e' jt) y lq:=by
    simp only[cells,p6,p7]
   have hthere:w'.rangeAt bq oq (cells (.row e' jt) y lq):=by
    have hm2:=hR2.dat n _ hd2
    obtain⟨i0,q',e0⟩:=root_idx hp hP
    simp only[List.cons.injEq] at e0
    obtain⟨rfl,rfl⟩:=e0
    have hP3:=hP2
    unfold rootPL getPL at hP3
    split at hP3
    ·rename_i hi
     split at hP3
     ·rename_i ad ha
      have m2:=hm2.resolve_left (by simp[lent])
      obtain⟨b',o',e2,hlt,hr⟩:=m2.1.at_ (by simp only at hi ⊢;omega)
      simp only at ha
      rw[ha] at e2
      obtain rfl:=Option.some.inj e2
      exact PL_there _ _ _ _ _ _ q ⟨.row e' jt,y,lq,bq,oq⟩ (HoleAt.sub_idx (.inr rfl)) hP3 (m2.2 i0 hi) ((rangeAt_flatMap _ _ (fun i=>cells_length d.t _ _) _).1 hr i0 hi)
     ·cases hP3
    ·cases hP3
   unfold putAt at hput
   split at hput
   rotate_left
   ·cases hput
   rename_i l' hset
   obtain rfl:=Option.some.inj hput
   have hs':=(h.sep n d hd hw).1
   unfold blksD at hs'
   rw[hh,hw] at hs'
   have hbl:∀b,b∈blks true (.row e' jt) none jl (g'.G j jt)→(b∉blksD g n ⟨d.e,d.t,d.l,d.wr,d.fresh,some (q0::q)⟩∧(∀j x,j≠n→obAt s2.objs j=some x→b∉blksO g j x)∧(d.fresh=true→w0.heap.size≤b)∧(d.fresh=false→b∈MB.b∨w0.heap.size≤b)):=fun b hb=>by
    have bN:blksD g n ⟨d.e,d.t,d.l,d.wr,d.fresh,some (q0::q)⟩=blks true (.row d.e d.t) (some (q0::q)) d.l (g.G n d.t):=by unfold blksD;rw[hw]
    have s1':∀k,k∈blks true (.row d.e d.t) (some (q0::q)) d.l (g.G n d.t)→k∈blksD g n d:=fun k hk=>by unfold blksD;rw[hh,hw];exact (blks_lend _ _ _ _).subset hk
    have s2':∀k,k∈blks true (.row e' jt) none y lq→k∈blksD g n d:=fun k hk=>by unfold blksD;rw[hh,hw];exact PL_blks (own:=true) _ _ _ _ _ _ _ hP k hk
    have lt:∀k x,obAt s.objs k=some x→∀b,b∈blksO g k x→b<w.heap.size:=by
     intro k x hx b hb
     cases x with
     |dat d0=>exact blks_lt _ _ _ _ (h.dat k d0 (datAt_ob.1 hx)) b hb
     |bx e q wn=>
      obtain⟨d1,u,_,_,hc,_⟩:=h.bx k e q wn hx
      obtain rfl:=List.mem_singleton.1 hb
      exact World.block_lt_of_cell? w _ hc
    rcases (hfs b hb).2 rfl with k1|k1
    ·refine⟨fun hb2=>?_,fun j' x hj' hx hb2=>?_,?_⟩
     ·rw[bN] at hb2
      exact blks_apart (own:=true) _ _ _ _ _ _ _ hP rfl hs' b hb2 k1
     ·rw[hob2 j',if_neg hj'] at hx
      exact (h.sep n d hd hw).2 j' x hj' hx b (s2' b k1) hb2
     ·exact h.fresh n d hd hw b (s2' b k1)
    ·refine⟨fun hb2=>?_,fun j' x hj' hx hb2=>?_,?_⟩
     ·rw[bN] at hb2
      have:=lt n _ hn0 b (s1' b hb2)
      omega
     ·rw[hob2 j',if_neg hj'] at hx
      have:=lt j' x hx b hb2
      omega
     ·have:=Nat.le_trans h.frame.size k1
      exact⟨fun _=>this,fun _=>.inr this⟩
   obtain⟨g2',hfin⟩:=hR2.writeG (Q:=⟨.row e' jt,y,lq,bq,oq⟩) hd2 hw (.inr rfl) hp hP2 jl (g'.G j jt) hset [] [n] (fun k hk=>by cases hk) (wrote_refl w' _ _ _) (by rw[hcells];exact hthere) rfl (TD.refl _) rfl rfl
    hmem sp1 (fun b hb=>.inr (.inr (hbl b hb))) (.inr rfl) o.dst (svOf ts) (retV vs') (svOf_plain hpl hrel)
   refine hnext _ w' ⟨g2',?_⟩
   have e1:∀dst,Eff.on { v:=svOf ts,upd:=[(dn,none),(n,some (.dat ⟨d.e,d.t,l',d.wr,d.fresh,d.hole⟩))],loose:=[n] } dst s =
     Eff.on { v:=svOf ts,upd:=([]:List Nat).map (fun k=>(k,none))++[(n,some (.dat ⟨d.e,d.t,l',d.wr,d.fresh,none⟩))],kill:=[],loose:=[n] } dst s2:=by
    intro dst
    rw[←hs2]
    have ed:s.objs.set dn none=s.objs:=by
     apply List.ext_getElem?
     intro k
     by_cases hk:k=dn
     ·subst hk
      rw[List.getElem?_set_self hdn]
      unfold obAt at hdn2
      rw[List.getD_eq_getElem?_getD,List.getElem?_eq_getElem hdn] at hdn2
      rw[List.getElem?_eq_getElem hdn]
      simp only[Option.getD_some] at hdn2
      rw[hdn2]
     ·rw[List.getElem?_set_ne (Ne.symm hk)]
    have eo:updAll [(dn,none),(n,some (.dat ⟨d.e,d.t,l',d.wr,d.fresh,d.hole⟩))] s.objs=(s.objs.set n (some (.dat ⟨d.e,d.t,d.l,d.wr,d.fresh,some (q0::q)⟩))).set n (some (.dat ⟨d.e,d.t,l',d.wr,d.fresh,none⟩)):=by
     show (s.objs.set dn none).set n _=_
     rw[ed,List.set_set,hh]
    have es:∀sl,swept [] [n] (swept [] [n] sl)=swept [] [n] sl:=fun sl=>by
     simp only[swept_map,List.map_map]
     apply List.map_congr_left
     intro sv _
     simp only[Function.comp_apply]
     unfold sweep
     by_cases hq:hits [] [n] sv=true
     ·rw[if_pos hq];rfl
     ·rw[if_neg hq,if_neg hq]
    unfold Eff.on
    rw[eo]
    simp only[es]
    rfl
   rw[e1]
   exact hfin
theorem call_any_holds(hS:∀f sig,E.T f=some sig→Sound P f sig)(h:R m w0 MB s g a w){o:Oper}{c:Call}{f:Operand}{gid:FuncId}{caps:List (Nat×List Stp)}(ho:o.op = .call c)(hc:c.callee = .value f)(hf:evalO s.slots f = .fn gid caps)(hsz:c.argTypes.size=c.args.size)
  {dn dn2:Nat} (h12:dn≠dn2) {K:Eff→Option α} {r:α} (hK:effCallAny E s.objs dn dn2 gid (c.argTypes.toList.zip (c.args.toList.map (evalO s.slots))) caps K=some r):
  ∃e,K e=some r∧(newOk e s.objs dn dn2=true→Holds P m w0 MB s g o a w e):=by
 unfold effCallAny at hK
 split at hK
 ·exact call_in_holds hS h ho hc hf hsz hK
 ·exact call_holds hS h ho hc hf hsz h12 hK
end
end Go.Proofs.Ytlipfbihlmlplaa.G
namespace Go.Proofs.Ytlipfbihlmlplaa.G
open Go Go.RowKit
set_option linter.unusedVariables false
set_option linter.unusedSimpArgs false
section
variable {P:Program} {E:Env} {m:Nat} {w0:World} {MB:Out} {s:St} {g:Gh} {a:Act} {w:World} {α:Type}
theorem op_holds(T:TTok P E)(hS:∀f sig,E.T f=some sig→Sound P f sig)(h:R m w0 MB s g a w){o:Oper}{dn dn2:Nat}(h12:dn≠dn2){K:Eff→Option α}{r:α}
  (hK:effOp E s.slots s.objs o dn dn2 K=some r):∃e,K e=some r∧(newOk e s.objs dn dn2=true→Holds P m w0 MB s g o a w e):=by
 have triv:(∃e,K e=some r∧Holds P m w0 MB s g o a w e)→∃e,K e=some r∧(newOk e s.objs dn dn2=true→Holds P m w0 MB s g o a w e):=fun⟨e,h1,h2⟩=>⟨e,h1,fun _=>h2⟩
 have trivV:(∃sv,K { v:=sv }=some r∧Holds P m w0 MB s g o a w { v:=sv })→∃e,K e=some r∧(newOk e s.objs dn dn2=true→Holds P m w0 MB s g o a w e):=fun⟨sv,h1,h2⟩=>⟨_,h1,fun _=>h2⟩
 cases ho:o.op with
 |move x=>simp only[effOp,ho] at hK;exact triv ⟨_,hK,move_holds h (.inl ho)⟩
 |assign x=>simp only[effOp,ho] at hK;exact triv ⟨_,hK,move_holds h (.inr ho)⟩
 |pick c x y=>simp only[effOp,ho] at hK;exact triv (pick_holds h ho hK)
 |alloc t=>simp only[effOp,ho] at hK;exact alloc_holds T h ho hK
 |box t x=>simp only[effOp,ho] at hK;exact box_holds T h ho hK
 |build t ps=>simp only[effOp,ho] at hK;exact triv (build_holds T h ho hK)
 |buildSlice t n ps=>simp only[effOp,ho] at hK;exact lit_holds T h ho hK
 |load t x=>simp only[effOp,ho] at hK;exact triv (load_holds T h ho hK)
 |store t x y=>simp only[effOp,ho] at hK;exact triv (store_holds T h ho (dn:=dn) (dn2:=dn2) hK)
 |nilCheck x=>simp only[effOp,ho] at hK;exact triv (nilCheck_holds h ho hK)
 |binOp op t x y t2=>
  simp only[effOp,ho] at hK
  split at hK
  ·rename_i hq
   simp only[Bool.and_eq_true] at hq
   exact triv (nil_holds T h ho hq.2 hK)
  ·exact trivV (binV_holds T h ho hK)
 |unOp op t x=>simp only[effOp,ho] at hK;exact trivV (unV_holds h ho hK)
 |convert t0 t x=>simp only[effOp,ho] at hK;exact triv (convert_holds T h ho hK)
 |makeFunc f first caps=>simp only[effOp,ho] at hK;exact triv (makeFunc_holds h ho hK)
 |makeSlice t x y=>simp only[effOp,ho] at hK;exact make_holds T h ho hK
 |slice t x lo hi mx=>simp only[effOp,ho] at hK;exact triv (slice_holds T h ho hK)
 |fieldAddr t x f=>simp only[effOp,ho] at hK;exact triv (fieldAddr_holds T h ho hK)
 |field t x f=>simp only[effOp,ho] at hK;exact triv (field_holds T h ho hK)
 |indexAddr t x i=>simp only[effOp,ho] at hK;exact triv (indexAddr_holds T h ho hK)
 |index t x i=>simp only[effOp,ho] at hK;exact triv (index_holds T h ho hK)
 |extract x i=>simp only[effOp,ho] at hK;exact triv (extract_holds h ho hK)
 |call c=>
  simp only[effOp,ho] at hK
  split at hK
  ·rename_i hc
   split at hK
   ·rename_i x t h1 h2
    exact triv (len_holds T h ho hc h1 h2 hK)
   ·cases hK
  ·rename_i hc
   split at hK
   ·rename_i x y t t' h1 h2
    split at hK
    ·rename_i e
     subst e
     exact append_holds T h ho hc h1 h2 hK
    ·exact zeros_holds T h ho hc h1 h2 hK
   ·cases hK
  ·rename_i hc
   split at hK
   ·rename_i x t h1 h2
    exact triv (cap_holds T h ho hc h1 h2 hK)
   ·cases hK
  ·rename_i hc
   split at hK
   ·rename_i x t h1 h2
    exact triv (clear_holds T h ho hc h1 h2 hK)
   ·cases hK
  ·rename_i hc
   split at hK
   ·rename_i x y t t' h1 h2
    exact triv (copy_holds T h ho hc h1 h2 hK)
   ·cases hK
  ·rename_i hc
   exact triv (minmax_holds h true ho hc hK)
  ·rename_i hc
   exact triv (minmax_holds h false ho hc hK)
  ·rename_i f hc
   split at hK
   ·rename_i gid cs hf
    split at hK
    ·rename_i hb
     exact call_any_holds hS h ho hc hf (Nat.eq_of_beq_eq_true hb) h12 hK
    ·cases hK
   ·cases hK
  ·cases hK
 |_=>simp only[effOp,ho] at hK;cases hK
end
end Go.Proofs.Ytlipfbihlmlplaa.G
namespace Go.Proofs.Ytlipfbihlmlplaa.G
open Go Go.RowKit
set_option linter.unusedVariables false
set_option linter.unusedSimpArgs false
section
variable {P:Program} {E:Env} {w0:World} {MB:Out} {s:St} {g:Gh} {a:Act} {w:World} {α:Type}
theorem dn_ne{E:Env}(hm:0<E.m)(d:Nat):E.base+d≠E.base+E.m+d:=by omega
theorem stepOp_sound(T:TTok P E)(hS:∀f sig,E.T f=some sig→Sound P f sig)(hm:0<E.m)(h:R E.m w0 MB s g a w){o:Oper}{i:Nat}{K:St→Touch→Option α}{r:α}(hK:stepOp E o i s K=some r):
  ∃e t,K (e.on o.dst s) t=some r∧Holds P E.m w0 MB s g o a w e:=by
 unfold stepOp at hK
 obtain⟨e,h1,h2⟩:=op_holds T hS h (dn_ne hm _) hK
 split at h1
 ·rename_i hn
  exact⟨e,_,h1,h2 hn⟩
 ·cases h1
theorem set_same{β:Type}{l:List β}{n:Nat}{x d:β}(h:l.getD n d=x)(hn:n<l.length):l.set n x=l:=by
 apply List.ext_getElem?
 intro j
 rw[List.getElem?_set]
 split
 ·rename_i e
  subst e
  rw[List.getD_eq_getElem?_getD,List.getElem?_eq_getElem hn] at h
  simp only[Option.getD_some] at h
  rw[List.getElem?_eq_getElem hn,h]
 ·rfl
theorem denOps_sound(T:TTok P E)(hS:∀f sig,E.T f=some sig→Sound P f sig)(hm:0<E.m){ops:Array Oper}{Q:Exit→Act→World→Prop}{K:St→List Touch→Option α}{r:α}
  (hQ:∀s' tr' g' a' w',R E.m w0 MB s' g' a' w'→K s' tr'=some r→Q .normal a' w'):
  ∀(l:List (Nat×Oper)) (s:St) (tr:List Touch) (g:Gh) (a:Act) (w:World),R E.m w0 MB s g a w→denOps E ops.toList l s tr K=some r→wpList P ops Q (l.map (·.2)) a w
 |[],s,tr,g,a,w,h,hd=>hQ s tr g a w h hd
 |(i,o)::l,s,tr,g,a,w,h,hd=>by
  have step:∀{s':St},s'=s→stepOp E o i s' (fun s' t=>denOps E ops.toList l s' (t::tr) K)=some r→o.wp P a w (wpList P ops Q (l.map (·.2))) Q:=by
   intro s' e hs
   subst e
   obtain⟨e,t,h1,h2⟩:=stepOp_sound T hS hm h hs
   exact h2 _ _ (fun v w' ⟨g',hg⟩=>denOps_sound T hS hm hQ l _ _ g' _ _ hg h1)
  have skip:∀{s':St} {tr'},s'=s→denOps E ops.toList l ({ v:=.tup []:Eff }.on o.dst s') tr' K=some r→wpList P ops Q (l.map (·.2)) (a.put o.dst undef) w:=by
   intro s' tr' e hs
   subst e
   exact denOps_sound T hS hm hQ l _ _ g _ _ (h.quiet (.tup []) o.dst undef ⟨[],rfl,All2.nil _⟩) hs
  simp only[List.map_cons]
  unfold wpList
  unfold denOps at hd
  cases hg:o.guard with
  |none=>
   rw[hg] at hd
   have:Region.wanted o (yielded ops a.tmps)=true:=by unfold Region.wanted;rw[hg]
   rw[if_pos this]
   exact .inl (step rfl hd)
  |some jw=>
   obtain⟨j,want⟩:=jw
   rw[hg] at hd
   simp only at hd
   split at hd
   ·rename_i gg b hb
    obtain⟨g1,hg1,hgb⟩:=Option.map_eq_some_iff.1 hb
    simp only[Prod.mk.injEq] at hgb
    obtain⟨rfl,hgb⟩:=hgb
    have hlt:g1<E.m:=by
     rcases Nat.lt_or_ge g1 E.m with q|q
     ·exact q
     ·rw[List.getD_eq_getElem?_getD,List.getElem?_eq_none (by rw[h.sl];exact q)] at hgb
      cases hgb
    have hv:=h.slots g1 hlt
    rw[hgb] at hv
    have hval:a.tmps.getD g1 undef = .bool b:=hv.2.2
    have hy:yielded ops a.tmps j=some b:=by
     unfold yielded
     have e1:(ops[j]?).bind (·.dst)=some g1:=by rw[←hg1];simp
     rw[e1]
     have hlt2:g1<a.tmps.size:=by rw[h.tm];exact hlt
     have:a.tmps[g1]? = some (.bool b):=by
      rw[Array.getElem?_eq_getElem hlt2]
      rw[←hval]
      simp[Array.getD,hlt2]
     simp[this]
    have hset:{ s with slots:=s.slots.set g1 (.val .bool b) }=s:=by
     rw[set_same hgb (by rw[h.sl];exact hlt)]
    have hw:Region.wanted o (yielded ops a.tmps)=(b==want):=by
     unfold Region.wanted
     rw[hg]
     simp only[hy]
     cases b<;>cases want<;>rfl
    rw[hw]
    cases b with
    |true=>
     simp only[cond] at hd
     cases want with
     |true=>exact .inl (step hset hd)
     |false=>exact skip hset hd
    |false=>
     simp only[cond] at hd
     cases want with
     |true=>exact skip hset hd
     |false=>exact .inl (step hset hd)
   ·rename_i gg hb
    obtain⟨g1,hg1,hgb⟩:=Option.map_eq_some_iff.1 hb
    simp only[Prod.mk.injEq] at hgb
    obtain⟨rfl,hgb⟩:=hgb
    have hlt:g1<E.m:=by
     rcases Nat.lt_or_ge g1 E.m with q|q
     ·exact q
     ·rw[List.getD_eq_getElem?_getD,List.getElem?_eq_none (by rw[h.sl];exact q)] at hgb
      cases hgb
    have hv:=h.slots g1 hlt
    rw[hgb] at hv
    obtain⟨vs,hval,hvs⟩:=hv
    obtain rfl:=hvs.nil_left
    have hy:yielded ops a.tmps j=none:=by
     unfold yielded
     have e1:(ops[j]?).bind (·.dst)=some g1:=by rw[←hg1];simp
     rw[e1]
     have hlt2:g1<a.tmps.size:=by rw[h.tm];exact hlt
     have:a.tmps[g1]? = some (.tuple #[]):=by
      rw[Array.getElem?_eq_getElem hlt2]
      rw[←hval]
      simp[Array.getD,hlt2]
     simp[this]
    have hw:Region.wanted o (yielded ops a.tmps)=false:=by
     unfold Region.wanted
     rw[hg]
     simp only[hy]
     rfl
    rw[hw]
    exact skip rfl hd
   ·cases hd
end
end Go.Proofs.Ytlipfbihlmlplaa.G
namespace Go.Proofs.Ytlipfbihlmlplaa.G
open Go Go.RowKit
set_option linter.unusedVariables false
set_option linter.unusedSimpArgs false
theorem seenIn_mono(base:Nat)(acc:List Nat)(n:Nat):(∀k,k∈acc→k∈seenIn base acc n)∧(n<base∨n∈seenIn base acc n)∧(acc.Nodup→(seenIn base acc n).Nodup)∧((∀k,k∈acc→base≤k)→∀k,k∈seenIn base acc n→base≤k):=by
 unfold seenIn
 split
 ·rename_i h
  refine⟨fun k hk=>hk,?_,id,fun h=>h⟩
  rcases h with h|h
  ·exact .inl h
  ·exact .inr (by simpa using h)
 ·rename_i h
  simp only[not_or,Nat.not_lt,Bool.not_eq_true,List.contains_eq_mem,decide_eq_false_iff_not] at h
  refine⟨fun k hk=>List.mem_append_left _ hk,.inr (by simp),fun nd=>?_,fun hb k hk=>?_⟩
  ·rw[List.nodup_append]
   exact⟨nd,by simp,fun a ha b hb e=>h.2 (by simp at hb;rw[←hb,←e];exact ha)⟩
  ·rcases List.mem_append.1 hk with hk|hk
   ·exact hb k hk
   ·obtain rfl:=List.mem_singleton.1 hk
    exact h.1
theorem seen_fold(base:Nat):∀(l acc:List Nat),(∀k,k∈acc→k∈l.foldl (seenIn base) acc)∧(∀n,n∈l→n<base∨n∈l.foldl (seenIn base) acc)∧(acc.Nodup→(l.foldl (seenIn base) acc).Nodup)∧((∀k,k∈acc→base≤k)→∀k,k∈l.foldl (seenIn base) acc→base≤k)
 |[],acc=>⟨fun k hk=>hk,(fun n hn=>by cases hn),id,fun h=>h⟩
 |x::l,acc=>by
  obtain⟨a1,a2,a3,a4⟩:=seenIn_mono base acc x
  obtain⟨b1,b2,b3,b4⟩:=seen_fold base l (seenIn base acc x)
  refine⟨fun k hk=>b1 k (a1 k hk),fun n hn=>?_,fun h=>b3 (a3 h),fun h=>b4 (a4 h)⟩
  rcases List.mem_cons.1 hn with rfl|hn
  ·exact a2.imp id (b1 n)
  ·exact b2 n hn
theorem kept_spec(base:Nat)(objs:List (Option Ob))(slots:List SV):∀(live acc:List Nat),acc.Nodup→(∀k,k∈acc→base≤k) →
  (∀k,k∈acc→k∈keptNames base objs slots live acc)∧(keptNames base objs slots live acc).Nodup∧(∀k,k∈keptNames base objs slots live acc→base≤k)∧∀i,i∈live→∀n,n∈namesOf objs (slots.getD i .dead)→n<base∨n∈keptNames base objs slots live acc
 |[],acc,nd,hb=>⟨fun k hk=>hk,nd,hb,fun i hi=>by cases hi⟩
 |i::live,acc,nd,hb=>by
  obtain⟨b1,b2,b3,b4⟩:=seen_fold base (namesOf objs (slots.getD i .dead)) acc
  obtain⟨c1,c2,c3,c4⟩:=kept_spec base objs slots live _ (b3 nd) (b4 hb)
  refine⟨fun k hk=>c1 k (b1 k hk),c2,c3,fun j hj n hn=>?_⟩
  rcases List.mem_cons.1 hj with rfl|hj
  ·exact (b2 n hn).imp id (c1 n)
  ·exact c4 j hj n hn
section
variable {P:Program} {E:Env} {w0:World} {MB:Out} {s:St} {g:Gh} {a:Act} {w:World} {α:Type}
theorem canon_sound(h:R E.m w0 MB s g a w)(hpin:∀q,q∈MB.pins→q.n<E.base){live:List Nat}{K:St→Option α}{r:α}(hK:canon E live s K=some r):∃s' g',R E.m w0 MB s' g' a w∧K s'=some r:=by
 unfold canon at hK
 simp only at hK
 split at hK
 ·rename_i hc
  simp only[Bool.and_eq_true] at hc
  obtain⟨_,hb1,hb2⟩:=hc
  obtain⟨_,nd,kge,knm⟩:=kept_spec E.base s.objs s.slots live [] List.nodup_nil (fun k hk=>by cases hk)
  generalize hks:keptNames E.base s.objs s.slots live []=ks at *
  let keep:Nat→Prop:=fun n=>n<E.base∨n∈ks
  let f:=ren E.base (E.base+2*E.m) ks
  let back:Nat→Nat:=fun n=>if n<E.base then n else ks.getD (n-(E.base+2*E.m)) 0
  have fb:∀n,keep n→back (f n)=n:=fun n hn=>by
   simp only[back,f,ren]
   rcases hn with q|q
   ·rw[if_pos q,if_pos q]
   ·have:=kge n q
    rw[if_neg (show ¬n<E.base by omega),if_neg (by omega),show E.base+2*E.m+ks.idxOf n-(E.base+2*E.m)=ks.idxOf n by omega,List.getD_eq_getElem?_getD,List.getElem?_eq_getElem (List.idxOf_lt_length_of_mem q),List.getElem_idxOf]
    rfl
  have inj:∀n n',keep n→keep n'→f n=f n'→n=n':=fun n n' h1 h2 e=>by rw[←fb n h1,←fb n' h2,e]
  refine⟨_,⟨fun n=>g.G (back n),fun n=>g.B (back n)⟩,?_,hK⟩
  generalize hO:(List.range E.base).map (fun n=>(obAt s.objs n).map (renOb (ren E.base (E.base+2*E.m) ks)))++(List.replicate (2*E.m) none++(ks.map fun n=>(obAt s.objs n).map (renOb (ren E.base (E.base+2*E.m) ks))))=O
  have atF:∀n,keep n→obAt O (f n)=(obAt s.objs n).map (renOb f):=fun n hn=>by
   rw[←hO]
   unfold obAt
   simp only[f,ren]
   rcases hn with q|q
   ·rw[if_pos q,List.getD_eq_getElem?_getD,List.getElem?_append_left (by simpa using q),List.getElem?_map,List.getElem?_range q]
    rfl
   ·have:=kge n q
    have hi:=List.idxOf_lt_length_of_mem q
    rw[if_neg (by omega),List.getD_eq_getElem?_getD,List.getElem?_append_right (by simp;omega),List.getElem?_append_right (by simp;omega)]
    simp only[List.length_map,List.length_range,List.length_replicate]
    rw[show E.base+2*E.m+ks.idxOf n-E.base-2*E.m=ks.idxOf n by omega,List.getElem?_map,List.getElem?_eq_getElem hi,List.getElem_idxOf]
    rfl
  have atB:∀k x,obAt O k=some x→∃n y,keep n∧k=f n∧obAt s.objs n=some y∧x=renOb f y:=fun k x hx=>by
   have hk0:=hx
   rw[←hO] at hx
   unfold obAt at hx
   rw[List.getD_eq_getElem?_getD] at hx
   rcases Nat.lt_or_ge k E.base with q|q
   ·have hf:f k=k:=by simp only[f,ren];rw[if_pos q]
    have:=atF k (.inl q)
    rw[hf,hk0] at this
    cases hy:obAt s.objs k with
    |none=>rw[hy] at this;cases this
    |some y=>
     rw[hy] at this
     exact⟨k,y,.inl q,hf.symm,hy,Option.some.inj this⟩
   ·rw[List.getElem?_append_right (by simpa using q)] at hx
    simp only[List.length_map,List.length_range] at hx
    rcases Nat.lt_or_ge (k-E.base) (2*E.m) with q2|q2
    ·rw[List.getElem?_append_left (by simpa using q2),List.getElem?_replicate,if_pos q2] at hx
     cases hx
    ·rw[List.getElem?_append_right (by simpa using q2)] at hx
     simp only[List.length_replicate] at hx
     rw[List.getElem?_map] at hx
     cases hj:ks[k-E.base-2*E.m]? with
     |none=>rw[hj] at hx;cases hx
     |some n=>
      rw[hj] at hx
      have hn:n∈ks:=List.mem_of_getElem? hj
      have hj2:=List.getElem?_eq_some_iff.1 hj
      have hidx:ks.idxOf n=k-E.base-2*E.m:=by rw[←hj2.2];exact nd.idxOf_getElem _ hj2.1
      have hkf:k=f n:=by
       simp only[f,ren]
       have:=kge n hn
       rw[if_neg (by omega),hidx]
       omega
      have:=atF n (.inr hn)
      rw[←hkf,hk0] at this
      cases hy:obAt s.objs n with
      |none=>rw[hy] at this;cases this
      |some y=>
       rw[hy] at this
       exact⟨n,y,.inr hn,hkf,hy,Option.some.inj this⟩
  have datF:∀n d,keep n→datAt s.objs n=some d→datAt O (f n)=some d:=fun n d hn hd=>by
   rw[←datAt_ob,atF n hn,datAt_ob.2 hd];rfl
  have datB:∀k d,datAt O k=some d→∃n,keep n∧k=f n∧datAt s.objs n=some d:=fun k d hd=>by
   obtain⟨n,y,h1,h2,h3,h4⟩:=atB k _ (datAt_ob.2 hd)
   cases y with
   |dat d'=>
    simp only[renOb,Ob.dat.injEq] at h4
    subst h4
    exact⟨n,h1,h2,datAt_ob.1 h3⟩
   |bx _ _ _=>cases h4
  have bxKeep:∀n e k wn,keep n→obAt s.objs n=some (.bx e k wn)→keep k:=fun n e k wn hn hb=>by
   have:bxOk E.base ks s.objs n=true:=by
    rcases hn with q|q
    ·exact List.all_eq_true.1 hb1 n (List.mem_range.2 q)
    ·exact List.all_eq_true.1 hb2 n q
   unfold bxOk at this
   rw[hb] at this
   simpa[keep] using this
  have blkF:∀n x,keep n→blksO ⟨fun n=>g.G (back n),fun n=>g.B (back n)⟩ (f n) (renOb f x)=blksO g n x:=fun n x hn=>by
   cases x with
   |dat d=>show blksD _ _ _=blksD g n d;unfold blksD;simp only[fb n hn]
   |bx e k wn=>show [(g.B (back (f n))).1]=[(g.B n).1];rw[fb n hn]
  have slF:∀{n p wn v},keep n→SlRel s.objs g n p wn v→SlRel O ⟨fun n=>g.G (back n),fun n=>g.B (back n)⟩ (f n) p wn v:=by
   rintro n p wn v hn ⟨d,Q,sz,hd',tot,g1,g2,g3,g4,g5⟩
   exact⟨d,Q,sz,hd',tot,datF n d hn g1,g2,by unfold rootPL;simp only[fb n hn];exact g3,g4,g5⟩
  have ptrF:∀{n p c v},keep n→PtrRel s.objs g n p c v→PtrRel O ⟨fun n=>g.G (back n),fun n=>g.B (back n)⟩ (f n) p c v:=by
   rintro n p c v hn (⟨d,Q,g1,g2,g3,g4,g5⟩|⟨e,q,wn,g1,g2,g3⟩)
   ·exact .inl ⟨d,Q,datF n d hn g1,by unfold rootPL;simp only[fb n hn];exact g2,g3,g4,g5⟩
   ·exact .inr ⟨e,f q,wn,by rw[atF n hn,g1];rfl,g2,by simp only[fb n hn];exact g3⟩
  have svF:∀{sv v},(∀n,n∈namesOf s.objs sv→keep n)→SRel s.objs g sv v→SRel O ⟨fun n=>g.G (back n),fun n=>g.B (back n)⟩ (renSV f sv) v:=by
   intro sv v hn hr
   cases sv with
   |val t x=>exact hr
   |sl n p wn=>exact slF (hn n (by simp[namesOf])) hr
   |ptr n p c=>
    refine ptrF (hn n ?_) hr
    unfold namesOf
    simp only
    split<;>simp
   |fn fi cs=>
    obtain⟨vs,e1,e2,e3⟩:=hr
    refine⟨vs,e1,by simpa using e2,fun i c u hc hu=>?_⟩
    rw[List.getElem?_map] at hc
    cases hq:cs[i]? with
    |none=>rw[hq] at hc;cases hc
    |some c0=>
     rw[hq] at hc
     obtain rfl:=Option.some.inj hc
     refine ptrF (hn c0.1 ?_) (e3 i c0 u hq hu)
     refine List.mem_flatMap.2 ⟨c0,List.mem_of_getElem? hq,?_⟩
     split<;>simp
   |tup l=>
    obtain⟨vs,e1,e2,e3⟩:=hr
    refine⟨vs,e1,by simpa using e2,fun i t u ht hu=>?_⟩
    rw[List.getElem?_map] at ht
    cases hq:l[i]? with
    |none=>rw[hq] at ht;cases ht
    |some t0=>
     rw[hq] at ht
     obtain rfl:=Option.some.inj ht
     have:=e3 i t0 u hq hu
     cases t0 with
     |val _ _=>exact this
     |sl n p wn=>exact slF (hn n (List.mem_flatMap.2 ⟨_,List.mem_of_getElem? hq,by simp⟩)) this
     |nil=>exact this
   |nil=>exact hr
   |unk=>exact hr
   |dead=>trivial
  constructor
  ·exact h.defers
  ·simp
  ·exact h.tm
  ·intro t ht
   rw[List.getD_eq_getElem?_getD,List.getElem?_map,List.getElem?_range ht]
   simp only[Option.map_some,Option.getD_some]
   split
   ·rename_i hl
    exact svF (fun n hn=>knm t (by simpa using hl) n hn) (h.slots t ht)
   ·trivial
  ·intro k d hk
   obtain⟨n,h1,rfl,h3⟩:=datB k d hk
   simp only[fb n h1]
   exact h.dat n d h3
  ·intro k e k2 wn hk
   obtain⟨n,y,h1,rfl,h3,h4⟩:=atB k _ hk
   cases y with
   |dat _=>cases h4
   |bx e0 k0 w0'=>
    simp only[renOb,Ob.bx.injEq] at h4
    obtain⟨rfl,rfl,rfl⟩:=h4
    obtain⟨d,v,q1,q2,q3,q4⟩:=h.bx n _ _ _ h3
    have hk0:=bxKeep n _ _ _ h1 h3
    exact⟨d,v,datF _ d hk0 q1,q2,by simp only[fb n h1];exact q3,slF hk0 q4⟩
  ·intro k d hk hw
   obtain⟨n,h1,rfl,h3⟩:=datB k d hk
   obtain⟨s1,s2⟩:=h.sep n d h3 hw
   have e1:blksD ⟨fun n=>g.G (back n),fun n=>g.B (back n)⟩ (f n) d=blksD g n d:=blkF n (.dat d) h1
   rw[e1]
   refine⟨s1,fun k' x hne hx b hb1 hb2=>?_⟩
   obtain⟨n',y,j1,rfl,j3,rfl⟩:=atB k' x hx
   rw[blkF n' y j1] at hb2
   exact s2 n' y (fun e=>hne (by rw[e])) j3 b hb1 hb2
  ·intro k d hk hw b hb
   obtain⟨n,h1,rfl,h3⟩:=datB k d hk
   have e1:blksD ⟨fun n=>g.G (back n),fun n=>g.B (back n)⟩ (f n) d=blksD g n d:=blkF n (.dat d) h1
   rw[e1] at hb
   exact h.fresh n d h3 hw b hb
  ·exact h.frame
  ·intro q hq
   obtain⟨d,q1,q2,q3,q4,q5,q6,q7⟩:=h.pins q hq
   have hlt:=hpin q hq
   have hf:f q.n=q.n:=by simp only[f,ren];rw[if_pos hlt]
   refine⟨d,by rw[←hf];exact datF q.n d (.inl hlt) q1,q2,q3,q4,q5,q6,?_⟩
   have:back q.n=q.n:=by rw[←hf,fb q.n (.inl hlt),hf]
   simp only[this]
   exact q7
  ·exact h.go
 ·cases hK
end
end Go.Proofs.Ytlipfbihlmlplaa.G
namespace Go.Proofs.Ytlipfbihlmlplaa.G
open Go Go.RowKit
set_option linter.unusedVariables false
set_option linter.unusedSimpArgs false
def exitOf:Ex→Exit
 |.normal=>.normal|.exit id=>.exit id|.ret=>.ret
def DrawSound(P:Program)(E:Env)(w0:World)(MB:Out)(α:Type):Prop:=
 ∀(id:Nat) (ops:Array Oper) (s:St) (g:Gh) (a:Act) (w:World) (Q:Exit→Act→World→Prop) (K:St→Option α) (r:α),R E.m w0 MB s g a w →
  denOps E ops.toList ((List.range ops.size).zip ops.toList) s [] (fun s' tr=>match drawOk ops.toList tr with|true=>K s'|false=>none)=some r →
  (∀s' g' a' w',R E.m w0 MB s' g' a' w'→K s'=some r→Q .normal a' w')→(Code.region id ops true).wp P Q a w
section
variable {P:Program} {E:Env} {w0:World} {MB:Out} {α:Type}
theorem cut_sound{s:St}{g:Gh}{a:Act}{w:World}(h:R E.m w0 MB s g a w)(hpin:∀q,q∈MB.pins→q.n<E.base){n:Ann}{K:St→Option α}{r:α}(hK:cutK E n s K=some r):∃s' g',R E.m w0 MB s' g' a w∧K s'=some r:=by
 unfold cutK at hK
 split at hK
 ·exact canon_sound h hpin hK
 ·exact⟨s,g,h,hK⟩
theorem den_sound(T:TTok P E)(hS:∀f sig,E.T f=some sig→Sound P f sig)(hm:0<E.m)(hpin:∀q,q∈MB.pins→q.n<E.base)(hD:DrawSound P E w0 MB α)(fuel:Nat):
  ∀(c:Code) (ann:Ann) (s:St) (g:Gh) (a:Act) (w:World) (Q:Exit→Act→World→Prop) (K:Ex→St→Option α) (r:α),R E.m w0 MB s g a w→den E fuel c ann s K=some r →
   (∀ex s' g' a' w',R E.m w0 MB s' g' a' w'→K ex s'=some r→Q (exitOf ex) a' w')→c.wp P Q a w
 |.skip,ann,s,g,a,w,Q,K,r,h,hd,hQ=>wp_skip (hQ .normal s g a w h hd)
 |.region id ops draw,ann,s,g,a,w,Q,K,r,h,hd,hQ=>by
  unfold den at hd
  cases draw with
  |false=>
   refine wp_region_list ?_
   have:=denOps_sound T hS hm (ops:=ops) (Q:=Q) (fun s' tr' g' a' w' hR hK=>hQ .normal s' g' a' w' hR hK) ((List.range ops.size).zip ops.toList) s [] g a w h hd
   rwa[List.map_snd_zip (by simp)] at this
  |true=>exact hD id ops s g a w Q (fun s'=>K .normal s') r h hd (fun s' g' a' w' hR hK=>hQ .normal s' g' a' w' hR hK)
 |.seq x y,ann,s,g,a,w,Q,K,r,h,hd,hQ=>by
  unfold den at hd
  refine wp_seq (den_sound T hS hm hpin hD fuel x ann.l s g a w _ _ r h hd (fun ex s' g' a' w' hR hK=>?_))
  cases ex with
  |normal=>
   obtain⟨s2,g2,hR2,hK2⟩:=cut_sound hR hpin hK
   exact den_sound T hS hm hpin hD fuel y ann.r s2 g2 a' w' Q K r hR2 hK2 hQ
  |exit id=>exact hQ (.exit id) s' g' a' w' hR hK
  |ret=>exact hQ .ret s' g' a' w' hR hK
 |.cond c x y,ann,s,g,a,w,Q,K,r,h,hd,hQ=>by
  unfold den at hd
  have hc:=h.eval c
  cases hv:isTrueV (evalO s.slots c) with
  |none=>
   rw[hv] at hd
   simp only at hd
   split at hd
   ·rename_i hu
    obtain⟨h1,h2⟩:=both_some hd
    obtain⟨b,hb⟩:∃b,a.eval c = .bool b:=by
     cases hq:evalO s.slots c with
     |unk=>rw[hq] at hc;exact hc
     |_=>rw[hq] at hu;cases hu
    refine wp_cond hb ?_
    cases b with
    |true=>exact den_sound T hS hm hpin hD fuel x ann.l s g a w Q K r h h1 hQ
    |false=>exact den_sound T hS hm hpin hD fuel y ann.r s g a w Q K r h h2 hQ
   ·cases hd
  |some b=>
   rw[hv] at hd
   have hb:a.eval c = .bool b:=by
    unfold isTrueV at hv
    split at hv
    ·rename_i b' e
     obtain rfl:=Option.some.inj hv
     rw[e] at hc
     exact hc.2.2
    ·cases hv
   refine wp_cond hb ?_
   cases b with
   |true=>exact den_sound T hS hm hpin hD fuel x ann.l s g a w Q K r h hd hQ
   |false=>exact den_sound T hS hm hpin hD fuel y ann.r s g a w Q K r h hd hQ
 |.block id b,ann,s,g,a,w,Q,K,r,h,hd,hQ=>by
  unfold den at hd
  refine wp_block (den_sound T hS hm hpin hD fuel b ann.l s g a w _ _ r h hd (fun ex s' g' a' w' hR hK=>?_))
  cases ex with
  |normal=>exact hQ .normal s' g' a' w' hR hK
  |exit id'=>
   simp only[blockK] at hK
   show (if id'=id then Q .normal a' w' else Q (.exit id') a' w')
   cases hq:Nat.beq id' id with
   |true=>
    rw[hq] at hK
    rw[if_pos (Nat.eq_of_beq_eq_true hq)]
    exact hQ .normal s' g' a' w' hR hK
   |false=>
    rw[hq] at hK
    rw[if_neg (fun e=>by rw[e] at hq;simp[Nat.beq_refl] at hq)]
    exact hQ (.exit id') s' g' a' w' hR hK
  |ret=>exact hQ .ret s' g' a' w' hR hK
 |.loop b,ann,s,g,a,w,Q,K,r,h,hd,hQ=>by
  unfold den at hd
  obtain⟨s1,g1,hR1,hd1⟩:=canon_sound h hpin hd
  refine wp_loop_rounds fuel ?_
  have key:∀k s g a w,R E.m w0 MB s g a w→loopN (fun rec s'=>den E fuel b ann.l s' (loopK E ann.live rec K)) k s=some r→Code.rounds P b Q k a w:=by
   intro k
   induction k with
   |zero=>intro s g a w _ hl;cases hl
   |succ k ih=>
    intro s g a w hR hl
    refine den_sound T hS hm hpin hD fuel b ann.l s g a w _ _ r hR hl (fun ex s' g' a' w' hR' hK=>?_)
    cases ex with
    |normal=>
     obtain⟨s2,g2,hR2,hd2⟩:=canon_sound hR' hpin hK
     exact ih s2 g2 a' w' hR2 hd2
    |exit id=>exact hQ (.exit id) s' g' a' w' hR' hK
    |ret=>exact hQ .ret s' g' a' w' hR' hK
  exact key fuel s1 g1 a w hR1 hd1
 |.exit id,ann,s,g,a,w,Q,K,r,h,hd,hQ=>wp_exit (hQ (.exit id) s g a w h hd)
 |.ret,ann,s,g,a,w,Q,K,r,h,hd,hQ=>wp_ret (hQ .ret s g a w h hd)
 |.rangeFunc _ _ _ _,_,_,_,_,_,_,_,_,_,hd,_=>by unfold den at hd;cases hd
 |.label _,_,_,_,_,_,_,_,_,_,hd,_=>by unfold den at hd;cases hd
 |.goto _,_,_,_,_,_,_,_,_,_,hd,_=>by unfold den at hd;cases hd
 |.scope _,_,_,_,_,_,_,_,_,_,hd,_=>by unfold den at hd;cases hd
end
end Go.Proofs.Ytlipfbihlmlplaa.G
namespace Go.Proofs.Ytlipfbihlmlplaa.G
open Go Go.RowKit
set_option linter.unusedVariables false
set_option linter.unusedSimpArgs false
section
variable {P:Program} {E:Env} {m:Nat} {w0:World} {MB:Out} {s:St} {g:Gh} {a:Act} {w:World} {α:Type}
theorem resVar_ok(T:TTok P E)(h:R m w0 MB s g a w)(rv:ResultVar)(hne:resVar E.TT s.slots s.objs rv≠.dead):
  ∃v,(match rv with|.tmp t=>pure (a.tmps.getD t undef)|.cell x t=>do loadVar t (←asAddr (a.tmps.getD x undef)):Sem Value).run P w = .ok v w∧SRel s.objs g (resVar E.TT s.slots s.objs rv) v:=by
 have slot:∀t,s.slots.getD t .dead≠.dead→t<m:=fun t ht=>by
  rcases Nat.lt_or_ge t m with q|q
  ·exact q
  ·exact absurd (by rw[List.getD_eq_getElem?_getD,List.getElem?_eq_none (by rw[h.sl];exact q)];rfl) ht
 cases rv with
 |tmp t=>exact⟨_,rfl,h.slots t (slot t hne)⟩
 |cell x t=>
  simp only[resVar] at hne ⊢
  split at hne
  ·rename_i n p c hx
   have hlt:=slot x (by rw[hx];simp)
   have hr:=h.slots x hlt
   rw[hx] at hr
   split at hne
   ·rename_i d0 hob
    split at hne
    ·rename_i u y u' hz ht
     split at hne
     ·rename_i e
      subst e
      split at hne
      ·rename_i hf
       rcases hr with⟨d,Q,h1,h2,h3,h4,h5⟩|⟨e,k,wn,h1,_⟩
       ·obtain⟨hze,hh⟩:=place_of h1 h2 hz
        obtain⟨r1,m1⟩:=root_read h h1 hh h3 h2
        obtain⟨uq,yq,lq,bq,oq⟩:=Q
        simp only at hze r1 m1 h4
        cases hze
        rw[cells_enc hf] at r1
        refine⟨toV u y,?_,(by show SRel s.objs g (if u=u then _ else _) _;rw[if_pos rfl];exact⟨hf,ok_of_memH _ hf _ _ _ m1,rfl⟩)⟩
        rw[h4]
        have:=run_loadAt (P:=P) T ht (cells_length _ _ _) r1
        simp only[Instr.loadAt,Instr.sureAddr,Sem.run_bind,Sem.run_pure,Result.andThen_ok] at this
        simp only[asAddr,Sem.run_bind,Sem.run_pure,Result.andThen_ok,this]
        rfl
       ·rw[hob] at h1;cases h1
      ·exact absurd rfl hne
     ·exact absurd rfl hne
    ·exact absurd rfl hne
   ·exact absurd rfl hne
  ·exact absurd rfl hne
theorem outs_live{base:Nat}{objs:List (Option Ob)}{names:List (Option Nat)}:∀(xs:List SV) (ks:List Nat) (l:List RV),outsOf base objs names xs ks=some l→∀x,x∈xs→x≠.dead
 |[],_,_,_,x,hx=>by cases hx
 |y::xs,ks,l,h,x,hx=>by
  unfold outsOf at h
  split at h
  ·rename_i v k ho
   split at h
   ·split at h
    ·rename_i l' hr
     rcases List.mem_cons.1 hx with rfl|hx
     ·intro e
      subst e
      cases ho
     ·exact outs_live xs _ _ hr x hx
    ·cases h
   ·cases h
  ·cases h
theorem results_run(T:TTok P E)(h:R m w0 MB s g a w):∀(l:List ResultVar),(∀x,x∈l.map (resVar E.TT s.slots s.objs)→x≠.dead) →
  ∃vs,(l.mapM fun (rv:ResultVar)=>(match rv with|.tmp t=>pure (a.tmps.getD t undef)|.cell x t=>do loadVar t (←asAddr (a.tmps.getD x undef)):Sem Value)).run P w = .ok vs w∧All2 (SRel s.objs g) (l.map (resVar E.TT s.slots s.objs)) vs
 |[],_=>⟨[],by simp,All2.nil _⟩
 |rv::l,hne=>by
  obtain⟨v,h1,h2⟩:=resVar_ok T h rv (hne _ (by simp))
  obtain⟨vs,h3,h4⟩:=results_run T h l (fun x hx=>hne x (by simp only[List.map_cons];exact List.mem_cons_of_mem _ hx))
  refine⟨v::vs,?_,All2.cons_iff.2 ⟨h2,h4⟩⟩
  rw[List.mapM_cons]
  simp only[Sem.run_bind,h1,Result.andThen_ok,h3,Sem.run_pure]
theorem obAt_snoc(objs:List (Option Ob))(x:Option Ob)(k:Nat):obAt (objs++[x]) k=if k=objs.length then x else obAt objs k:=by
 unfold obAt
 rw[List.getD_eq_getElem?_getD,List.getD_eq_getElem?_getD]
 rcases Nat.lt_trichotomy k objs.length with h|h|h
 ·rw[List.getElem?_append_left h,if_neg (by omega)]
 ·subst h
  simp
 ·rw[if_neg (by omega),List.getElem?_eq_none (by simp;omega),List.getElem?_eq_none (by omega)]
theorem R.unnil1{slots:List SV}{objs:List (Option Ob)}(h:R m w0 MB ⟨slots,objs⟩ g a w){t:Nat}(ht:slots[t]? = some .nil)(e:TypeId)(u:Ty):
  R m w0 MB ⟨slots.set t (.sl objs.length [] none),objs++[some (.dat ⟨e,u,[],true,true,none⟩)]⟩ (g.put objs.length u (⟨none,0⟩,fun _=>u.dloc)) a w:=by
 have hob:=obAt_snoc objs (some (.dat ⟨e,u,[],true,true,none⟩))
 have hlt:∀k x,obAt objs k=some x→k≠objs.length:=fun k x hx=>Nat.ne_of_lt (obAt_lt hx)
 have hG0:∀k,k≠objs.length→(g.put objs.length u (⟨none,0⟩,fun _=>u.dloc)).G k=g.G k:=fun k hk=>Gh.put_ne g _ _ hk
 have hold:∀k x,obAt (objs++[some (.dat ⟨e,u,[],true,true,none⟩)]) k=some x→(k=objs.length∧x = .dat ⟨e,u,[],true,true,none⟩)∨(k≠objs.length∧obAt objs k=some x):=fun k x hx=>by
  rw[hob k] at hx
  split at hx
  ·rename_i q;exact .inl ⟨q,(Option.some.inj hx).symm⟩
  ·rename_i q;exact .inr ⟨q,hx⟩
 have hkeep:∀k x,obAt objs k=some x→obAt (objs++[some (.dat ⟨e,u,[],true,true,none⟩)]) k=some x:=fun k x hx=>by rw[hob k,if_neg (hlt k x hx)];exact hx
 have hdk:∀k d,datAt objs k=some d→datAt (objs++[some (.dat ⟨e,u,[],true,true,none⟩)]) k=some d:=fun k d hd=>datAt_ob.1 (hkeep k _ (datAt_ob.2 hd))
 have hrel:∀{sv v},SRel objs g sv v→SRel (objs++[some (.dat ⟨e,u,[],true,true,none⟩)]) (g.put objs.length u (⟨none,0⟩,fun _=>u.dloc)) sv v:=fun hr=>
  SRel.keepAll (objs:=objs) (g:=g) (g':=g.put objs.length u (⟨none,0⟩,fun _=>u.dloc)) (fun k e0 q wn hk=>⟨hkeep k _ hk,rfl⟩) (fun k d0 hk=>⟨d0,hdk k d0 hk,rfl,fun q=>q,fun p P hP=>⟨P,by unfold rootPL;rw[hG0 k (hlt k _ (datAt_ob.2 hk))];exact hP,.refl _,fun z=>z⟩⟩) hr
 have bD:blksD (g.put objs.length u (⟨none,0⟩,fun _=>u.dloc)) objs.length ⟨e,u,[],true,true,none⟩=[]:=by unfold blksD;rw[Gh.put_same];simp[blks,lent,hdrBlk]
 have bR:∀k x,k≠objs.length→blksO (g.put objs.length u (⟨none,0⟩,fun _=>u.dloc)) k x=blksO g k x:=fun k x hk=>blksO_put_ne g _ _ hk x
 have hdnew:datAt (objs++[some (.dat ⟨e,u,[],true,true,none⟩)]) objs.length=some ⟨e,u,[],true,true,none⟩:=datAt_ob.1 (by rw[hob,if_pos rfl])
 have htl:t<slots.length:=(List.getElem?_eq_some_iff.1 ht).1
 refine⟨h.defers,by simpa using h.sl,h.tm,fun t' ht'=>?_,fun k d0 hk=>?_,fun k e0 q wn hk=>?_,fun k d0 hk hw=>?_,fun k d0 hk hw b hb=>?_,h.frame,fun q hq=>?_,h.go⟩
 ·have h0:=h.slots t' ht'
  by_cases hc:t'=t
  ·subst hc
   rw[List.getD_eq_getElem?_getD,List.getElem?_set_self htl]
   rw[List.getD_eq_getElem?_getD,ht] at h0
   simp only[Option.getD_some] at h0 ⊢
   refine⟨⟨e,u,[],true,true,none⟩,_,_,_,_,hdnew,fun _=>rfl,getPL_nil _ _ _ _ _,rfl,none,0,h0,by simp[Win.off,Win.lenN],Nat.le_refl _,fun q=>by simp[Win.lenN] at q,fun _=>⟨by simp[Win.off],fun q=>absurd q (Nat.lt_irrefl 0)⟩⟩
  ·rw[List.getD_eq_getElem?_getD,List.getElem?_set_ne (Ne.symm hc),←List.getD_eq_getElem?_getD]
   exact hrel h0
 ·rcases hold k _ (datAt_ob.2 hk) with⟨rfl,q⟩|⟨q1,q2⟩
  ·cases q
   rw[Gh.put_same]
   exact .inr ⟨⟨Nat.le_refl 0,fun q=>absurd q (Nat.lt_irrefl 0),fun _ q=>absurd q (Nat.lt_irrefl 0)⟩,fun i hi=>absurd hi (Nat.not_lt_zero i)⟩
  ·rw[hG0 k q1]
   exact h.dat k d0 (datAt_ob.1 q2)
 ·rcases hold k _ hk with⟨rfl,q⟩|⟨q1,q2⟩
  ·cases q
  ·obtain⟨d1,v,k1,k2,k3,k4⟩:=h.bx k e0 q wn q2
   exact⟨d1,v,hdk _ _ k1,k2,k3,SlRel.keep k4 (fun d2 hd2=>⟨hdk _ _ hd2,hG0 _ (hlt _ _ (datAt_ob.2 hd2))⟩)⟩
 ·rcases hold k _ (datAt_ob.2 hk) with⟨rfl,q⟩|⟨q1,q2⟩
  ·cases q
   rw[bD]
   exact⟨List.nodup_nil,fun _ _ _ _ b hb=>by cases hb⟩
  ·have eb:blksD (g.put objs.length u (⟨none,0⟩,fun _=>u.dloc)) k d0=blksD g k d0:=bR k (.dat d0) q1
   rw[eb]
   obtain⟨t1,t2⟩:=h.sep k d0 (datAt_ob.1 q2) hw
   refine⟨t1,fun n' x hne hx b hb1 hb2=>?_⟩
   rcases hold n' x hx with⟨rfl,q⟩|⟨j1,j2⟩
   ·cases q
    replace hb2:b∈blksD (g.put objs.length u (⟨none,0⟩,fun _=>u.dloc)) objs.length ⟨e,u,[],true,true,none⟩:=hb2
    rw[bD] at hb2
    cases hb2
   ·rw[bR n' x j1] at hb2
    exact t2 n' x hne j2 b hb1 hb2
 ·rcases hold k _ (datAt_ob.2 hk) with⟨rfl,q⟩|⟨q1,q2⟩
  ·cases q
   rw[bD] at hb
   cases hb
  ·have eb:blksD (g.put objs.length u (⟨none,0⟩,fun _=>u.dloc)) k d0=blksD g k d0:=bR k (.dat d0) q1
   rw[eb] at hb
   exact h.fresh k d0 (datAt_ob.1 q2) hw b hb
 ·obtain⟨d1,k1,k2,k3,k4,k5,k6,k7⟩:=h.pins q hq
  exact⟨d1,hdk _ _ k1,k2,k3,k4,k5,k6,by rw[hG0 _ (hlt _ _ (datAt_ob.2 k1))];exact k7⟩
theorem R.unnil{TT:TyTab}:∀(ts:List TypeId) (todo don:List SV) (objs:List (Option Ob)) (g:Gh),R m w0 MB ⟨don++todo,objs⟩ g a w→∃g',R m w0 MB ⟨don++(unnil TT ts todo objs).1,(unnil TT ts todo objs).2⟩ g' a w:=by
 intro ts
 induction ts with
 |nil=>intro todo don objs g h;exact⟨g,by unfold G.unnil;exact h⟩
 |cons t ts ih=>
  intro todo don objs g h
  cases todo with
  |nil=>exact⟨g,by unfold G.unnil;exact h⟩
  |cons x xs=>
   have plain:(∃g',R m w0 MB ⟨don++(x::(G.unnil TT ts xs objs).1),(G.unnil TT ts xs objs).2⟩ g' a w):=by
    obtain⟨g',h'⟩:=ih xs (don++[x]) objs g (by rw[List.append_assoc];exact h)
    exact⟨g',by rw[List.append_assoc] at h';exact h'⟩
   cases x with
   |nil=>
    unfold G.unnil
    split
    ·rename_i e u ht
     have h1:=h.unnil1 (t:=don.length) (by rw[List.getElem?_append_right (Nat.le_refl _),Nat.sub_self];rfl) e u
     rw[List.set_append_right _ _ (Nat.le_refl _),Nat.sub_self] at h1
     obtain⟨g',h'⟩:=ih xs (don++[.sl objs.length [] none]) _ _ (by rw[List.append_assoc];exact h1)
     exact⟨g',by rw[List.append_assoc] at h';exact h'⟩
    ·exact plain
   |_=>exact plain
theorem unnil_live{TT:TyTab}:∀(ts:List TypeId) (xs:List SV) (objs:List (Option Ob)),(∀x,x∈(unnil TT ts xs objs).1→x≠.dead)→∀x,x∈xs→x≠.dead:=by
 intro ts
 induction ts with
 |nil=>intro xs objs h;unfold G.unnil at h;exact h
 |cons t ts ih=>
  intro xs objs h
  cases xs with
  |nil=>intro x hx;cases hx
  |cons y ys=>
   have plain:(∀x,x∈(y::(G.unnil TT ts ys objs).1)→x≠.dead)→∀x,x∈y::ys→x≠.dead:=fun h x hx=>by
    rcases List.mem_cons.1 hx with rfl|hx
    ·exact h _ (List.mem_cons_self ..)
    ·exact ih ys objs (fun z hz=>h z (List.mem_cons_of_mem _ hz)) x hx
   cases y with
   |nil=>
    unfold G.unnil at h
    split at h
    ·rename_i e u ht
     intro x hx
     rcases List.mem_cons.1 hx with rfl|hx
     ·simp
     ·exact ih ys _ (fun z hz=>h z (List.mem_cons_of_mem _ hz)) x hx
    ·exact plain h
   |_=>exact plain h
theorem unnil_length{TT:TyTab}:∀(ts:List TypeId) (xs:List SV) (objs:List (Option Ob)),(unnil TT ts xs objs).1.length=xs.length:=by
 intro ts
 induction ts with
 |nil=>intro xs objs;unfold G.unnil;rfl
 |cons t ts ih=>
  intro xs objs
  cases xs with
  |nil=>unfold G.unnil;rfl
  |cons y ys=>
   cases y with
   |nil=>
    unfold G.unnil
    split<;>simp[ih]
   |_=>unfold G.unnil;simp[ih]
theorem run_sound{TT : TyTab}{small : TypeId → Bool}{Tb : FuncId → Option Sig}(T : TTok P ⟨TT, small, Tb, 0, 0⟩)(hS : ∀ f sig, Tb f = some sig → Sound P f sig){f : FuncId}{fn : Func}(hf : P.funcs[f]? = some fn)(hname : fn.name ≠ "runtime.NumGoroutine")(hm : 0 < fn.ntmps)
  (hD:∀(n:Nat) (w:World) (MB:Out),(∀q,q∈MB.pins→q.n<n)→DrawSound P ⟨TT,small,Tb,n,fn.ntmps⟩ w MB Res) (ann:Ann) (muts:List Nat) (sig:Sig) (hmu:sig.muts=muts) (hF:∀avs r,sig.F Res avs some=some r→∃fuel,run TT small Tb fn ann muts fuel avs some=some r) (hb:fn.body.isNone=false):Sound P f sig where
 fn:=⟨fn,hf,hname,hb⟩
 does:=by
  intro avs r hr vs w gh MBb hR
  subst hmu
  obtain⟨fuel,hr⟩:=hF avs r hr
  unfold run at hr
  simp only at hr
  split at hr
  ·rename_i c hc hle
   have hle:=Nat.le_of_ble_eq_true hle
   generalize hq:intro sig.muts 0 0 avs=q at *
   have T':TTok P ⟨TT,small,Tb,q.objs.length,fn.ntmps⟩:=⟨T.ty,T.zero,T.shallow,T.guard,T.small⟩
   have hpin:∀p,p∈(⟨MBb,pinsOf q.objs gh⟩:Out).pins→p.n<q.objs.length:=fun p hp=>by
    obtain⟨d,hd,_⟩:=pins_of hp
    exact obAt_lt (datAt_ob.2 hd)
   have hvs:vs.length=q.slots.length:=by have:=hR.tm;simpa using this
   have hobA:∀n,obAt (q.objs++List.replicate (3*fn.ntmps) none) n=obAt q.objs n:=fun n=>by
    unfold obAt
    rcases Nat.lt_or_ge n q.objs.length with h1|h1
    ·rw[List.getD_eq_getElem?_getD,List.getD_eq_getElem?_getD,List.getElem?_append_left h1]
    ·rw[List.getD_eq_getElem?_getD,List.getD_eq_getElem?_getD,List.getElem?_append_right h1,List.getElem?_eq_none h1,List.getElem?_replicate]
     split<;>rfl
   have hdatA:∀n,datAt (q.objs++List.replicate (3*fn.ntmps) none) n=datAt q.objs n:=fun n=>by unfold datAt;rw[hobA]
   have hkeepS:∀{n p wn v},SlRel q.objs gh n p wn v→SlRel (q.objs++List.replicate (3*fn.ntmps) none) gh n p wn v:=fun h=>SlRel.keep h (fun d hd=>⟨by rw[hdatA];exact hd,rfl⟩)
   have h0:R fn.ntmps w ⟨MBb,pinsOf q.objs gh⟩ { slots:=q.slots++List.replicate (fn.ntmps-q.slots.length) .dead,objs:=q.objs++List.replicate (3*fn.ntmps) none } gh ⟨vs.toArray++Array.replicate (fn.ntmps-vs.toArray.size) undef,[]⟩ w:=by
    constructor
    ·rfl
    ·simp;omega
    ·simp;omega
    ·intro t ht
     rcases Nat.lt_or_ge t q.slots.length with h1|h1
     ·have:=hR.slots t h1
      rw[List.getD_eq_getElem?_getD,List.getElem?_append_left h1,←List.getD_eq_getElem?_getD]
      have e:(vs.toArray++Array.replicate (fn.ntmps-vs.toArray.size) undef).getD t undef=vs.toArray.getD t undef:=by
       have h2:t<vs.length:=by omega
       have h3:t<(vs.toArray++Array.replicate (fn.ntmps-vs.toArray.size) undef).size:=by simp;omega
       simp only[Array.getD_eq_getD_getElem?]
       rw[Array.getElem?_append_left (by show t<vs.length;exact h2)]
      rw[e]
      refine SRel.keepAll (fun n e q' wn hb'=>⟨by rw[hobA];exact hb',rfl⟩) (fun n d hd=>⟨d,by rw[hdatA];exact hd,rfl,id,fun p P' hP=>⟨P',hP,.refl _,id⟩⟩) this
     ·rw[List.getD_eq_getElem?_getD,List.getElem?_append_right h1,List.getElem?_replicate]
      split<;>trivial
    ·intro n d hd
     exact hR.dat n d (by rw[←hdatA n];exact hd)
    ·intro n e k wn hb'
     obtain⟨d,v,h1,h2,h3,h4⟩:=hR.bx n e k wn (by rw[←hobA n];exact hb')
     exact⟨d,v,by rw[hdatA];exact h1,h2,h3,hkeepS h4⟩
    ·intro n d hd hw
     obtain⟨s1,s2⟩:=hR.sep n d (by rw[←hdatA n];exact hd) hw
     exact⟨s1,fun n' ob hne hob=>s2 n' ob hne (by rw[←hobA n'];exact hob)⟩
    ·intro n d hd hw
     exact hR.fresh n d (by rw[←hdatA n];exact hd) hw
    ·exact hR.frame
    ·intro p hp
     obtain⟨d,h1,h2⟩:=hR.pins p hp
     exact⟨d,by rw[hdatA];exact h1,h2⟩
    ·exact hR.go
   refine calls_of_wp hf hc (den_sound T' hS hm hpin (hD _ _ _ hpin) fuel c ann _ gh _ w _ _ r h0 hr (fun ex s' g' a' w' hR' hK=>?_))
   have fin:finish TT q.objs.length q.names fn sig.muts some s'=some r→a'.defers=[]∧∃v,(results fn a'.tmps).run P w' = .ok v w'∧Post sig avs w gh MBb r v w':=by
    intro hfin
    refine⟨hR'.defers,?_⟩
    unfold finish at hfin
    simp only at hfin
    split at hfin
    ·rename_i l ms h1 h2
     obtain rfl:=Option.some.inj hfin
     obtain⟨vs',k1,k2⟩:=results_run T' hR' fn.results.toList (unnil_live _ _ _ (outs_live _ _ _ h1))
     have hR0:R (fn.results.toList.map (resVar TT s'.slots s'.objs)).length w ⟨MBb,pinsOf q.objs gh⟩ ⟨[]++fn.results.toList.map (resVar TT s'.slots s'.objs),s'.objs⟩ g' ⟨vs'.toArray,[]⟩ w':=by
      refine⟨rfl,rfl,?_,fun t ht=>?_,hR'.dat,hR'.bx,hR'.sep,hR'.fresh,hR'.frame,hR'.pins,hR'.go⟩
      ·simp only[List.size_toArray]
       exact k2.1.symm
      ·have ht2:t<vs'.length:=by rw[←k2.1];exact ht
       have:=k2.2 t _ _ (List.getElem?_eq_getElem ht) (List.getElem?_eq_getElem ht2)
       simp only[List.nil_append]
       rw[List.getD_eq_getElem?_getD,List.getElem?_eq_getElem ht]
       rw[show (vs'.toArray.getD t undef)=vs'[t] by simp[ht2]]
       exact this
     obtain⟨g'',hR1⟩:=hR0.unnil (TT:=TT) fn.resultTypes.toList
     refine⟨retV vs',?_,_,g'',_,vs',?_,by rw[hq];exact h1,by rw[hq];exact h2,rfl⟩
     ·unfold results
      rw[Array.mapM_eq_mapM_toList]
      rw[Sem.run_bind,Sem.run_map]
      refine (congrArg (fun x=>Result.andThen (Result.andThen x (fun v w=>Result.ok (List.toArray v) w)) (fun (a:Array Value) w'=>Sem.run P (pure (if h:a.size=1 then a[0] else Value.tuple a)) w')) k1).trans ?_
      simp only[Result.andThen_ok,Sem.run_pure]
      match vs' with
      |[]=>rfl
      |[v]=>rfl
      |_::_::_=>simp[retV]
     ·rw[hq]
      rw[unnil_length]
      exact hR1
    ·cases hfin
   cases ex with
   |normal=>exact fin hK
   |ret=>exact fin hK
   |exit id=>cases hK
  ·cases hr
end
end Go.Proofs.Ytlipfbihlmlplaa.G
namespace Go.Proofs.Ytlipfbihlmlplaa.G
open Go Go.RowKit
set_option linter.unusedVariables false
set_option linter.unusedSimpArgs false
section
variable {E:Env} {α:Type} {objs:List (Option Ob)} {n:Nat} {r:α}
theorem mem_ptr(objs:List (Option Ob))(n:Nat)(p:List Stp)(c:Bool):n∈namesOf objs (.ptr n p c):=by unfold namesOf;simp only;split<;>simp
theorem mem_tup{objs:List (Option Ob)}{l:List TV}{i n:Nat}{p:List Stp}{w:Win}(h:l[i]? = some (.sl n p w)):n∈namesOf objs (.tup l):=List.mem_flatMap.2 ⟨_,List.mem_of_getElem? h,by simp⟩
def Known(nms:List Nat)(e:Eff):Prop:=∀n,n∈dirNames e.v→n∈nms∨n∈e.upd.map (·.1)
theorem law_load{t:TypeId}{x:SV}{K:Eff→Option α}(hK:effLoad E objs t x K=some r):∃e,K e=some r∧Known (namesOf objs x) e∧∀(β:Type) (K':Eff→Option β),effLoad E objs t x K'=K' e:=by
 unfold effLoad at hK
 repeat' (split at hK)
 all_goals first
  |(cases hK;done)
  |(refine⟨_,hK,fun n hn=>?_,fun β K'=>?_⟩
    ·first
     |(simp_all[dirNames,namesOf];done)
     |(simp only[dirNames,List.mem_singleton] at hn;subst hn;exact .inl (mem_ptr _ _ _ _))
     |(simp only[dirNames,List.mem_singleton] at hn;subst hn;exact .inl (mem_tup (by assumption)))
    ·unfold effLoad;first|(simp_all;done)|(simp only[*];done)|(simp[*];done))
  |(obtain⟨hc,hK⟩:=cond_some hK
    cases hK;done)
  |(obtain⟨hc,hK⟩:=cond_some hK
    refine⟨_,hK,fun n hn=>?_,fun β K'=>?_⟩
    ·first
     |(simp_all[dirNames,namesOf];done)
     |(simp only[dirNames,List.mem_singleton] at hn;subst hn;exact .inl (mem_ptr _ _ _ _))
     |(simp only[dirNames,List.mem_singleton] at hn;subst hn;exact .inl (mem_tup (by assumption)))
    ·unfold effLoad;first|(simp_all;done)|(simp only[*];done)|(simp[*];done))
theorem law_store{t:TypeId}{x y:SV}{K:Eff→Option α}(hK:effStore E objs t x y K=some r):∃e,K e=some r∧Known (([]:List Nat)) e∧∀(β:Type) (K':Eff→Option β),effStore E objs t x y K'=K' e:=by
 unfold effStore at hK
 repeat' (split at hK)
 all_goals first
  |(cases hK;done)
  |(refine⟨_,hK,fun n hn=>?_,fun β K'=>?_⟩
    ·first
     |(simp_all[dirNames,namesOf];done)
     |(simp only[dirNames,List.mem_singleton] at hn;subst hn;exact .inl (mem_ptr _ _ _ _))
     |(simp only[dirNames,List.mem_singleton] at hn;subst hn;exact .inl (mem_tup (by assumption)))
    ·unfold effStore;first|(simp_all;done)|(simp only[*];done)|(simp[*];done))
  |(obtain⟨hc,hK⟩:=cond_some hK
    cases hK;done)
  |(obtain⟨hc,hK⟩:=cond_some hK
    refine⟨_,hK,fun n hn=>?_,fun β K'=>?_⟩
    ·first
     |(simp_all[dirNames,namesOf];done)
     |(simp only[dirNames,List.mem_singleton] at hn;subst hn;exact .inl (mem_ptr _ _ _ _))
     |(simp only[dirNames,List.mem_singleton] at hn;subst hn;exact .inl (mem_tup (by assumption)))
    ·unfold effStore;first|(simp_all;done)|(simp only[*];done)|(simp[*];done))
theorem law_box{dn:Nat}{t:TypeId}{x:SV}{K:Eff→Option α}(hK:effBox E objs dn t x K=some r):∃e,K e=some r∧Known (([]:List Nat)) e∧∀(β:Type) (K':Eff→Option β),effBox E objs dn t x K'=K' e:=by
 unfold effBox at hK
 repeat' (split at hK)
 all_goals first
  |(cases hK;done)
  |(refine⟨_,hK,fun n hn=>?_,fun β K'=>?_⟩
    ·first
     |(simp_all[dirNames,namesOf];done)
     |(simp only[dirNames,List.mem_singleton] at hn;subst hn;exact .inl (mem_ptr _ _ _ _))
     |(simp only[dirNames,List.mem_singleton] at hn;subst hn;exact .inl (mem_tup (by assumption)))
    ·unfold effBox;first|(simp_all;done)|(simp only[*];done)|(simp[*];done))
  |(obtain⟨hc,hK⟩:=cond_some hK
    cases hK;done)
  |(obtain⟨hc,hK⟩:=cond_some hK
    refine⟨_,hK,fun n hn=>?_,fun β K'=>?_⟩
    ·first
     |(simp_all[dirNames,namesOf];done)
     |(simp only[dirNames,List.mem_singleton] at hn;subst hn;exact .inl (mem_ptr _ _ _ _))
     |(simp only[dirNames,List.mem_singleton] at hn;subst hn;exact .inl (mem_tup (by assumption)))
    ·unfold effBox;first|(simp_all;done)|(simp only[*];done)|(simp[*];done))
theorem law_alloc{dn:Nat}{t:TypeId}{K:Eff→Option α}(hK:effAlloc E dn t K=some r):∃e,K e=some r∧Known (([]:List Nat)) e∧∀(β:Type) (K':Eff→Option β),effAlloc E dn t K'=K' e:=by
 unfold effAlloc at hK
 repeat' (split at hK)
 all_goals first
  |(cases hK;done)
  |(refine⟨_,hK,fun n hn=>?_,fun β K'=>?_⟩
    ·first
     |(simp_all[dirNames,namesOf];done)
     |(simp only[dirNames,List.mem_singleton] at hn;subst hn;exact .inl (mem_ptr _ _ _ _))
     |(simp only[dirNames,List.mem_singleton] at hn;subst hn;exact .inl (mem_tup (by assumption)))
    ·unfold effAlloc;first|(simp_all;done)|(simp only[*];done)|(simp[*];done))
  |(obtain⟨hc,hK⟩:=cond_some hK
    cases hK;done)
  |(obtain⟨hc,hK⟩:=cond_some hK
    refine⟨_,hK,fun n hn=>?_,fun β K'=>?_⟩
    ·first
     |(simp_all[dirNames,namesOf];done)
     |(simp only[dirNames,List.mem_singleton] at hn;subst hn;exact .inl (mem_ptr _ _ _ _))
     |(simp only[dirNames,List.mem_singleton] at hn;subst hn;exact .inl (mem_tup (by assumption)))
    ·unfold effAlloc;first|(simp_all;done)|(simp only[*];done)|(simp[*];done))
theorem law_build{t:TypeId}{ps:List (Nat×SV)}{K:Eff→Option α}(hK:effBuild E t ps K=some r):∃e,K e=some r∧Known (([]:List Nat)) e∧∀(β:Type) (K':Eff→Option β),effBuild E t ps K'=K' e:=by
 unfold effBuild at hK
 repeat' (split at hK)
 all_goals first
  |(cases hK;done)
  |(refine⟨_,hK,fun n hn=>?_,fun β K'=>?_⟩
    ·first
     |(simp_all[dirNames,namesOf];done)
     |(simp only[dirNames,List.mem_singleton] at hn;subst hn;exact .inl (mem_ptr _ _ _ _))
     |(simp only[dirNames,List.mem_singleton] at hn;subst hn;exact .inl (mem_tup (by assumption)))
    ·unfold effBuild;first|(simp_all;done)|(simp only[*];done)|(simp[*];done))
  |(obtain⟨hc,hK⟩:=cond_some hK
    cases hK;done)
  |(obtain⟨hc,hK⟩:=cond_some hK
    refine⟨_,hK,fun n hn=>?_,fun β K'=>?_⟩
    ·first
     |(simp_all[dirNames,namesOf];done)
     |(simp only[dirNames,List.mem_singleton] at hn;subst hn;exact .inl (mem_ptr _ _ _ _))
     |(simp only[dirNames,List.mem_singleton] at hn;subst hn;exact .inl (mem_tup (by assumption)))
    ·unfold effBuild;first|(simp_all;done)|(simp only[*];done)|(simp[*];done))
theorem law_lit{dn:Nat}{t:TypeId}{m:Nat}{ps:List (Nat×SV)}{K:Eff→Option α}(hK:effLit E objs dn t m ps K=some r):∃e,K e=some r∧Known (([]:List Nat)) e∧∀(β:Type) (K':Eff→Option β),effLit E objs dn t m ps K'=K' e:=by
 unfold effLit at hK
 repeat' (split at hK)
 all_goals first
  |(cases hK;done)
  |(refine⟨_,hK,fun n hn=>?_,fun β K'=>?_⟩
    ·first
     |(simp_all[dirNames,namesOf];done)
     |(simp only[dirNames,List.mem_singleton] at hn;subst hn;exact .inl (mem_ptr _ _ _ _))
     |(simp only[dirNames,List.mem_singleton] at hn;subst hn;exact .inl (mem_tup (by assumption)))
    ·unfold effLit;first|(simp_all;done)|(simp only[*];done)|(simp[*];done))
  |(obtain⟨hc,hK⟩:=cond_some hK
    cases hK;done)
  |(obtain⟨hc,hK⟩:=cond_some hK
    refine⟨_,hK,fun n hn=>?_,fun β K'=>?_⟩
    ·first
     |(simp_all[dirNames,namesOf];done)
     |(simp only[dirNames,List.mem_singleton] at hn;subst hn;exact .inl (mem_ptr _ _ _ _))
     |(simp only[dirNames,List.mem_singleton] at hn;subst hn;exact .inl (mem_tup (by assumption)))
    ·unfold effLit;first|(simp_all;done)|(simp only[*];done)|(simp[*];done))
theorem law_fieldAddr{t:TypeId}{x:SV}{f:Nat}{K:Eff→Option α}(hK:effFieldAddr E objs t x f K=some r):∃e,K e=some r∧Known (namesOf objs x) e∧∀(β:Type) (K':Eff→Option β),effFieldAddr E objs t x f K'=K' e:=by
 unfold effFieldAddr at hK
 repeat' (split at hK)
 all_goals first
  |(cases hK;done)
  |(refine⟨_,hK,fun n hn=>?_,fun β K'=>?_⟩
    ·first
     |(simp_all[dirNames,namesOf];done)
     |(simp only[dirNames,List.mem_singleton] at hn;subst hn;exact .inl (mem_ptr _ _ _ _))
     |(simp only[dirNames,List.mem_singleton] at hn;subst hn;exact .inl (mem_tup (by assumption)))
    ·unfold effFieldAddr;first|(simp_all;done)|(simp only[*];done)|(simp[*];done))
  |(obtain⟨hc,hK⟩:=cond_some hK
    cases hK;done)
  |(obtain⟨hc,hK⟩:=cond_some hK
    refine⟨_,hK,fun n hn=>?_,fun β K'=>?_⟩
    ·first
     |(simp_all[dirNames,namesOf];done)
     |(simp only[dirNames,List.mem_singleton] at hn;subst hn;exact .inl (mem_ptr _ _ _ _))
     |(simp only[dirNames,List.mem_singleton] at hn;subst hn;exact .inl (mem_tup (by assumption)))
    ·unfold effFieldAddr;first|(simp_all;done)|(simp only[*];done)|(simp[*];done))
theorem law_indexAddr{t:TypeId}{x y:SV}{K:Eff→Option α}(hK:effIndexAddr E objs t x y K=some r):∃e,K e=some r∧Known (namesOf objs x) e∧∀(β:Type) (K':Eff→Option β),effIndexAddr E objs t x y K'=K' e:=by
 unfold effIndexAddr at hK
 repeat' (split at hK)
 all_goals first
  |(cases hK;done)
  |(refine⟨_,hK,fun n hn=>?_,fun β K'=>?_⟩
    ·first
     |(simp_all[dirNames,namesOf];done)
     |(simp only[dirNames,List.mem_singleton] at hn;subst hn;exact .inl (mem_ptr _ _ _ _))
     |(simp only[dirNames,List.mem_singleton] at hn;subst hn;exact .inl (mem_tup (by assumption)))
    ·unfold effIndexAddr;first|(simp_all;done)|(simp only[*];done)|(simp[*];done))
  |(obtain⟨hc,hK⟩:=cond_some hK
    cases hK;done)
  |(obtain⟨hc,hK⟩:=cond_some hK
    refine⟨_,hK,fun n hn=>?_,fun β K'=>?_⟩
    ·first
     |(simp_all[dirNames,namesOf];done)
     |(simp only[dirNames,List.mem_singleton] at hn;subst hn;exact .inl (mem_ptr _ _ _ _))
     |(simp only[dirNames,List.mem_singleton] at hn;subst hn;exact .inl (mem_tup (by assumption)))
    ·unfold effIndexAddr;first|(simp_all;done)|(simp only[*];done)|(simp[*];done))
theorem law_field{t:TypeId}{x:SV}{f:Nat}{K:Eff→Option α}(hK:effField E t x f K=some r):∃e,K e=some r∧Known (([]:List Nat)) e∧∀(β:Type) (K':Eff→Option β),effField E t x f K'=K' e:=by
 unfold effField at hK
 repeat' (split at hK)
 all_goals first
  |(cases hK;done)
  |(refine⟨_,hK,fun n hn=>?_,fun β K'=>?_⟩
    ·first
     |(simp_all[dirNames,namesOf];done)
     |(simp only[dirNames,List.mem_singleton] at hn;subst hn;exact .inl (mem_ptr _ _ _ _))
     |(simp only[dirNames,List.mem_singleton] at hn;subst hn;exact .inl (mem_tup (by assumption)))
    ·unfold effField;first|(simp_all;done)|(simp only[*];done)|(simp[*];done))
  |(obtain⟨hc,hK⟩:=cond_some hK
    cases hK;done)
  |(obtain⟨hc,hK⟩:=cond_some hK
    refine⟨_,hK,fun n hn=>?_,fun β K'=>?_⟩
    ·first
     |(simp_all[dirNames,namesOf];done)
     |(simp only[dirNames,List.mem_singleton] at hn;subst hn;exact .inl (mem_ptr _ _ _ _))
     |(simp only[dirNames,List.mem_singleton] at hn;subst hn;exact .inl (mem_tup (by assumption)))
    ·unfold effField;first|(simp_all;done)|(simp only[*];done)|(simp[*];done))
theorem law_index{t:TypeId}{x y:SV}{K:Eff→Option α}(hK:effIndex E t x y K=some r):∃e,K e=some r∧Known (([]:List Nat)) e∧∀(β:Type) (K':Eff→Option β),effIndex E t x y K'=K' e:=by
 unfold effIndex at hK
 repeat' (split at hK)
 all_goals first
  |(cases hK;done)
  |(refine⟨_,hK,fun n hn=>?_,fun β K'=>?_⟩
    ·first
     |(simp_all[dirNames,namesOf];done)
     |(simp only[dirNames,List.mem_singleton] at hn;subst hn;exact .inl (mem_ptr _ _ _ _))
     |(simp only[dirNames,List.mem_singleton] at hn;subst hn;exact .inl (mem_tup (by assumption)))
    ·unfold effIndex;first|(simp_all;done)|(simp only[*];done)|(simp[*];done))
  |(obtain⟨hc,hK⟩:=cond_some hK
    cases hK;done)
  |(obtain⟨hc,hK⟩:=cond_some hK
    refine⟨_,hK,fun n hn=>?_,fun β K'=>?_⟩
    ·first
     |(simp_all[dirNames,namesOf];done)
     |(simp only[dirNames,List.mem_singleton] at hn;subst hn;exact .inl (mem_ptr _ _ _ _))
     |(simp only[dirNames,List.mem_singleton] at hn;subst hn;exact .inl (mem_tup (by assumption)))
    ·unfold effIndex;first|(simp_all;done)|(simp only[*];done)|(simp[*];done))
theorem law_slice{t:TypeId}{x:SV}{lo hi:Option SV}{mx:Bool}{K:Eff→Option α}(hK:effSlice E objs t x lo hi mx K=some r):∃e,K e=some r∧Known (namesOf objs x) e∧∀(β:Type) (K':Eff→Option β),effSlice E objs t x lo hi mx K'=K' e:=by
 unfold effSlice at hK
 repeat' (split at hK)
 all_goals first
  |(cases hK;done)
  |(refine⟨_,hK,fun n hn=>?_,fun β K'=>?_⟩
    ·first
     |(simp_all[dirNames,namesOf];done)
     |(simp only[dirNames,List.mem_singleton] at hn;subst hn;exact .inl (mem_ptr _ _ _ _))
     |(simp only[dirNames,List.mem_singleton] at hn;subst hn;exact .inl (mem_tup (by assumption)))
    ·unfold effSlice;first|(simp_all;done)|(simp only[*];done)|(simp[*];done))
  |(obtain⟨hc,hK⟩:=cond_some hK
    cases hK;done)
  |(obtain⟨hc,hK⟩:=cond_some hK
    refine⟨_,hK,fun n hn=>?_,fun β K'=>?_⟩
    ·first
     |(simp_all[dirNames,namesOf];done)
     |(simp only[dirNames,List.mem_singleton] at hn;subst hn;exact .inl (mem_ptr _ _ _ _))
     |(simp only[dirNames,List.mem_singleton] at hn;subst hn;exact .inl (mem_tup (by assumption)))
    ·unfold effSlice;first|(simp_all;done)|(simp only[*];done)|(simp[*];done))
theorem law_make{dn:Nat}{t:TypeId}{x y:SV}{K:Eff→Option α}(hK:effMake E dn t x y K=some r):∃e,K e=some r∧Known (([]:List Nat)) e∧∀(β:Type) (K':Eff→Option β),effMake E dn t x y K'=K' e:=by
 unfold effMake at hK
 repeat' (split at hK)
 all_goals first
  |(cases hK;done)
  |(refine⟨_,hK,fun n hn=>?_,fun β K'=>?_⟩
    ·first
     |(simp_all[dirNames,namesOf];done)
     |(simp only[dirNames,List.mem_singleton] at hn;subst hn;exact .inl (mem_ptr _ _ _ _))
     |(simp only[dirNames,List.mem_singleton] at hn;subst hn;exact .inl (mem_tup (by assumption)))
    ·unfold effMake;first|(simp_all;done)|(simp only[*];done)|(simp[*];done))
  |(obtain⟨hc,hK⟩:=cond_some hK
    cases hK;done)
  |(obtain⟨hc,hK⟩:=cond_some hK
    refine⟨_,hK,fun n hn=>?_,fun β K'=>?_⟩
    ·first
     |(simp_all[dirNames,namesOf];done)
     |(simp only[dirNames,List.mem_singleton] at hn;subst hn;exact .inl (mem_ptr _ _ _ _))
     |(simp only[dirNames,List.mem_singleton] at hn;subst hn;exact .inl (mem_tup (by assumption)))
    ·unfold effMake;first|(simp_all;done)|(simp only[*];done)|(simp[*];done))
theorem law_extract{x:SV}{i:Nat}{K:Eff→Option α}(hK:effExtract x i K=some r):∃e,K e=some r∧Known (namesOf objs x) e∧∀(β:Type) (K':Eff→Option β),effExtract x i K'=K' e:=by
 unfold effExtract at hK
 repeat' (split at hK)
 all_goals first
  |(cases hK;done)
  |(refine⟨_,hK,fun n hn=>?_,fun β K'=>?_⟩
    ·first
     |(simp_all[dirNames,namesOf];done)
     |(simp only[dirNames,List.mem_singleton] at hn;subst hn;exact .inl (mem_ptr _ _ _ _))
     |(simp only[dirNames,List.mem_singleton] at hn;subst hn;exact .inl (mem_tup (by assumption)))
    ·unfold effExtract;first|(simp_all;done)|(simp only[*];done)|(simp[*];done))
  |(obtain⟨hc,hK⟩:=cond_some hK
    cases hK;done)
  |(obtain⟨hc,hK⟩:=cond_some hK
    refine⟨_,hK,fun n hn=>?_,fun β K'=>?_⟩
    ·first
     |(simp_all[dirNames,namesOf];done)
     |(simp only[dirNames,List.mem_singleton] at hn;subst hn;exact .inl (mem_ptr _ _ _ _))
     |(simp only[dirNames,List.mem_singleton] at hn;subst hn;exact .inl (mem_tup (by assumption)))
    ·unfold effExtract;first|(simp_all;done)|(simp only[*];done)|(simp[*];done))
theorem law_len{tt:Option Ty}{x:SV}{K:Eff→Option α}(hK:effLen tt objs x K=some r):∃e,K e=some r∧Known (([]:List Nat)) e∧∀(β:Type) (K':Eff→Option β),effLen tt objs x K'=K' e:=by
 unfold effLen at hK
 repeat' (split at hK)
 all_goals first
  |(cases hK;done)
  |(refine⟨_,hK,fun n hn=>?_,fun β K'=>?_⟩
    ·first
     |(simp_all[dirNames,namesOf];done)
     |(simp only[dirNames,List.mem_singleton] at hn;subst hn;exact .inl (mem_ptr _ _ _ _))
     |(simp only[dirNames,List.mem_singleton] at hn;subst hn;exact .inl (mem_tup (by assumption)))
    ·unfold effLen;first|(simp_all;done)|(simp only[*];done)|(simp[*];done))
  |(obtain⟨hc,hK⟩:=cond_some hK
    cases hK;done)
  |(obtain⟨hc,hK⟩:=cond_some hK
    refine⟨_,hK,fun n hn=>?_,fun β K'=>?_⟩
    ·first
     |(simp_all[dirNames,namesOf];done)
     |(simp only[dirNames,List.mem_singleton] at hn;subst hn;exact .inl (mem_ptr _ _ _ _))
     |(simp only[dirNames,List.mem_singleton] at hn;subst hn;exact .inl (mem_tup (by assumption)))
    ·unfold effLen;first|(simp_all;done)|(simp only[*];done)|(simp[*];done))
theorem law_nil{tt:Option Ty}{op:BinOp}{x:SV}{K:Eff→Option α}(hK:effNil tt objs op x K=some r):∃e,K e=some r∧dirNames e.v=[]∧∀(β:Type) (K':Eff→Option β),effNil tt objs op x K'=K' e:=by
 unfold effNil at hK
 split at hK
 ·split at hK
  ·rename_i u l hs
   cases q:List.isEmpty l with
   |true=>rw[q] at hK;exact⟨_,hK,rfl,fun β K'=>by simp only[effNil,hs,q];rfl⟩
   |false=>rw[q] at hK;exact⟨_,hK,rfl,fun β K'=>by simp only[effNil,hs,q];rfl⟩
  ·cases hK
 ·cases hK
theorem law_over{n:Nat}{d:Dat}{k:Nat}{ys:List d.t.den}{v:SV}(hv:dirNames v=[]){K:Eff→Option α}(hK:effOver n d k ys v K=some r):∃e,K e=some r∧Known (([]:List Nat)) e∧∀(β:Type) (K':Eff→Option β),effOver n d k ys v K'=K' e:=by
 obtain⟨de,dt,dl,dw,df,dh⟩:=d
 cases dw with
 |false=>cases hK
 |true=>
  cases dh with
  |some q=>cases hK
  |none=>
   cases hf:dt.flat with
   |false=>simp only[effOver,hf] at hK;cases hK
   |true=>
    simp only[effOver,hf] at hK ⊢
    exact⟨_,hK,fun n hn=>(by rw[hv] at hn;cases hn),fun β K'=>rfl⟩
theorem law_cap{tt:Option Ty}{x:SV}{K:Eff→Option α}(hK:effCap tt x K=some r):∃e,K e=some r∧Known (([]:List Nat)) e∧∀(β:Type) (K':Eff→Option β),effCap tt x K'=K' e:=by
 unfold effCap at hK
 split at hK
 ·exact⟨_,hK,fun n hn=>(by cases hn),fun β K'=>rfl⟩
 ·cases hK
theorem law_clear{t:TypeId}{x:SV}{K:Eff→Option α}(hK:effClear E objs t x K=some r):∃e,K e=some r∧Known (([]:List Nat)) e∧∀(β:Type) (K':Eff→Option β),effClear E objs t x K'=K' e:=by
 unfold effClear at hK
 split at hK
 ·rename_i ht
  exact⟨_,hK,fun n hn=>(by cases hn),fun β K'=>by simp only[effClear,ht]⟩
 ·rename_i n wn e u ht
  split at hK
  ·rename_i d hd
   split at hK
   ·rename_i hu
    obtain⟨e',h1,h2,h3⟩:=law_over rfl hK
    exact⟨e',h1,h2,fun β K'=>by simp only[effClear,ht,hd,hu,if_true];exact h3 β K'⟩
   ·cases hK
  ·cases hK
 ·cases hK
theorem law_copy{t:TypeId}{x y:SV}{K:Eff→Option α}(hK:effCopy E objs t x y K=some r):∃e,K e=some r∧Known (([]:List Nat)) e∧∀(β:Type) (K':Eff→Option β),effCopy E objs t x y K'=K' e:=by
 unfold effCopy at hK
 split at hK
 ·rename_i n wn e u ht
  split at hK
  ·rename_i d l2 ks hd ha
   split at hK
   ·rename_i hu
    obtain⟨e',h1,h2,h3⟩:=law_over rfl hK
    refine⟨e',h1,h2,fun β K'=>?_⟩
    unfold effCopy
    simp only[ht,hd]
    rw[ha]
    simp only
    rw[dif_pos hu]
    exact h3 β K'
   ·cases hK
  ·cases hK
 ·cases hK
theorem law_zeros{dn:Nat}{t t':TypeId}{x y:SV}{K:Eff→Option α}(hK:effZeros E dn t t' x y K=some r):∃e,K e=some r∧Known (([]:List Nat)) e∧∀(β:Type) (K':Eff→Option β),effZeros E dn t t' x y K'=K' e:=by
 unfold effZeros at hK
 split at hK
 ·rename_i e u k kk j ht ht'
  split at hK
  ·rename_i hs
   obtain⟨hb,hK⟩:=cond_some hK
   refine⟨_,hK,fun n hn=>?_,fun β K'=>?_⟩
   ·simp_all[dirNames,namesOf]
   ·simp only[effZeros,ht,ht',hs,hb,cond_true]
  ·cases hK
 ·cases hK
theorem law_bytes{t0 t:TypeId}{x:SV}{K:Eff→Option α}(hK:effBytes E objs t0 t x K=some r):∃e,K e=some r∧(∃q,e = { v:=.val .str q })∧∀(β:Type) (K':Eff→Option β),effBytes E objs t0 t x K'=K' e:=by
 unfold effBytes at hK
 split at hK
 ·rename_i l ks e hap h1 h2
  exact⟨_,hK,⟨_,rfl⟩,fun β K'=>by simp only[effBytes,hap,h1,h2]⟩
 ·cases hK
theorem law_append{dn:Nat}{t:TypeId}{x y:SV}{K:Eff→Option α}(hK:effAppend E objs dn t x y K=some r):∃e,K e=some r∧Known (([]:List Nat)) e∧∀(β:Type) (K':Eff→Option β),effAppend E objs dn t x y K'=K' e:=by
 unfold effAppend at hK
 repeat' (split at hK)
 all_goals first
  |(cases hK;done)
  |(refine⟨_,hK,fun n hn=>?_,fun β K'=>?_⟩
    ·first
     |(simp_all[dirNames,namesOf];done)
     |(simp only[dirNames,List.mem_singleton] at hn;subst hn;exact .inl (mem_ptr _ _ _ _))
     |(simp only[dirNames,List.mem_singleton] at hn;subst hn;exact .inl (mem_tup (by assumption)))
    ·unfold effAppend;first|(simp_all;done)|(simp only[*];done)|(simp[*];done))
  |(obtain⟨hc,hK⟩:=cond_some hK
    cases hK;done)
  |(obtain⟨hc,hK⟩:=cond_some hK
    refine⟨_,hK,fun n hn=>?_,fun β K'=>?_⟩
    ·first
     |(simp_all[dirNames,namesOf];done)
     |(simp only[dirNames,List.mem_singleton] at hn;subst hn;exact .inl (mem_ptr _ _ _ _))
     |(simp only[dirNames,List.mem_singleton] at hn;subst hn;exact .inl (mem_tup (by assumption)))
    ·unfold effAppend;first|(simp_all;done)|(simp only[*];done)|(simp[*];done))
theorem dir_known{x:SV}{n:Nat}(h:n∈dirNames x):n∈namesOf objs x:=by
 cases x with
 |ptr k p c=>simp only[dirNames,List.mem_singleton] at h;subst h;exact mem_ptr _ _ _ _
 |fn f cs=>
  obtain⟨c,hc,rfl⟩:=List.mem_map.1 h
  exact fn_names hc (mem_ptr _ _ _ _)
 |sl k p w=>exact h
 |tup l=>exact h
 |_=>cases h
theorem law_pick{x y z:SV}{K:Eff→Option α}(hK:effPick x y z K=some r):∃e,K e=some r∧Known (namesOf objs y++namesOf objs z) e∧∀(β:Type) (K':Eff→Option β),effPick x y z K'=K' e:=by
 unfold effPick at hK
 split at hK
 ·rename_i c'
  split at hK
  ·rename_i t a u b
   split at hK
   ·rename_i e
    refine⟨_,hK,(fun n hn=>by cases hn),fun β K'=>?_⟩
    unfold effPick
    simp only[e,dif_pos]
   ·cases hK
  ·rename_i hne
   have key:∀(β:Type) (K':Eff→Option β),effPick (.val .bool c') y z K'=cond c' (K' { v:=y }) (K' { v:=z }):=fun β K'=>by
    cases y<;>cases z<;>first|rfl|exact (hne _ _ _ _ rfl rfl).elim
   cases c' with
   |true=>exact⟨_,hK,fun n hn=>.inl (List.mem_append_left _ (dir_known hn)),fun β K'=>key β K'⟩
   |false=>exact⟨_,hK,fun n hn=>.inl (List.mem_append_right _ (dir_known hn)),fun β K'=>key β K'⟩
 ·cases hK
end
end Go.Proofs.Ytlipfbihlmlplaa.G
