/- Plain proofs: what the functions answer, in plain lists and numbers. -/
import Derived.Test.YtlipfbihlmlplaaRd0
import Derived.Test.YtlipfbihlmlplaaRd1
import Derived.Test.YtlipfbihlmlplaaRd2
import Derived.Test.YtlipfbihlmlplaaShelf
namespace Go.Proofs.Ytlipfbihlmlplaa.G
open Go
set_option linter.unusedVariables false
set_option linter.unusedSimpArgs false
set_option maxRecDepth 10000
abbrev DB:=Int×Int
abbrev DS:=DB×Int
theorem eqB(a b:DB):eqV (.st (.pair (.int .u8) (.int .i16))) a b=decide (a=b):=by
 obtain⟨a1,a2⟩:=a
 obtain⟨b1,b2⟩:=b
 simp only[eqV]
 rw[Bool.eq_iff_iff]
 simp
theorem any_eq{β:Type}[DecidableEq β]:∀(a b:List β),a.length=b.length→(a.zip b).any (fun p=>!decide (p.1=p.2)) = !decide (a=b)
 |[],[],_=>by simp
 |[],_::_,h=>by simp at h
 |_::_,[],h=>by simp at h
 |x::a,y::b,h=>by
  rw[List.zip_cons_cons,List.any_cons,any_eq a b (by simpa using h)]
  by_cases c:x=y<;>by_cases c2:a=b<;>simp[c,c2]
theorem zip_at{β γ:Type}{a:List β}{b:List γ}{k:Nat}(h:k<(a.zip b).length):(a.zip b)[k]=(a[k]'(by simp at h;omega),b[k]'(by simp at h;omega)):=by simp
theorem take_set{β:Type}{l:List β}{k:Nat}{x:β}(h:k<l.length):(l.set k x).take (k+1)=l.take k++[x]:=by
 rw[List.take_succ_eq_append_getElem (by simpa using h),List.take_set_of_le (Nat.le_refl k)]
 simp
def validB(b:DB):Bool:=decide (1≤b.1)&&decide (b.1≤20)&&(decide (1900≤b.2)&&decide (b.2≤2099))
def wB(b:DB):Prop:=0≤b.1∧b.1≤255∧-32768≤b.2∧b.2≤32767
def wS(s:DS):Prop:=wB s.1∧-32768≤s.2∧s.2≤32767
def wL(l:List DS):Prop:=PL l∧∀s,s∈l→wS s
def wR(r:List (List DS)):Prop:=Bd r∧∀l,l∈r→∀s,s∈l→wS s
theorem wR.at{r:List (List DS)}(h:wR r){k:Nat}(hk:k<r.length):wL r[k]:=⟨h.1.pl hk,h.2 _ (List.getElem_mem hk)⟩
theorem wL.at{l:List DS}(h:wL l){k:Nat}(hk:k<l.length):wS l[k]:=h.2 _ (List.getElem_mem hk)
theorem s_l00In:Fz54.S (tot fun x=>decide (x.2.1≤x.1)&&decide (x.1≤x.2.2)):=Fz54.of_tot fun x k=>by
 unfold Fz54.pf
 by_cases c:x.2.1≤x.1
 ·rw[decT (show x.1≥x.2.1 from c)];rfl
 ·rw[decF (show ¬x.1≥x.2.1 from c)];rfl
theorem s_within:Fz32.S (tot fun x=>decide (x.2.1≤x.1)&&decide (x.1≤x.2.2)):=Fz32.of_tot fun x k=>by
 unfold Fz32.pf
 by_cases c:x.2.1≤x.1
 ·rw[decT c];rfl
 ·rw[decF c];rfl
theorem s_l01Bottle:Fz56.S (cl wB validB):=Fz56.of_cl s_l00In fun x ⟨h1,h2,h3,h4⟩ k=>by
 unfold Fz56.pf validB
 simp only[tot_eq,Option.bind_some,w64 (n:=x.1) (by omega) (by omega),w64 (n:=x.2) (by omega) (by omega)]
 cases decide (1≤x.1)&&decide (x.1≤20)<;>rfl
theorem s_ValidBottle:Fz23.S (cl wB validB):=Fz23.of_cl s_within fun x ⟨h1,h2,h3,h4⟩ k=>by
 unfold Fz23.pf validB
 simp only[tot_eq,Option.bind_some,w64 (n:=x.1) (by omega) (by omega),w64 (n:=x.2) (by omega) (by omega)]
 cases decide (1≤x.1)&&decide (x.1≤20)<;>rfl
theorem any_not{β:Type}(l:List β)(p:β→Bool):(l.any fun x=>!p x) = !l.all p:=by
 induction l with
 |nil=>rfl
 |cons x l ih=>rw[List.any_cons,List.all_cons,ih,Bool.not_and]
def indexI{β:Type}(p:β→Bool)(l:List β):Int:=match l.findIdx? p with
 |some i=>i
 |none=>-1
theorem firstOr_index{α β:Type}(p:β→Bool)(k:Int→Option α):∀(l:List β) (j:Nat),firstOr p (fun i _=>k (i:Int)) (k (-1)) j l=k (match l.findIdx? p with|some i=>((j+i:Nat):Int)|none=>-1)
 |[],_=>rfl
 |x::l,j=>by
  rw[firstOr,List.findIdx?_cons]
  cases p x with
  |true=>simp
  |false=>
   rw[cond_false,firstOr_index p k l]
   cases l.findIdx? p with
   |none=>rfl
   |some i=>simp[Nat.add_assoc,Nat.add_comm 1 i]
theorem indexI_nn{β:Type}(p:β→Bool)(l:List β):decide (indexI p l≥0)=l.any p:=by
 unfold indexI
 cases h:l.findIdx? p with
 |none=>
  have:=List.findIdx?_eq_none_iff.1 h
  simp only
  rw[decF (by omega)]
  symm
  rw[List.any_eq_false]
  intro x hx
  simpa using this x hx
 |some i=>
  simp only
  rw[decT (by omega)]
  symm
  obtain⟨hi,hp,_⟩:=List.findIdx?_eq_some_iff_getElem.1 h
  exact List.any_eq_true.2 ⟨_,List.getElem_mem hi,hp⟩
theorem bneS(a:Int):(a != a)=false:=by simp
theorem okS{n:Nat}(h:n≤4294967296):okL n=true:=okL_true h
def Few(o:List (List DS)):Prop:=o.length≤8∧∀x,x∈o→x.length≤6
theorem Few.at{o:List (List DS)}(h:Few o){n:Nat}(hn:n<o.length):o[n].length≤6:=h.2 _ (List.getElem_mem hn)
theorem Few.set{o:List (List DS)}(h:Few o){n:Nat}{x:List DS}(hx:x.length≤6):Few (o.set n x):=⟨by rw[List.length_set];exact h.1,fun y hy=>by
 rcases List.mem_or_eq_of_mem_set hy with q|rfl
 ·exact h.2 y q
 ·exact hx⟩
def keptOf{β:Type}(d:β)(p:β→Bool)(l:List β):Option (Nat×Nat)×List β:=
 if l.any p=true then (some (0,(l.filter fun x=>!p x).length),(l.filter fun x=>!p x)++List.replicate (l.length-(l.filter fun x=>!p x).length) d) else (none,l)
theorem kept_cut{β:Type}(d:β)(p:β→Bool)(l:List β):Win.cut (keptOf d p l).1 (keptOf d p l).2=l.filter fun x=>!p x:=by
 unfold keptOf
 by_cases c:l.any p=true
 ·rw[if_pos c]
  simp[Win.cut]
 ·rw[if_neg c]
  symm
  show l.filter _=l
  rw[List.filter_eq_self]
  intro x hx
  simp only[List.any_eq_true,not_exists,not_and,Bool.not_eq_true] at c
  simp[c x hx]
def wBs(l:List DB):Prop:=l.length≤1073741824∧∀b,b∈l→wB b
def AllIn(Q:DS→Prop)(o:List (List DS)):Prop:=∀l,l∈o→∀s,s∈l→Q s
theorem AllIn.set{Q:DS→Prop}{o:List (List DS)}(h:AllIn Q o){n:Nat}{x:List DS}(hx:∀s,s∈x→Q s):AllIn Q (o.set n x):=fun l hl s hs=>by
 rcases List.mem_or_eq_of_mem_set hl with q|rfl
 ·exact h l q s hs
 ·exact hx s hs
theorem AllIn.at{Q:DS→Prop}{o:List (List DS)}(h:AllIn Q o){n:Nat}(hn:n<o.length):∀s,s∈o.getD n []→Q s:=fun s hs=>by
 rw[getD_lt hn] at hs
 exact h _ (List.getElem_mem hn) s hs
def Cr(c:List DB):Prop:=c.length=12
def CrS(s:List (List DB)):Prop:=s.length≤1073741824∧∀c,c∈s→c.length=12
theorem CrS.at{s:List (List DB)}(h:CrS s){i:Nat}(hi:i<s.length):Cr s[i]:=h.2 _ (List.getElem_mem hi)
def CrS2(x:List (List DB)×List (List DB)):Prop:=CrS x.1∧CrS x.2
theorem s_cloneB:Fz35.S (cl PL fun l=>l):=Fz35.of_cl fun l h k=>by
 have h:l.length≤1073741824:=h
 unfold Fz35.pf
 simp only[List.nil_append,List.length_nil]
 rw[okS (by omega)]
 cases l with
 |nil=>exact both_same _
 |cons x l=>rfl
theorem s_l01Free:Fz59.S (tot fun b=>decide (b=(0,0))):=Fz59.of_tot fun b k=>by
 unfold Fz59.pf
 rw[eqB]
def okB(b:DB):Bool:=decide (b=(0,0))||validB b
def crateOk(c:List DB):Bool:=c.all okB
def stackOk(s:List (List DB)):Bool:=decide (s.length≤12)&&s.all crateOk
def wC(c:List DB):Prop:=c.length=12∧∀b,b∈c→wB b
def wCs(s:List (List DB)):Prop:=CrS s∧∀c,c∈s→∀b,b∈c→wB b
theorem wCs.at{s:List (List DB)}(h:wCs s){i:Nat}(hi:i<s.length):wC s[i]:=⟨h.1.at hi,h.2 _ (List.getElem_mem hi)⟩
theorem s_l01Ok:Fz60.S (cl wC crateOk):=Fz60.of_cl s_l01Free s_l01Bottle fun c h k=>by
 obtain⟨hl,hw⟩:=h
 unfold Fz60.pf
 rw[iter_first c (fun i=>(i:Int)) (fun b=>!okB b) (fun _ _=>k false) (k true) (x:=0) rfl (big_lt (by omega)) ?_ ?_,firstOr_const,any_not]
 ·unfold crateOk
  cases c.all okB<;>rfl
 ·intro i hi rec
  unfold Fz60.B1
  simp only[decT (show (i:Int)<12 by omega),inB_nat (show i<12 by omega),cond_true,Int.toNat_natCast,getD_lt hi,tot_eq,cl_eq (hw _ (List.getElem_mem hi)),Option.bind_some,w64n (show i<9223372036854775807 by omega),okB]
  cases decide (c[i]=(0,0))<;>cases validB c[i]<;>rfl
 ·intro rec
  unfold Fz60.B1
  rw[decF (by omega)]
  rfl
theorem s_l01Stack:Fz63.S (cl wCs stackOk):=Fz63.of_cl s_l01Ok fun s h k=>by
 have hl:=h.1.1
 unfold Fz63.pf
 rw[iter_first s (fun i=>(i:Int)) (fun c=>!crateOk c) (fun _ _=>k false) (k (decide ((s.length:Int)≤12))) (x:=0) rfl (big_lt (by omega)) ?_ ?_,firstOr_const,any_not]
 ·unfold stackOk
  cases s.all crateOk with
  |false=>simp
  |true=>
   rw[Bool.and_true]
   show k _=k _
   congr 1
   exact decide_eq_decide.2 (by omega)
 ·intro i hi rec
  unfold Fz63.B1
  simp only[decT (show (i:Int)<(s.length:Int) by omega),inB_nat hi,cond_true,Int.toNat_natCast,getD_lt hi,cl_eq (h.at hi),Option.bind_some,w64n (show i<9223372036854775807 by omega)]
 ·intro rec
  unfold Fz63.B1
  rw[decF (by omega)]
  rfl
def countI{β:Type}(p:β→Bool):List β→Int
 |[]=>0
 |x::l=>cond (p x) 1 0+countI p l
theorem countI_le{β:Type}(p:β→Bool):∀(l:List β),0≤countI p l∧countI p l≤l.length
 |[]=>⟨by simp[countI],by simp[countI]⟩
 |x::l=>by
  have:=countI_le p l
  unfold countI
  cases p x<;>simp<;>omega
theorem s_ValidCrate_1:Fz25.S (cl wB fun s=>!okB s):=Fz25.of_cl s_ValidBottle fun x h k=>by
 unfold Fz25.pf okB
 rw[eqB]
 by_cases c:x=(0,0)
 ·rw[decT c];rfl
 ·rw[decF c,cl_eq h];rfl
theorem s_index_vc:Fz42.S (cl wBs fun l=>indexI (fun s=>!okB s) l):=Fz42.of_cl s_ValidCrate_1 fun x h k=>by
 have hl:x.length≤1073741824:=h.1
 unfold Fz42.pf
 rw[iter_first x (fun i=>(i:Int)) (fun s=>!okB s) (fun i _=>k (i:Int)) (k (-1)) (x:=0) rfl (big_lt (by omega)) ?_ ?_,firstOr_index]
 ·unfold indexI
  congr 1
  cases x.findIdx? (fun s=>!okB s)<;>simp
 ·intro i hi rec
  unfold Fz42.B1
  simp only[decT (show (i:Int)<(x.length:Int) by omega),inB_nat hi,cond_true,Int.toNat_natCast,getD_lt hi,cl_eq (h.2 _ (List.getElem_mem hi)),Option.bind_some,w64n (show i<9223372036854775807 by omega)]
 ·intro rec
  unfold Fz42.B1
  rw[decF (by omega)]
  rfl
theorem s_contains_vc:Fz37.S (cl wBs fun l=>l.any (fun s=>!okB s)):=Fz37.of_cl s_index_vc fun x h k=>by
 unfold Fz37.pf
 rw[cl_eq h,Option.bind_some,indexI_nn]
theorem wC.bs{c:List DB}(h:wC c):wBs c:=⟨by have:=h.1;omega,h.2⟩
theorem s_ValidCrate:Fz24.S (cl wC crateOk):=Fz24.of_cl s_contains_vc fun x h k=>by
 unfold Fz24.pf crateOk
 rw[cl_eq h.bs,Option.bind_some,any_not,Bool.not_not]
theorem s_ValidStack_1:Fz27.S (cl wC fun c=>!crateOk c):=Fz27.of_cl s_ValidCrate fun x h k=>by
 unfold Fz27.pf
 rw[cl_eq h];rfl
theorem s_index_vs:Fz43.S (cl wCs fun l=>indexI (fun c=>!crateOk c) l):=Fz43.of_cl s_ValidStack_1 fun x h k=>by
 have hl:x.length≤1073741824:=h.1.1
 unfold Fz43.pf
 rw[iter_first x (fun i=>(i:Int)) (fun c=>!crateOk c) (fun i _=>k (i:Int)) (k (-1)) (x:=0) rfl (big_lt (by omega)) ?_ ?_,firstOr_index]
 ·unfold indexI
  congr 1
  cases x.findIdx? (fun c=>!crateOk c)<;>simp
 ·intro i hi rec
  unfold Fz43.B1
  simp only[decT (show (i:Int)<(x.length:Int) by omega),inB_nat hi,cond_true,Int.toNat_natCast,getD_lt hi,cl_eq (h.at hi),Option.bind_some,w64n (show i<9223372036854775807 by omega)]
 ·intro rec
  unfold Fz43.B1
  rw[decF (by omega)]
  rfl
theorem s_contains_vs:Fz38.S (cl wCs fun l=>l.any (fun c=>!crateOk c)):=Fz38.of_cl s_index_vs fun x h k=>by
 unfold Fz38.pf
 rw[cl_eq h,Option.bind_some,indexI_nn]
theorem s_ValidStack:Fz26.S (cl wCs stackOk):=Fz26.of_cl s_contains_vs fun x h k=>by
 unfold Fz26.pf stackOk
 by_cases c:x.length≤12
 ·rw[decT (show ((x.length:Int)≤12) by omega),decT c,cond_true,cl_eq h,Option.bind_some,any_not,Bool.not_not,Bool.true_and]
 ·rw[decF (show ¬((x.length:Int)≤12) by omega),decF c];rfl
theorem s_bottles_1:Fz10.S (tot fun b=>decide (b=(0,0))):=Fz10.of_tot fun x k=>by
 unfold Fz10.pf
 rw[eqB]
theorem s_index_cb:Fz41.S (cl PL fun l=>indexI (fun b=>decide (b=(0,0))) l):=Fz41.of_cl s_bottles_1 fun x h k=>by
 have hl:x.length≤1073741824:=h
 unfold Fz41.pf
 rw[iter_first x (fun i=>(i:Int)) (fun b=>decide (b=(0,0))) (fun i _=>k (i:Int)) (k (-1)) (x:=0) rfl (big_lt (by omega)) ?_ ?_,firstOr_index]
 ·unfold indexI
  congr 1
  cases x.findIdx? (fun b=>decide (b=(0,0)))<;>simp
 ·intro i hi rec
  unfold Fz41.B1
  simp only[decT (show (i:Int)<(x.length:Int) by omega),inB_nat hi,cond_true,Int.toNat_natCast,getD_lt hi,tot_eq,Option.bind_some,w64n (show i<9223372036854775807 by omega)]
 ·intro rec
  unfold Fz41.B1
  rw[decF (by omega)]
  rfl
theorem s_delete_cb:Fz39.S (cl PL fun l=>keptOf (0,0) (fun b=>decide (b=(0,0))) l):=Fz39.of_cl s_index_cb s_bottles_1 fun l h k=>by
 have hl:l.length≤1073741824:=h
 show Fz39.pf _ _ BIG l k=k (keptOf (0,0) (fun b=>decide (b=(0,0))) l)
 unfold Fz39.pf
 rw[cl_eq h,Option.bind_some]
 generalize hp:(fun b:DB=>decide (b=(0,0)))=p
 unfold indexI keptOf
 cases hf:l.findIdx? p with
 |none=>
  have:=List.findIdx?_eq_none_iff.1 hf
  rw[if_neg (by simpa using this)]
  rfl
 |some i=>
  obtain⟨hi,hpi,hbef⟩:=List.findIdx?_eq_some_iff_getElem.1 hf
  rw[if_pos (List.any_eq_true.2 ⟨_,List.getElem_mem hi,hpi⟩)]
  simp only
  rw[beqF (by omega),cond_false,w64n (by omega)]
  have h0:(l.take i).filter (fun x=>!p x)=l.take i:=by
   rw[List.filter_eq_self]
   intro x hx
   obtain⟨j,hj,rfl⟩:=List.mem_iff_getElem.1 hx
   have hj':j<i:=by simp at hj;omega
   have:=hbef j hj'
   simpa using this
  have h1:(l.take (i+1)).filter (fun x=>!p x)=l.take i:=by
   rw[List.take_succ_eq_append_getElem hi,List.filter_append,h0]
   simp[hpi]
  have:=iter_fold (B:=Fz39.B1 (tot p) fun (x1:Int×Int×List DB)=>cond (inW x1.1 (((List.length x1.2.2):Nat):Int) (List.length x1.2.2)) (cond (inW 0 x1.1 (List.length (overL x1.2.2 x1.1.toNat (List.replicate ((((List.length x1.2.2):Nat):Int)-x1.1).toNat (0,0))))) (k ((some (0,(x1.1-0).toNat)),(overL x1.2.2 x1.1.toNat (List.replicate ((((List.length x1.2.2):Nat):Int)-x1.1).toNat (0,0))))) none) none)
   l (fun j (c:List DB)=>((((l.take j).filter fun x=>!p x).length:Int),(j:Int),c)) (fun _ _=>k (some (0,(l.filter fun x=>!p x).length),(l.filter fun x=>!p x)++List.replicate (l.length-(l.filter fun x=>!p x).length) (0,0))) (fun j c=>c.length=l.length∧c.drop j=l.drop j∧c.take ((l.take j).filter fun x=>!p x).length=(l.take j).filter fun x=>!p x) ?_ ?_ (l.length-(i+1)) (i+1) l BIG (by omega) (big_lt (by omega)) ⟨rfl,rfl,by rw[h1];simp⟩
  ·rw[h1,List.length_take,Nat.min_eq_left (by omega)] at this
   exact this
  ·rintro j hj c rec ⟨e1,e2,e3⟩ hrec
   have hjc:j<c.length:=by omega
   have hcj:c[j]=l[j]:=by
    have:=congrArg (fun z=>z[0]?) e2
    simpa[hjc,hj] using this
   have hm:((l.take j).filter fun x=>!p x).length≤j:=by
    have:=List.length_filter_le (fun x=>!p x) (l.take j)
    rw[List.length_take] at this
    omega
   have ht:(l.take (j+1)).filter (fun x=>!p x)=(l.take j).filter (fun x=>!p x)++if p l[j]=true then [] else [l[j]]:=by
    rw[List.take_succ_eq_append_getElem hj,List.filter_append]
    cases hq:p l[j]<;>simp[hq]
   unfold Fz39.B1
   simp only[e1,decT (show (j:Int)<(l.length:Int) by omega),inB_nat hj,cond_true,Int.toNat_natCast,getD_lt hjc,hcj,tot_eq,Option.bind_some,w64n (show j<9223372036854775807 by omega)]
   cases hq:p l[j] with
   |true=>
    rw[hq,if_pos rfl,List.append_nil] at ht
    have:=hrec c ⟨e1,by
     have:=congrArg (List.drop 1) e2
     simpa[List.drop_drop,Nat.add_comm] using this,by rw[ht];exact e3⟩
    rw[ht] at this
    exact this
   |false=>
    rw[hq] at ht
    simp only[Bool.false_eq_true,if_false] at ht
    have hlen:((l.take (j+1)).filter fun x=>!p x).length=((l.take j).filter fun x=>!p x).length+1:=by rw[ht];simp
    have hmc:((l.take j).filter fun x=>!p x).length<c.length:=by omega
    have:=hrec (c.set ((l.take j).filter fun x=>!p x).length l[j]) ⟨by simpa using e1,by
     rw[List.drop_set_of_lt (by omega)]
     have:=congrArg (List.drop 1) e2
     simpa[List.drop_drop,Nat.add_comm] using this,by
     rw[hlen,take_set hmc,e3,ht]⟩
    rw[hlen] at this
    simp only[Bool.not_false,cond_true,inB_nat (show ((l.take j).filter fun x=>!p x).length<l.length by omega),w64n (show ((l.take j).filter fun x=>!p x).length<9223372036854775807 by omega)]
    exact this
  ·rintro c rec ⟨e1,e2,e3⟩
   have eT:l.take l.length=l:=List.take_of_length_le (Nat.le_refl _)
   rw[eT] at e3
   simp only[eT]
   have hm:=List.length_filter_le (fun x=>!p x) l
   unfold Fz39.B1
   rw[decF (by simp only;omega)]
   simp only[cond_false,e1]
   rw[inW_true (by omega) (by omega) (by omega),cond_true]
   have e4:overL c (((l.filter fun x=>!p x).length:Nat):Int).toNat (List.replicate ((((l.length:Nat):Int))-(((l.filter fun x=>!p x).length:Nat):Int)).toNat (0,0))=(l.filter fun x=>!p x)++List.replicate (l.length-(l.filter fun x=>!p x).length) (0,0):=by
    unfold overL
    rw[Int.toNat_natCast,e3,List.drop_eq_nil_of_le (by simp;omega),List.append_nil]
    congr 2
    omega
   rw[e4,inW_true (by omega) (by omega) (by simp;omega),cond_true]
   congr 3
theorem s_crateBottles:Fz9.S (cl Cr fun c=>c.filter fun b=>!decide (b=(0,0))):=Fz9.of_cl s_cloneB s_delete_cb fun c h k=>by
 have hl:c.length=12:=h
 have hp:PL c:=by unfold PL;omega
 unfold Fz9.pf
 rw[cl_eq hp,Option.bind_some,cl_eq hp,Option.bind_some,kept_cut]
theorem count2{α:Type}(p0 p1:Int)(c:List DB)(hc:c.length=12)(s:List (List DB))(b:DB)(n0:Int)(h0:0≤n0)(h1:n0≤100000000000)(K:Int×Int→Option α):
  iter (Fz30.B2 p0 p1 c s b K) BIG (n0,0)=K (n0+countI (fun x=>decide (x=b)) c,12):=by
 refine (iter_list c (fun p (n:Int)=>(n,(p:Int))) (fun q n=>K (n+countI (fun x=>decide (x=b)) q,12)) (fun p n=>n0≤n∧n≤n0+p) (c:=n0) rfl (big_lt (by omega)) ⟨by omega,by omega⟩ ?_ ?_)
 ·rintro p hp n rec ⟨h1,h2⟩ hrec
  unfold Fz30.B2
  simp only[decT (show (p:Int)<12 by omega),inB_nat (show p<12 by omega),cond_true,Int.toNat_natCast,getD_lt hp,eqB,w64n (show p<9223372036854775807 by omega),w64 (show -9223372036854775808≤n+1 by omega) (by omega),countI]
  by_cases q2:c[p]=b
  ·rw[decT q2]
   exact (hrec _ (by omega)).trans (by simp[Int.add_assoc])
  ·rw[decF q2]
   exact (hrec _ (by omega)).trans (by simp)
 ·rintro n rec _
  unfold Fz30.B2
  rw[decF (by simp only;omega)]
  simp[countI,hc]
def bLt(x y:DB):Bool:=decide (x.1<y.1)||(decide (x.1=y.1)&&decide (x.2<y.2))
def cmpB(x:DB×DB):Int:=if x.1.1<x.2.1 then -1 else if x.1.1>x.2.1 then 1 else if x.1.2<x.2.2 then -1 else if x.1.2>x.2.2 then 1 else 0
theorem cmpB_lt(x y:DB):decide (cmpB (x,y)<0)=bLt x y:=by
 obtain⟨x1,x2⟩:=x
 obtain⟨y1,y2⟩:=y
 unfold cmpB bLt
 simp only
 by_cases h1:x1<y1
 ·simp[h1]
 ·by_cases h2:x1>y1
  ·simp[h1,h2];omega
  ·have:x1=y1:=by omega
   subst this
   by_cases h3:x2<y2
   ·simp[h3]
   ·by_cases h4:x2>y2
    ·simp[h3,h4]
    ·simp[h3,h4]
theorem s_spec_Compare:Fz45.S (tot cmpB):=Fz45.of_tot fun x k=>by
 obtain⟨⟨x1,x2⟩,y1,y2⟩:=x
 unfold Fz45.pf cmpB
 simp only
 by_cases h1:x1<y1
 ·rw[decT h1,if_pos h1];rfl
 ·rw[decF h1,if_neg h1]
  by_cases h2:x1>y1
  ·rw[decT h2,if_pos h2];rfl
  ·rw[decF h2,if_neg h2]
   by_cases h3:x2<y2
   ·rw[decT h3,if_pos h3];rfl
   ·rw[decF h3,if_neg h3]
    by_cases h4:x2>y2
    ·rw[decT h4,if_pos h4];rfl
    ·rw[decF h4,if_neg h4];rfl
def cmpI(x:Int×Int):Int:=if x.1<x.2 then -1 else if x.1>x.2 then 1 else 0
theorem s_isNaN8:Fz4.S (tot fun _=>false):=Fz4.of_tot fun x k=>by unfold Fz4.pf;rw[bneF rfl]
theorem s_isNaN16:Fz3.S (tot fun _=>false):=Fz3.of_tot fun x k=>by unfold Fz3.pf;rw[bneF rfl]
theorem s_cmp8:Fz1.S (tot cmpI):=Fz1.of_tot s_isNaN8 fun x k=>by
 obtain⟨x,y⟩:=x
 unfold Fz1.pf cmpI
 simp only[tot_eq,Option.bind_some,cond_false]
 by_cases h1:x<y
 ·rw[decT h1,if_pos h1];rfl
 ·rw[decF h1,if_neg h1]
  by_cases h2:x>y
  ·rw[decT h2,if_pos h2];rfl
  ·rw[decF h2,if_neg h2];rfl
theorem s_cmp16:Fz0.S (tot cmpI):=Fz0.of_tot s_isNaN16 fun x k=>by
 obtain⟨x,y⟩:=x
 unfold Fz0.pf cmpI
 simp only[tot_eq,Option.bind_some,cond_false]
 by_cases h1:x<y
 ·rw[decT h1,if_pos h1];rfl
 ·rw[decF h1,if_neg h1]
  by_cases h2:x>y
  ·rw[decT h2,if_pos h2];rfl
  ·rw[decF h2,if_neg h2];rfl
def orL(l:List Int):Int:=(l.find? fun x=>x != 0).getD 0
theorem firstOr_find{α:Type}(k:Int→Option α):∀(l:List Int) (j:Nat),firstOr (fun x=>x != 0) (fun _ x=>k x) (k 0) j l=k (orL l)
 |[],_=>rfl
 |x::l,j=>by
  rw[firstOr,firstOr_find k l]
  unfold orL
  rw[List.find?_cons]
  cases hx:x != 0<;>rfl
theorem s_cmpOr:Fz2.S (cl PL orL):=Fz2.of_cl fun l h k=>by
 have h:l.length≤1073741824:=h
 unfold Fz2.pf
 rw[iter_first l (fun i=>(i:Int)) (fun x=>x != 0) (fun _ x=>k x) (k 0) (x:=0) rfl (big_lt (by omega)) ?_ ?_,firstOr_find]
 ·intro i hi rec
  unfold Fz2.B1
  simp only[decT (show (i:Int)<(l.length:Int) by omega),inB_nat hi,cond_true,Int.toNat_natCast,getD_lt hi,w64n (show i<9223372036854775807 by omega)]
 ·intro rec
  unfold Fz2.B1
  rw[decF (by omega)]
  rfl
theorem s_compare:Fz29.S (tot cmpB):=Fz29.of_tot s_cmp8 s_cmp16 s_cmpOr fun x k=>by
 obtain⟨⟨x1,x2⟩,y1,y2⟩:=x
 unfold Fz29.pf
 simp only[tot_eq,Option.bind_some]
 rw[cl_eq (show PL [cmpI (x1,y1),cmpI (x2,y2)] by unfold PL;simp),Option.bind_some]
 congr 1
 unfold orL cmpI cmpB
 simp only
 by_cases h1:x1<y1
 ·simp[h1]
 ·by_cases h2:x1>y1
  ·simp[h1,h2]
  ·by_cases h3:x2<y2
   ·simp[h1,h2,h3]
   ·by_cases h4:x2>y2
    ·simp[h1,h2,h3,h4]
    ·simp[h1,h2,h3,h4]
def spotB(o:List DB)(x:DB):Nat→Nat
 |0=>0
 |i+1=>if bLt x (o.getD i (0,0))=true then spotB o x i else i+1
def putB(o:List DB)(x:DB):List DB:=o.take (spotB o x o.length)++x::o.drop (spotB o x o.length)
def sortB(l:List DB):List DB:=l.foldl putB []
theorem spotB_le(o:List DB)(x:DB):∀i,spotB o x i≤i
 |0=>Nat.le_refl 0
 |i+1=>by
  have:=spotB_le o x i
  unfold spotB
  split<;>omega
theorem putB_perm(o:List DB)(x:DB):(putB o x).Perm (x::o):=by
 unfold putB
 refine List.perm_middle.trans ?_
 rw[List.take_append_drop]
theorem sortB_perm(l:List DB):(sortB l).Perm l:=by
 have key:∀(l o:List DB),(l.foldl putB o).Perm (o++l):=by
  intro l
  induction l with
  |nil=>intro o;simp
  |cons x l ih=>
   intro o
   rw[List.foldl_cons]
   refine (ih _).trans ?_
   refine ((putB_perm o x).append_right l).trans ?_
   exact List.perm_middle.symm
 have:=key l []
 rwa[List.nil_append] at this
theorem sortB_len(l:List DB):(sortB l).length=l.length:=(sortB_perm l).length_eq
theorem sortB_take(l:List DB){p:Nat}(h:p<l.length):sortB (l.take (p+1))=putB (sortB (l.take p)) l[p]:=by
 unfold sortB
 rw[List.take_succ_eq_append_getElem h,List.foldl_append]
 rfl
def amd{β:Type}(o:List β)(x:β)(j:Nat)(q:List β):List β:=o.take j++x::(o.drop j++q)
theorem amd_len{β:Type}(o:List β)(x:β)(j:Nat)(q:List β)(h:j≤o.length):(amd o x j q).length=o.length+1+q.length:=by
 unfold amd
 simp
 omega
theorem amd_at{β:Type}(d:β)(o:List β)(x:β)(j:Nat)(q:List β)(h:j≤o.length):(amd o x j q).getD j d=x:=by
 unfold amd
 rw[List.getD_eq_getElem?_getD,List.getElem?_append_right (by simp;omega)]
 simp[Nat.min_eq_left h]
theorem amd_below{β:Type}(d:β)(o:List β)(x:β)(j:Nat)(q:List β)(h:j<o.length):(amd o x (j+1) q).getD j d=o[j]:=by
 unfold amd
 rw[List.getD_eq_getElem?_getD,List.getElem?_append_left (by simp;omega),List.getElem?_take_of_lt (by omega),List.getElem?_eq_getElem h]
 rfl
theorem amd_swap{β:Type}(o:List β)(x:β)(j:Nat)(q:List β)(h:j<o.length):((amd o x (j+1) q).set (j+1) o[j]).set j x=amd o x j q:=by
 unfold amd
 rw[List.set_append_right _ _ (by simp;omega)]
 have e:j+1-(o.take (j+1)).length=0:=by simp;omega
 rw[e,List.set_cons_zero,List.take_succ_eq_append_getElem h,List.append_assoc,List.set_append_right _ _ (by simp;omega)]
 have e2:j-(o.take j).length=0:=by simp;omega
 rw[e2]
 simp
 rw[drop_cons h,List.cons_append]
abbrev allB(c:List DB):List DB:=c.filter fun b=>!decide (b=(0,0))
theorem allB_len(c:List DB):(allB c).length≤c.length:=List.length_filter_le _ _
theorem s_l01All:Fz55.S (cl Cr allB):=Fz55.of_cl s_l01Free fun c h k=>by
 have hl:c.length=12:=h
 unfold Fz55.pf
 refine iter_list c (fun i (o:List DB)=>((i:Int),o)) (fun q o=>k (o++allB q)) (fun i o=>o.length≤i) (c:=[]) rfl (big_lt (by omega)) (Nat.le_refl 0) ?_ ?_
 ·rintro i hi o rec ho hrec
  unfold Fz55.B1
  simp only[decT (show (i:Int)<12 by omega),inB_nat (show i<12 by omega),cond_true,Int.toNat_natCast,getD_lt hi,tot_eq,Option.bind_some,w64n (show i<9223372036854775807 by omega),allB,List.filter_cons]
  by_cases q:c[i]=(0,0)
  ·rw[decT q]
   exact hrec _ (by omega)
  ·rw[decF q,okS (by simp;omega)]
   simp only[Bool.not_false,cond_true,if_true]
   exact (hrec _ (by simp;omega)).trans (by simp[allB])
 ·rintro o rec _
  unfold Fz55.B1
  rw[decF (by simp only;omega)]
  simp[allB]
theorem srtB2{α:Type}(p1:Int)(l0:List DB)(o:List DB)(x:DB)(q:List DB)(ho:o.length≤1073741824)(K:List DB→Option α)(K1:Int×List DB→Option α)(K0:Int×List DB→Int→Option α)
  (h1:∀(j:Nat) (c:List DB),j<c.length→K1 ((j:Int),c)=K (c.set j x)) (h0:∀(j:Nat) (c:List DB) r,j<c.length→K0 ((j:Int),c) r=K (c.set j x)):
  iter (Fz62.B2 (tot cmpB) p1 l0 x K0 K1) BIG ((o.length:Int),amd o x o.length q)=K (amd o x (spotB o x o.length) q):=by
 have key:∀(j fuel:Nat) (c:List DB),j<fuel→j≤o.length→c.length=o.length+1+q.length→c.set j x=amd o x j q→iter (Fz62.B2 (tot cmpB) p1 l0 x K0 K1) fuel ((j:Int),c)=K (amd o x (spotB o x j) q):=by
  intro j
  induction j with
  |zero=>
   intro fuel c hf _ hc he
   match fuel,hf with
   |f+1,_=>
    show Fz62.B2 _ p1 l0 x K0 K1 _ (((0:Nat):Int),_)=_
    unfold Fz62.B2
    rw[decF (by simp)]
    simp only[cond_false]
    rw[h1 0 c (by omega),he]
    rfl
  |succ j ih=>
   intro fuel c hf hj hc he
   match fuel,hf with
   |f+1,hf=>
    show Fz62.B2 _ p1 l0 x K0 K1 (iter (Fz62.B2 (tot cmpB) p1 l0 x K0 K1) f) (((j+1:Nat):Int),c)=_
    generalize hR:iter (Fz62.B2 (tot cmpB) p1 l0 x K0 K1) f=R
    unfold Fz62.B2
    have e:IntKind.i64.wrap (((j+1:Nat):Int)-1)=(j:Int):=by rw[w64 (by omega) (by omega)];omega
    have hjo:j<o.length:=by omega
    have hjc:j<c.length:=by omega
    have hcj:c.getD j (0,0)=o[j]:=by
     have:=amd_below (0,0) o x j q hjo
     rw[←he,List.getD_eq_getElem?_getD,List.getElem?_set_ne (by omega),←List.getD_eq_getElem?_getD] at this
     exact this
    simp only[e,decT (show ((j+1:Nat):Int)>0 by omega),inB_nat hjc,inB_nat (show j+1<c.length by omega),Int.toNat_natCast,cond_true,hcj,tot_eq,Option.bind_some,cmpB_lt]
    unfold spotB
    rw[getD_lt hjo]
    cases hb:bLt x o[j] with
    |true=>
     rw[if_pos rfl,cond_true,←hR]
     refine ih f _ (by omega) (by omega) (by simpa using hc) ?_
     rw[←amd_swap o x j q hjo,←he,List.set_set]
    |false=>rw[if_neg (by simp),cond_false,h0 (j+1) c _ (by omega),he]
 refine key _ _ _ (big_lt (by omega)) (Nat.le_refl _) (amd_len o x _ q (Nat.le_refl _)) ?_
 have hl:=amd_len o x o.length q (Nat.le_refl _)
 refine List.ext_getElem (by simp) fun i h1 h2=>?_
 rw[List.getElem_set]
 split
 ·rename_i e
  subst e
  have:=amd_at (0,0) o x o.length q (Nat.le_refl _)
  rw[getD_lt h2] at this
  exact this.symm
 ·rfl
theorem s_l01Sorted:Fz62.S (cl PL sortB):=Fz62.of_cl s_spec_Compare fun l h k=>by
 have hl:l.length≤1073741824:=h
 unfold Fz62.pf
 simp only[List.nil_append,List.length_nil]
 rw[okS (by omega),cond_true]
 match hq:l with
 |[]=>
  refine iter_to (fun _=>(1,[])) 0 (by rfl) (big_lt (by omega)) (fun k hk=>absurd hk (Nat.not_lt_zero _)) fun rec=>?_
  unfold Fz62.B1
  rfl
 |y::l'=>
  rw[←hq] at hl ⊢
  have hpos:1≤l.length:=by rw[hq];simp
  have h1:sortB (l.take 1)++l.drop 1=l:=by rw[hq];rfl
  have:=iter_fold (B:=Fz62.B1 (tot cmpB) BIG l fun (x1:Int×List DB)=>k x1.2) l (fun p (c:List DB)=>((p:Int),c)) (fun _ _=>k (sortB l)) (fun p c=>1≤p∧c=sortB (l.take p)++l.drop p) ?_ ?_ (l.length-1) 1 l BIG (by omega) (big_lt (by omega)) ⟨by omega,h1.symm⟩
  ·exact this
  ·rintro p hp c rec ⟨hp1,rfl⟩ hrec
   unfold Fz62.B1
   have ho:(sortB (l.take p)).length=p:=by rw[sortB_len,List.length_take];omega
   have e0:sortB (l.take p)++l.drop p=amd (sortB (l.take p)) l[p] p (l.drop (p+1)):=by
    unfold amd
    have t1:(sortB (l.take p)).take p=sortB (l.take p):=List.take_of_length_le (by omega)
    have t2:(sortB (l.take p)).drop p=[]:=List.drop_eq_nil_of_le (by omega)
    rw[t1,t2,List.nil_append,drop_cons hp]
   have hlen:(sortB (l.take p)++l.drop p).length=l.length:=by rw[List.length_append,ho,List.length_drop];omega
   simp only[hlen,decT (show (p:Int)<(l.length:Int) by omega),inB_nat (show p<l.length by omega),cond_true,Int.toNat_natCast]
   have hx:(sortB (l.take p)++l.drop p).getD p (0,0)=l[p]:=by
    rw[e0]
    exact amd_at _ _ _ _ _ (by omega)
   rw[hx,e0]
   have e1:=srtB2 (p:Int) l (sortB (l.take p)) l[p] (l.drop (p+1)) (by omega) (fun c=>rec (IntKind.i64.wrap ((p:Int)+1),c))
    (fun (x2:Int×List DB)=>cond (inB x2.1 (List.length x2.2)) (rec (((IntKind.i64.wrap ((p:Int)+1)),(List.set x2.2 x2.1.toNat l[p])))) none)
    (fun (x2:Int×List DB) (_:Int)=>cond (inB x2.1 (List.length x2.2)) (rec (((IntKind.i64.wrap ((p:Int)+1)),(List.set x2.2 x2.1.toNat l[p])))) none)
    (fun j c hj=>by simp only[inB_nat hj,cond_true,Int.toNat_natCast]) (fun j c r hj=>by simp only[inB_nat hj,cond_true,Int.toNat_natCast])
   rw[ho] at e1
   refine e1.trans ?_
   simp only[w64n (show p<9223372036854775807 by omega)]
   refine hrec _ ⟨by omega,?_⟩
   rw[sortB_take l hp]
   unfold amd putB
   rw[ho,List.append_assoc,List.cons_append]
  ·rintro c rec ⟨_,rfl⟩
   unfold Fz62.B1
   have hlen:(sortB (l.take l.length)++l.drop l.length).length=l.length:=by rw[List.take_length,List.drop_length,List.append_nil,sortB_len]
   rw[decF (by simp only[hlen];omega)]
   simp
theorem bLt_iff(x y:DB):bLt x y=true↔x.1<y.1∨(x.1=y.1∧x.2<y.2):=by
 unfold bLt
 simp
def leB(x y:DB):Prop:=bLt y x=false
theorem leB_iff(x y:DB):leB x y↔¬(y.1<x.1∨(y.1=x.1∧y.2<x.2)):=by
 unfold leB
 rw[←bLt_iff]
 simp
theorem leB_trans{x y z:DB}(h1:leB x y)(h2:leB y z):leB x z:=by
 rw[leB_iff] at *
 omega
theorem leB_refl(x:DB):leB x x:=by
 rw[leB_iff]
 omega
theorem leB_anti{x y:DB}(h1:leB x y)(h2:leB y x):x=y:=by
 rw[leB_iff] at *
 refine Prod.ext ?_ ?_<;>omega
theorem leB_of_lt{x y:DB}(h:bLt x y=true):leB x y:=by
 rw[leB_iff]
 rw[bLt_iff] at h
 omega
theorem spotB_spec(o:List DB)(x:DB):∀j,j≤o.length→(∀i,spotB o x j≤i→i<j→bLt x (o.getD i (0,0))=true)∧(∀i,i+1=spotB o x j→bLt x (o.getD i (0,0))=false)
 |0,_=>⟨fun i _ h=>absurd h (Nat.not_lt_zero i),fun i h=>by simp[spotB] at h⟩
 |j+1,h=>by
  obtain⟨h1,h2⟩:=spotB_spec o x j (by omega)
  unfold spotB
  split
  ·rename_i c
   refine⟨fun i hi hj=>?_,h2⟩
   rcases Nat.lt_or_ge i j with q|q
   ·exact h1 i hi q
   ·obtain rfl:i=j:=by omega
    exact c
  ·rename_i c
   refine⟨fun i hi hj=>by omega,fun i hi=>?_⟩
   obtain rfl:i=j:=by omega
   simpa using c
def SortedB(l:List DB):Prop:=l.Pairwise leB
theorem SortedB.get{l:List DB}(h:SortedB l){i j:Nat}(hij:i≤j)(hj:j<l.length):leB (l.getD i (0,0)) (l.getD j (0,0)):=by
 rcases Nat.lt_or_eq_of_le hij with q|rfl
 ·rw[getD_lt (by omega:i<l.length),getD_lt hj]
  exact List.pairwise_iff_getElem.1 h i j (by omega) hj q
 ·exact leB_refl _
theorem putB_sorted{o:List DB}{x:DB}(h:SortedB o):SortedB (putB o x):=by
 obtain⟨h1,h2⟩:=spotB_spec o x o.length (Nat.le_refl _)
 have hk:=spotB_le o x o.length
 unfold putB
 generalize spotB o x o.length=k at *
 have ht:∀a,a∈o.take k→leB a x:=by
  intro a ha
  obtain⟨i,hi,rfl⟩:=List.mem_iff_getElem.1 ha
  rw[List.length_take] at hi
  rw[List.getElem_take]
  have h3:=h2 (k-1) (by omega)
  have h4:=h.get (i:=i) (j:=k-1) (by omega) (by omega)
  rw[getD_lt (by omega:i<o.length)] at h4
  exact leB_trans h4 h3
 have hd:∀b,b∈o.drop k→leB x b:=by
  intro b hb
  obtain⟨i,hi,rfl⟩:=List.mem_iff_getElem.1 hb
  rw[List.length_drop] at hi
  rw[List.getElem_drop]
  have h3:=h1 (k+i) (by omega) (by omega)
  rw[getD_lt (by omega:k+i<o.length)] at h3
  exact leB_of_lt h3
 unfold SortedB at *
 rw[List.pairwise_append,List.pairwise_cons]
 rw[←List.take_append_drop k o,List.pairwise_append] at h
 refine⟨h.1,⟨hd,h.2.1⟩,fun a ha b hb=>?_⟩
 rcases List.mem_cons.1 hb with rfl|hb
 ·exact ht a ha
 ·exact h.2.2 a ha b hb
theorem sortB_sorted(l:List DB):SortedB (sortB l):=by
 have key:∀(l o:List DB),SortedB o→SortedB (l.foldl putB o):=by
  intro l
  induction l with
  |nil=>intro o h;exact h
  |cons x l ih=>intro o h;exact ih _ (putB_sorted h)
 exact key l [] List.Pairwise.nil
def cmpGo{β:Type}[DecidableEq β](p:β):List β→List β
 |[]=>[]
 |x::l=>if x=p then cmpGo p l else x::cmpGo x l
def compact{β:Type}[DecidableEq β]:List β→List β
 |[]=>[]
 |x::l=>x::cmpGo x l
theorem cmpGo_snoc{β:Type}[DecidableEq β](x d:β):∀(l:List β) (p:β),cmpGo p (l++[x])=cmpGo p l++if x=(p::l).getLastD d then [] else [x]
 |[],p=>by
  simp only[List.nil_append,cmpGo,List.getLastD_cons]
  rfl
 |y::l,p=>by
  rw[List.cons_append,cmpGo,cmpGo]
  have e:∀q,(q::y::l).getLastD d=(y::l).getLastD d:=fun q=>rfl
  split
  ·rename_i h
   subst h
   rw[cmpGo_snoc x d l y,e]
  ·rw[cmpGo_snoc x d l y,e]
   rfl
theorem compact_succ{β:Type}[DecidableEq β](d:β){l:List β}{j:Nat}(h:j+1<l.length):compact (l.take (j+2))=compact (l.take (j+1))++if l.getD (j+1) d=l.getD j d then [] else [l.getD (j+1) d]:=by
 match l,h with
 |x::l,h=>
  have hj:j<l.length:=by simpa using h
  rw[List.take_succ_cons,List.take_succ_cons,compact,compact,List.take_succ_eq_append_getElem hj,cmpGo_snoc l[j] d]
  have e1:(x::l).getD (j+1) d=l[j]:=by rw[getD_lt h];rfl
  have e2:(x::l.take j).getLastD d=(x::l).getD j d:=by
   rw[List.getLastD_eq_getLast?,List.getLast?_eq_getElem?,List.getD_eq_getElem?_getD]
   simp only[List.length_cons,List.length_take,Nat.min_eq_left (Nat.le_of_lt hj),Nat.add_sub_cancel]
   congr 1
   cases j with
   |zero=>rfl
   |succ j=>rw[List.getElem?_cons_succ,List.getElem?_cons_succ,List.getElem?_take_of_lt (by omega)]
  rw[e1,e2]
  rfl
theorem compact_one{β:Type}[DecidableEq β]{l:List β}(h:0<l.length):compact (l.take 1)=l.take 1:=by
 match l,h with
 |x::l,_=>rfl
theorem cmpGo_nil{β:Type}[DecidableEq β](p:β):∀l:List β,cmpGo p l=[]↔∀x,x∈l→x=p
 |[]=>by simp[cmpGo]
 |x::l=>by
  unfold cmpGo
  split
  ·rename_i h
   rw[cmpGo_nil p l]
   simp[h]
  ·rename_i h
   simp[h]
theorem compact_le1{β:Type}[DecidableEq β](l:List β):(compact l).length≤1↔∀x,x∈l→∀y,y∈l→x=y:=by
 match l with
 |[]=>simp[compact]
 |x::l=>
  have e:(compact (x::l)).length≤1↔cmpGo x l=[]:=by
   simp only[compact,List.length_cons]
   rw[←List.length_eq_zero_iff]
   omega
  rw[e,cmpGo_nil]
  constructor
  ·intro h y hy z hz
   have h':∀y,y∈x::l→y=x:=fun y hy=>by
    rcases List.mem_cons.1 hy with rfl|hy
    ·rfl
    ·exact h y hy
   rw[h' y hy,h' z hz]
  ·intro h y hy
   exact h y (List.mem_cons_of_mem _ hy) x (List.mem_cons_self ..)
def compV{β:Type}[DecidableEq β](d:β)(l:List β):Option (Nat×Nat)×List β:=
 if (compact l).length=l.length then (none,l) else (some (0,(compact l).length),compact l++List.replicate (l.length-(compact l).length) d)
theorem compact_same{β:Type}[DecidableEq β](d:β)(l:List β):∀j,j<l.length→(∀i,i<j→l.getD (i+1) d≠l.getD i d)→compact (l.take (j+1))=l.take (j+1)
 |0,h,_=>compact_one h
 |j+1,h,hne=>by
  rw[compact_succ d h,compact_same d l j (by omega) (fun i hi=>hne i (by omega)),if_neg (hne j (by omega)),List.take_succ_eq_append_getElem h,getD_lt h]
theorem compV_len{β:Type}[DecidableEq β](d:β)(l:List β):Win.len (compV d l).1 (compV d l).2=(compact l).length:=by
 unfold compV
 split
 ·rename_i h;exact h.symm
 ·rfl
theorem notDT{p:Prop}[Decidable p](h:p):(!decide p)=false:=by rw[decT h];rfl
theorem notDF{p:Prop}[Decidable p](h:¬p):(!decide p)=true:=by rw[decF h];rfl
theorem s_compactB:Fz36.S (cl PL (compV ((0,0):DB))):=Fz36.of_cl fun l h k=>by
 have hl:l.length≤1073741824:=h
 unfold Fz36.pf
 by_cases c2:(l.length:Int)<2
 ·rw[decT c2,cond_true]
  have e:compV ((0,0):DB) l=(none,l):=by
   unfold compV
   match l,c2 with
   |[],_=>rfl
   |[x],_=>rfl
   |x::y::l,c2=>simp at c2;omega
  rw[e]
 ·rw[decF c2,cond_false]
  have key:∀(n j:Nat) (fuel:Nat),j+n=l.length→1≤j→n<fuel→(∀i,i+1<j→l.getD (i+1) ((0,0):DB)≠l.getD i ((0,0):DB)) →
    iter (Fz36.B1 BIG l (fun (x1:Int) (x2:(Int×Int×(List DB)))=>k ((some (0,(x2.1-(0:Int)).toNat)),(overL x2.2.2 x2.1.toNat (List.replicate ((((List.length x2.2.2):Nat):Int)-x2.1).toNat ((0,0):DB))))) (fun (x1:Int)=>k ((none:Option (Nat×Nat)),l))) fuel (j:Int)=k (compV ((0,0):DB) l):=by
   intro n
   induction n with
   |zero=>
    intro j fuel hj h1 hf hne
    match fuel,hf with
    |f+1,_=>
     show Fz36.B1 _ _ _ _ _ _=_
     unfold Fz36.B1
     rw[decF (by omega),cond_false]
     have e:=compact_same ((0,0):DB) l (l.length-1) (by omega) (fun i hi=>hne i (by omega))
     rw[show l.length-1+1=l.length by omega,List.take_of_length_le (Nat.le_refl _)] at e
     unfold compV
     rw[e,if_pos rfl]
   |succ n ih=>
    intro j fuel hj h1 hf hne
    match fuel,hf with
    |f+1,hf=>
     have hjl:j<l.length:=by omega
     have ej:IntKind.i64.wrap ((j:Int)-1)=((j-1:Nat):Int):=by rw[w64 (by omega) (by omega)];omega
     show Fz36.B1 _ _ _ _ (iter _ f) _=_
     generalize hR:iter (Fz36.B1 BIG l (fun (x1:Int) (x2:(Int×Int×(List DB)))=>k ((some (0,(x2.1-(0:Int)).toNat)),(overL x2.2.2 x2.1.toNat (List.replicate ((((List.length x2.2.2):Nat):Int)-x2.1).toNat ((0,0):DB))))) (fun (x1:Int)=>k ((none:Option (Nat×Nat)),l))) f=R
     unfold Fz36.B1
     simp only[decT (show (j:Int)<(l.length:Int) by omega),inB_nat hjl,ej,inB_nat (show j-1<l.length by omega),cond_true,Int.toNat_natCast,eqB]
     by_cases c:l.getD j ((0,0):DB)=l.getD (j-1) ((0,0):DB)
     ·rw[decT c,cond_true,inW_true (by omega) (by omega) (by omega),cond_true]
      have etk:compact (l.take j)=l.take j:=by
       have:=compact_same ((0,0):DB) l (j-1) (by omega) (fun i hi=>hne i (by omega))
       rwa[show j-1+1=j by omega] at this
      have etk1:compact (l.take (j+1))=l.take j:=by
       have:=compact_succ ((0,0):DB) (l:=l) (j:=j-1) (by omega)
       rw[show j-1+2=j+1 by omega,show j-1+1=j by omega,if_pos c,List.append_nil,etk] at this
       exact this
      have:=iter_fold (B:=Fz36.B2 j (((l.length:Int)-(j:Int)).toNat) (fun (x2:(Int×Int×(List DB)))=>cond (inW x2.1 (((List.length x2.2.2):Nat):Int) (List.length x2.2.2)) (cond (inW (0:Int) x2.1 (List.length (overL x2.2.2 x2.1.toNat (List.replicate ((((List.length x2.2.2):Nat):Int)-x2.1).toNat ((0,0):DB))))) (k ((some (0,(x2.1-(0:Int)).toNat)),(overL x2.2.2 x2.1.toNat (List.replicate ((((List.length x2.2.2):Nat):Int)-x2.1).toNat ((0,0):DB))))) none) none))
       l (fun p (c:List DB)=>(((compact (l.take p)).length:Int),((p-j:Nat):Int),c)) (fun _ _=>k (compV ((0,0):DB) l)) (fun p c=>j+1≤p∧c.length=l.length∧c.drop (p-1)=l.drop (p-1)∧c.take (compact (l.take p)).length=compact (l.take p)∧(compact (l.take p)).length<p) ?_ ?_ (l.length-(j+1)) (j+1) l BIG (by omega) (big_lt (by omega)) ⟨Nat.le_refl _,rfl,rfl,?_,?_⟩
      ·have el:(List.take j l).length=j:=by rw[List.length_take];omega
       simp only[etk1,el] at this
       rw[show ((j+1-j:Nat):Int)=1 by omega] at this
       exact this
      ·rintro p hp c' rec ⟨hp1,e1,e2,e3,e4⟩ hrec
       have hpc:p<c'.length:=by omega
       have g0:c'.getD (p-1) ((0,0):DB)=l.getD (p-1) ((0,0):DB):=by
        have:=congrArg (fun z=>z.getD 0 ((0,0):DB)) e2
        simpa[List.getD_eq_getElem?_getD] using this
       have g1:c'.getD p ((0,0):DB)=l.getD p ((0,0):DB):=by
        have:=congrArg (fun z=>z.getD 1 ((0,0):DB)) e2
        simpa[List.getD_eq_getElem?_getD,show p-1+1=p by omega] using this
       have es:compact (l.take (p+1))=compact (l.take p)++if l.getD p ((0,0):DB)=l.getD (p-1) ((0,0):DB) then [] else [l.getD p ((0,0):DB)]:=by
        have:=compact_succ ((0,0):DB) (l:=l) (j:=p-1) (by omega)
        rwa[show p-1+2=p+1 by omega,show p-1+1=p by omega] at this
       unfold Fz36.B2
       have en:(((l.length:Int)-(j:Int)).toNat)=l.length-j:=by omega
       have ep:IntKind.i64.wrap (((p-j:Nat):Int)-1)=((p-1-j:Nat):Int):=by rw[w64 (by omega) (by omega)];omega
       simp only[en,ep,decT (show ((p-j:Nat):Int)<((l.length-j:Nat):Int) by omega),inB_nat (show p-j<l.length-j by omega),inB_nat (show p-1-j<l.length-j by omega),cond_true,Int.toNat_natCast,show j+(p-j)=p by omega,show j+(p-1-j)=p-1 by omega,g0,g1,eqB,w64n (show p-j<9223372036854775807 by omega)]
       rw[show p-j+1=p+1-j by omega]
       by_cases cc:l.getD p ((0,0):DB)=l.getD (p-1) ((0,0):DB)
       ·rw[if_pos cc,List.append_nil] at es
        rw[notDT cc,cond_false]
        have:=hrec c' ⟨by omega,e1,by
         have:=congrArg (List.drop 1) e2
         rw[List.drop_drop,List.drop_drop] at this
         rwa[show p-1+1=p+1-1 by omega] at this,by rw[es];exact e3,by rw[es];omega⟩
        rw[es] at this
        exact this
       ·rw[if_neg cc] at es
        have el:(compact (l.take (p+1))).length=(compact (l.take p)).length+1:=by rw[es];simp
        have hm:(compact (l.take p)).length<c'.length:=by omega
        rw[notDF cc,cond_true,inB_nat hm,cond_true,w64n (show (compact (l.take p)).length<9223372036854775807 by omega)]
        have:=hrec (c'.set (compact (l.take p)).length (l.getD p ((0,0):DB))) ⟨by omega,by simpa using e1,by
         rw[List.drop_set_of_lt (by omega)]
         have:=congrArg (List.drop 1) e2
         rw[List.drop_drop,List.drop_drop] at this
         rwa[show p-1+1=p+1-1 by omega] at this,by
         rw[el,take_set hm,e3,es],by omega⟩
        rw[el] at this
        exact this
      ·rintro c' rec ⟨hp1,e1,e2,e3,e4⟩
       have eT:l.take l.length=l:=List.take_of_length_le (Nat.le_refl _)
       simp only[eT] at e3 e4 ⊢
       unfold Fz36.B2
       rw[decF (by simp only;omega)]
       simp only[cond_false,e1]
       rw[inW_true (by omega) (by omega) (by omega),cond_true]
       have e5:overL c' (((compact l).length:Nat):Int).toNat (List.replicate ((((l.length:Nat):Int))-(((compact l).length:Nat):Int)).toNat ((0,0):DB))=compact l++List.replicate (l.length-(compact l).length) ((0,0):DB):=by
        unfold overL
        rw[Int.toNat_natCast,e3,List.drop_eq_nil_of_le (by simp;omega),List.append_nil]
        congr 2
        omega
       rw[e5,inW_true (by omega) (by omega) (by simp;omega),cond_true]
       unfold compV
       rw[if_neg (by omega)]
       congr 3
      ·rw[etk1,List.length_take,Nat.min_eq_left (by omega)]
      ·rw[etk1,List.length_take];omega
     ·rw[decF c,cond_false,w64n (by omega),←hR]
      exact ih (j+1) f (by omega) (by omega) (by omega) (fun i hi=>by
       rcases Nat.lt_or_ge (i+1) j with q|q
       ·exact hne i q
       ·obtain rfl:i+1=j:=by omega
        exact c)
  exact key (l.length-1) 1 BIG (by omega) (by omega) (big_lt (by omega)) (fun i hi=>by omega)
def oneB(l:List DB):Bool:=decide ((compact (sortB l)).length≤1)
theorem oneB_iff(l:List DB):oneB l=true↔∀x,x∈l→x=l.getD 0 (0,0):=by
 unfold oneB
 rw[decide_eq_true_iff,compact_le1]
 have hm:∀x,x∈sortB l↔x∈l:=fun x=>(sortB_perm l).mem_iff
 constructor
 ·intro h x hx
  match l,hx,hm,h with
  |y::l,hx,hm,h=>exact h x ((hm x).2 hx) y ((hm y).2 (List.mem_cons_self ..))
 ·intro h x hx y hy
  rw[h x ((hm x).1 hx),h y ((hm y).1 hy)]
def mixedIn(s:List (List DB)):Int×Int:=if stackOk s=true then (countI (fun c=>!oneB (allB c)) s,0) else (0,1)
def addRun(o:List DS)(b:DB):List DS:=match o.getLast? with
 |some x=>if x.1=b then o.dropLast++[(b,x.2+1)] else o++[(b,1)]
 |none=>[(b,1)]
def runs(l:List DB):List DS:=l.foldl addRun []
theorem runs_take(l:List DB){p:Nat}(h:p<l.length):runs (l.take (p+1))=addRun (runs (l.take p)) l[p]:=by
 unfold runs
 rw[List.take_succ_eq_append_getElem h,List.foldl_append]
 rfl
theorem addRun_last(o:List DS)(b:DB):∃q n,addRun o b=q++[(b,n)]:=by
 unfold addRun
 split
 ·split
  ·exact⟨_,_,rfl⟩
  ·exact⟨_,_,rfl⟩
 ·exact⟨[],1,rfl⟩
theorem runs_last(l:List DB){p:Nat}(h:p<l.length):∃q n,runs (l.take (p+1))=q++[(l[p],n)]:=by
 rw[runs_take l h]
 exact addRun_last _ _
theorem runs_bd(l:List DB):∀p,p≤l.length→(runs (l.take p)).length≤p∧∀x,x∈runs (l.take p)→0≤x.2∧x.2≤p
 |0,_=>by simp[runs]
 |p+1,h=>by
  obtain⟨h1,h2⟩:=runs_bd l p (by omega)
  rw[runs_take l h]
  generalize runs (l.take p)=o at *
  unfold addRun
  split
  ·rename_i y hy
   have hm:y∈o:=List.mem_of_getLast? hy
   have hb:=h2 y hm
   have ho:0<o.length:=List.length_pos_of_mem hm
   split
   ·refine⟨by simp;omega,fun x hx=>?_⟩
    rcases List.mem_append.1 hx with hx|hx
    ·have:=h2 x ((List.dropLast_prefix _).subset hx);omega
    ·obtain rfl:=List.mem_singleton.1 hx
     simp only;omega
   ·refine⟨by simp;omega,fun x hx=>?_⟩
    rcases List.mem_append.1 hx with hx|hx
    ·have:=h2 x hx;omega
    ·obtain rfl:=List.mem_singleton.1 hx
     simp only;omega
  ·refine⟨by simp,fun x hx=>?_⟩
   obtain rfl:=List.mem_singleton.1 hx
   simp only;omega
theorem snoc_set{β:Type}(q:List β)(x y:β):(q++[x]).set q.length y=q++[y]:=by
 rw[List.set_append_right _ _ (Nat.le_refl _),Nat.sub_self]
 rfl
theorem snoc_getD{β:Type}(q:List β)(x d:β):(q++[x]).getD q.length d=x:=by
 rw[List.getD_eq_getElem?_getD,List.getElem?_append_right (Nat.le_refl _),Nat.sub_self]
 rfl
theorem s_l01Counts:Fz57.S (cl PL runs):=Fz57.of_cl fun l h k=>by
 have hl:l.length≤1073741824:=h
 unfold Fz57.pf
 refine iter_list l (fun p (o:List DS)=>((p:Int),o)) (fun _ _=>k (runs l)) (fun p o=>o=runs (l.take p)) (c:=[]) rfl (big_lt (by omega)) rfl ?_ ?_
 ·rintro p hp o rec rfl hrec
  obtain⟨b1,b2⟩:=runs_bd l p (by omega)
  have hr:=runs_take l hp
  have hnew:∀o:List DS,o.length≤p→((((o++[(l[p],(0:Int))]).length:Nat):Int)-1=(o.length:Int)):=fun o ho=>by simp
  unfold Fz57.B1
  have app:∀o:List DS,o.length≤p→rec (((p+1:Nat):Int),o++[(l[p],1)])=(cond (okL (List.length o+List.length [(l[p],(0:Int))])) (cond (inB (IntKind.i64.wrap ((((List.length (o++[(l[p],(0:Int))])):Nat):Int)-1)) (List.length (o++[(l[p],(0:Int))]))) (cond (inB (IntKind.i64.wrap ((((List.length (o++[(l[p],(0:Int))])):Nat):Int)-1)) (List.length (o++[(l[p],(0:Int))]))) (rec (((p+1:Nat):Int),(List.set (o++[(l[p],(0:Int))]) (IntKind.i64.wrap ((((List.length (o++[(l[p],(0:Int))])):Nat):Int)-1)).toNat ((List.getD (o++[(l[p],(0:Int))]) (IntKind.i64.wrap ((((List.length (o++[(l[p],(0:Int))])):Nat):Int)-1)).toNat ((0,0),0)).1,(IntKind.i64.wrap ((List.getD (o++[(l[p],(0:Int))]) (IntKind.i64.wrap ((((List.length (o++[(l[p],(0:Int))])):Nat):Int)-1)).toNat ((0,0),0)).2+1)))))) none) none) none):=fun o ho=>by
   rw[okS (by simp;omega),hnew o ho,w64 (by omega) (by omega),inB_nat (by simp)]
   simp only[cond_true,Int.toNat_natCast,snoc_getD,snoc_set]
   rw[w64 (by omega) (by omega)]
   rfl
  by_cases c:p=0
  ·subst c
   have e0:runs (l.take 0)=[]:=rfl
   simp only[decT (show ((0:Nat):Int)<(l.length:Int) by omega),inB_nat hp,cond_true,Int.toNat_natCast,getD_lt hp,e0,w64n (show 0<9223372036854775807 by omega),beqT (show ((0:Nat):Int)=0 from rfl)]
   refine (app [] (Nat.le_refl _)).symm.trans ?_
   exact hrec _ (by rw[hr,e0];rfl)
  ·have ep:IntKind.i64.wrap ((p:Int)-1)=((p-1:Nat):Int):=by rw[w64 (by omega) (by omega)];omega
   have hp1:p-1<l.length:=by omega
   obtain⟨q,n,hq⟩:=runs_last l hp1
   rw[show p-1+1=p by omega] at hq
   rw[beqF (by omega)]
   simp only[decT (show (p:Int)<(l.length:Int) by omega),inB_nat hp,ep,inB_nat hp1,cond_true,cond_false,Int.toNat_natCast,getD_lt hp,getD_lt hp1,eqB,w64n (show p<9223372036854775807 by omega)]
   by_cases cc:l[p]=l[p-1]
   ·rw[notDT cc,cond_false]
    have hlen:(((runs (l.take p)).length:Nat):Int)-1=(q.length:Int):=by rw[hq];simp
    have hn:=b2 (l[p-1],n) (by rw[hq];simp)
    simp only at hn
    rw[hlen,w64 (by omega) (by rw[hq] at b1;simp at b1;omega),inB_nat (by rw[hq];simp)]
    simp only[cond_true,Int.toNat_natCast]
    rw[hq,snoc_getD,snoc_set]
    simp only
    rw[w64 (by omega) (by omega)]
    refine hrec _ ?_
    rw[hr,hq]
    unfold addRun
    simp[cc]
   ·rw[notDF cc,cond_true]
    refine (app _ b1).symm.trans (hrec _ ?_)
    rw[hr,hq]
    unfold addRun
    simp
    exact fun e=>absurd e.symm cc
 ·rintro o rec rfl
  unfold Fz57.B1
  rw[decF (by simp),List.take_of_length_le (Nat.le_refl _)]
  rfl
theorem countI_append{β:Type}(p:β→Bool):∀(a b:List β),countI p (a++b)=countI p a+countI p b
 |[],b=>by simp[countI]
 |x::a,b=>by rw[List.cons_append,countI,countI,countI_append p a b,Int.add_assoc]
theorem countI_perm{β:Type}(p:β→Bool){a b:List β}(h:a.Perm b):countI p a=countI p b:=by
 induction h with
 |nil=>rfl
 |cons x _ ih=>rw[countI,countI,ih]
 |swap x y l=>rw[countI,countI,countI,countI];omega
 |trans _ _ h1 h2=>rw[h1,h2]
theorem countI_zero{β:Type}(p:β→Bool):∀(l:List β),(∀x,x∈l→p x=false)→countI p l=0
 |[],_=>rfl
 |x::l,h=>by
  rw[countI,h x (List.mem_cons_self ..),countI_zero p l (fun y hy=>h y (List.mem_cons_of_mem _ hy))]
  rfl
abbrev cntB(b:DB)(l:List DB):Int:=countI (fun y=>decide (y=b)) l
def tally(l:List DB):List DS:=(compact l).map fun b=>(b,cntB b l)
theorem sorted_last{l:List DB}(h:SortedB l){p:Nat}(hp:p+1<l.length)(hm:l[p+1]∈l.take (p+1)):l[p+1]=l[p]:=by
 obtain⟨i,hi,e⟩:=List.mem_iff_getElem.1 hm
 rw[List.length_take] at hi
 rw[List.getElem_take] at e
 have h1:=h.get (i:=i) (j:=p) (by omega) (by omega)
 have h2:=h.get (i:=p) (j:=p+1) (by omega) hp
 rw[getD_lt (by omega:i<l.length),getD_lt (by omega:p<l.length),e] at h1
 rw[getD_lt (by omega:p<l.length),getD_lt hp] at h2
 exact leB_anti h1 h2
theorem compact_sub{β:Type}[DecidableEq β]:∀(l:List β) (x:β),x∈compact l→x∈l:=by
 have key:∀(l:List β) (p x:β),x∈cmpGo p l→x∈l:=by
  intro l
  induction l with
  |nil=>intro p x h;cases h
  |cons y l ih=>
   intro p x h
   unfold cmpGo at h
   split at h
   ·exact List.mem_cons_of_mem _ (ih p x h)
   ·rcases List.mem_cons.1 h with rfl|h
    ·exact List.mem_cons_self ..
    ·exact List.mem_cons_of_mem _ (ih y x h)
 intro l x h
 match l,h with
 |y::l,h=>
  rcases List.mem_cons.1 h with rfl|h
  ·exact List.mem_cons_self ..
  ·exact List.mem_cons_of_mem _ (key l y x h)
theorem compact_last{β:Type}[DecidableEq β](d:β)(l:List β):∀p,p<l.length→∃q,compact (l.take (p+1))=q++[l.getD p d]∧compact (l.take p)=(if p=0 then [] else compact (l.take p))
 |0,h=>⟨[],by
   match l,h with
   |x::l,_=>rfl,by simp[compact]⟩
 |p+1,h=>by
  obtain⟨q,h1,_⟩:=compact_last d l p (by omega)
  rw[compact_succ d h]
  by_cases c:l.getD (p+1) d=l.getD p d
  ·rw[if_pos c,List.append_nil,h1,c];exact⟨q,rfl,by simp⟩
  ·rw[if_neg c];exact⟨_,rfl,by simp⟩
theorem runs_tally(l:List DB)(h:SortedB l):∀p,p≤l.length→runs (l.take p)=tally (l.take p)
 |0,_=>rfl
 |1,h1=>by
  match l,h1 with
  |x::l,_=>simp[runs,tally,addRun,compact,cmpGo,countI]
 |p+2,hp=>by
  have ih:=runs_tally l h (p+1) (by omega)
  have hp1:p+1<l.length:=by omega
  have hp0:p<l.length:=by omega
  rw[runs_take l hp1,ih]
  have hc:=compact_succ (0,0) hp1
  obtain⟨q,hq,_⟩:=compact_last (0,0) l p hp0
  rw[getD_lt hp1,getD_lt hp0] at hc
  rw[getD_lt hp0] at hq
  have ht:l.take (p+2)=l.take (p+1)++[l[p+1]]:=List.take_succ_eq_append_getElem hp1
  have hcnt:∀b,cntB b (l.take (p+2))=cntB b (l.take (p+1))+cond (decide (l[p+1]=b)) 1 0:=fun b=>by
   rw[cntB,ht,countI_append]
   simp[countI]
  unfold tally
  rw[hc]
  by_cases c:l[p+1]=l[p]
  ·rw[if_pos c,List.append_nil,hq,List.map_append,List.map_append]
   have hnd:∀b,b∈q→l[p+1]≠b:=fun b hb e=>by
    have key:∀j,j≤l.length→(compact (l.take j)).Nodup:=by
     intro j
     induction j with
     |zero=>intro _;simp[compact]
     |succ j ihj=>
      intro hj
      match j,ihj,hj with
      |0,_,hj=>
       match l,hj with
       |x::l,_=>simp[compact,cmpGo]
      |j+1,ihj,hj=>
       rw[compact_succ (0,0) (by omega)]
       split
       ·rw[List.append_nil];exact ihj (by omega)
       ·rename_i hne
        rw[List.nodup_append]
        refine⟨ihj (by omega),by simp,fun a ha b hb=>?_⟩
        obtain rfl:=List.mem_singleton.1 hb
        intro e
        have hm:=compact_sub _ _ ha
        rw[e,getD_lt (by omega:j+1<l.length)] at hm
        have:=sorted_last h (by omega) hm
        rw[getD_lt (by omega:j+1<l.length),getD_lt (by omega:j<l.length)] at hne
        exact hne this
    have:=key (p+1) (by omega)
    rw[hq,List.nodup_append] at this
    exact this.2.2 b hb l[p] (by simp) (by rw[←e,c])
   unfold addRun
   simp only[List.map_cons,List.map_nil,List.getLast?_concat,List.dropLast_concat]
   rw[if_pos c.symm,hcnt]
   have e1:q.map (fun b=>(b,cntB b (l.take (p+1))))=q.map (fun b=>(b,cntB b (l.take (p+2)))):=by
    refine List.map_congr_left fun b hb=>?_
    rw[hcnt,decF (hnd b hb)]
    simp
   rw[e1,decT c,c]
   rfl
  ·rw[if_neg c,List.map_append]
   have hnm:l[p+1]∉l.take (p+1):=fun hm=>c (sorted_last h hp1 hm)
   have e1:(compact (l.take (p+1))).map (fun b=>(b,cntB b (l.take (p+1))))=(compact (l.take (p+1))).map (fun b=>(b,cntB b (l.take (p+2)))):=by
    refine List.map_congr_left fun b hb=>?_
    rw[hcnt,decF (fun e=>hnm (by rw[e];exact compact_sub _ _ hb))]
    simp
   have e2:cntB l[p+1] (l.take (p+2))=1:=by
    rw[hcnt,decT rfl]
    have:cntB l[p+1] (l.take (p+1))=0:=countI_zero _ _ fun x hx=>decF (fun e=>hnm (by rw[←e];exact hx))
    rw[this]
    rfl
   unfold addRun
   rw[hq] at *
   simp only[List.map_append,List.map_cons,List.map_nil,List.getLast?_concat,if_neg (fun e=>c (Eq.symm e)),e2]
   rw[←List.map_singleton (f:=fun b=>(b,cntB b (l.take (p+1)))),←List.map_append,e1,List.map_append]
   rfl
theorem cntB_all{b:DB}(hb:b≠(0,0)):∀c:List DB,cntB b (allB c)=cntB b c
 |[]=>rfl
 |x::c=>by
  have ih:=cntB_all hb c
  unfold cntB allB at *
  rw[List.filter_cons]
  by_cases q:x=(0,0)
  ·simp only[q,decide_true,Bool.not_true,Bool.false_eq_true,if_false,countI]
   rw[decF (fun e=>hb e.symm),ih]
   simp
  ·simp only[decF q,Bool.not_false,if_true,countI,ih]
abbrev zB:DB:=(0,0)
theorem eqC{a b:List DB}(ha:Cr a)(hb:Cr b):eqV (.arr 12 (.st (.pair (.int .u8) (.int .i16)))) a b=decide (a=b):=by
 have ha:a.length=12:=ha
 have hb:b.length=12:=hb
 show ((List.range 12).all fun i=>eqV (.st (.pair (.int .u8) (.int .i16))) (List.getD a i zB) (List.getD b i zB))=decide (a=b)
 rw[Bool.eq_iff_iff,List.all_eq_true,decide_eq_true_iff]
 constructor
 ·intro h
  refine List.ext_getElem (by omega) fun i h1 h2=>?_
  have:=h i (List.mem_range.2 (by omega))
  rw[eqB,getD_lt h1,getD_lt h2] at this
  exact of_decide_eq_true this
 ·rintro rfl i _
  rw[eqB,decT rfl]
def idxs{β:Type}(p:β→Bool):Nat→List β→List Int
 |_,[]=>[]
 |k,x::l=>if p x=true then (k:Int)::idxs p (k+1) l else idxs p (k+1) l
theorem idxs_len{β:Type}(p:β→Bool):∀(l:List β) (k:Nat),(idxs p k l).length≤l.length
 |[],_=>Nat.le_refl 0
 |x::l,k=>by
  have:=idxs_len p l (k+1)
  unfold idxs
  split<;>simp<;>omega
theorem idxs_snoc{β:Type}(p:β→Bool)(x:β):∀(l:List β) (k:Nat),idxs p k (l++[x])=idxs p k l++if p x=true then [((k+l.length:Nat):Int)] else []
 |[],k=>by
  simp only[List.nil_append,idxs,List.length_nil,Nat.add_zero]
 |y::l,k=>by
  rw[List.cons_append,idxs,idxs,idxs_snoc p x l (k+1),List.length_cons,show k+1+l.length=k+(l.length+1) by omega]
  split<;>rfl
theorem s_crateFree:Fz11.S (cl Cr fun c=>idxs (fun x=>decide (x=zB)) 0 c):=Fz11.of_cl fun c h k=>by
 have hl:c.length=12:=h
 unfold Fz11.pf
 refine iter_list c (fun i (o:List Int)=>((i:Int),o)) (fun _ _=>k (idxs (fun x=>decide (x=zB)) 0 c)) (fun i o=>o=idxs (fun x=>decide (x=zB)) 0 (c.take i)) (c:=[]) rfl (big_lt (by omega)) rfl ?_ ?_
 ·rintro i hi o rec rfl hrec
  have hb:=idxs_len (fun x=>decide (x=zB)) (c.take i) 0
  rw[List.length_take] at hb
  have e:=idxs_snoc (fun x=>decide (x=zB)) c[i] (c.take i) 0
  rw[←List.take_succ_eq_append_getElem hi,List.length_take,Nat.min_eq_left (by omega),Nat.zero_add] at e
  unfold Fz11.B1
  simp only[decT (show (i:Int)<12 by omega),inB_nat (show i<12 by omega),cond_true,Int.toNat_natCast,getD_lt hi,eqB,w64n (show i<9223372036854775807 by omega)]
  by_cases q:c[i]=zB
  ·rw[decT q,if_pos rfl] at e
   rw[decT q,okS (by simp;omega)]
   exact hrec _ e.symm
  ·rw[decF q,if_neg (by simp),List.append_nil] at e
   rw[decF q]
   exact hrec _ e.symm
 ·rintro o rec rfl
  unfold Fz11.B1
  rw[decF (by simp only;omega),List.take_of_length_le (Nat.le_refl _)]
  rfl
theorem s_crateFull:Fz12.S (cl Cr fun c=>idxs (fun x=>!decide (x=zB)) 0 c):=Fz12.of_cl fun c h k=>by
 have hl:c.length=12:=h
 unfold Fz12.pf
 refine iter_list c (fun i (o:List Int)=>((i:Int),o)) (fun _ _=>k (idxs (fun x=>!decide (x=zB)) 0 c)) (fun i o=>o=idxs (fun x=>!decide (x=zB)) 0 (c.take i)) (c:=[]) rfl (big_lt (by omega)) rfl ?_ ?_
 ·rintro i hi o rec rfl hrec
  have hb:=idxs_len (fun x=>!decide (x=zB)) (c.take i) 0
  rw[List.length_take] at hb
  have e:=idxs_snoc (fun x=>!decide (x=zB)) c[i] (c.take i) 0
  rw[←List.take_succ_eq_append_getElem hi,List.length_take,Nat.min_eq_left (by omega),Nat.zero_add] at e
  unfold Fz12.B1
  simp only[decT (show (i:Int)<12 by omega),inB_nat (show i<12 by omega),cond_true,Int.toNat_natCast,getD_lt hi,eqB,w64n (show i<9223372036854775807 by omega)]
  by_cases q:c[i]=zB
  ·rw[decT q,if_neg (by simp),List.append_nil] at e
   rw[decT q]
   exact hrec _ e.symm
  ·rw[decF q,if_pos (by rfl)] at e
   rw[decF q,okS (by simp;omega)]
   exact hrec _ e.symm
 ·rintro o rec rfl
  unfold Fz12.B1
  rw[decF (by simp only;omega),List.take_of_length_le (Nat.le_refl _)]
  rfl
def iLt(x y:Int):Bool:=decide (x<y)
def leI(x y:Int):Prop:=iLt y x=false
theorem leI_iff(x y:Int):leI x y↔x≤y:=by
 unfold leI iLt
 rw[decide_eq_false_iff_not]
 omega
theorem leI_refl(x:Int):leI x x:=(leI_iff x x).2 (Int.le_refl x)
def SortedI(l:List Int):Prop:=l.Pairwise leI
theorem SortedI.get{l:List Int}(h:SortedI l){i j:Nat}(hij:i≤j)(hj:j<l.length):leI (l.getD i 0) (l.getD j 0):=by
 rcases Nat.lt_or_eq_of_le hij with q|rfl
 ·rw[getD_lt (by omega:i<l.length),getD_lt hj]
  exact List.pairwise_iff_getElem.1 h i j (by omega) hj q
 ·exact leI_refl _
abbrev TyB2:Ty:=.st (.pair (.int .u8) (.int .i16))
def gU(l:List Int):Prop:=∀x,x∈l→0≤x∧x≤255
theorem good_Us{e:TypeId}{l:List Int}(h:goodV (.row e (.int .u8)) l):gU l:=fun x hx=>by
 obtain⟨i,hi,rfl⟩:=List.mem_iff_getElem.1 hx
 have:=h.2 i hi
 have e0:l.getD i (Ty.int .u8).dflt=l[i]:=getD_lt hi
 rw[e0] at this
 simp[goodV,Lit.wf,IntKind.min,IntKind.max,IntKind.signed,IntKind.bits] at this
 omega
def PCd(l:List Int):Prop:=l.length≤4096∧gU l
theorem u8_cells(l:List Int)(locs:Nat→Unit)(i:Nat)(h:i<l.length):(rowCells (.int .u8) l locs)[i]? = some (.int .u8 l[i]):=by
 have e:rowCells (.int .u8) l locs=(List.range l.length).map fun i=>Value.int .u8 (List.getD l i 0):=by
  rw[List.map_eq_flatMap]
  rfl
 rw[e,List.getElem?_map,List.getElem?_range h]
 simp only[Option.map_some]
 rw[getD_lt h]
theorem elems_rdB{w:World}{l:List Int}{locs:Nat→Unit}{A:Option Addr}{c:Nat}{o:Bool}(hc:l.length≤c)(h:Elems w o (.int .u8) l locs A):Go.Proofs.RdB w (.slice A l.length c) l:=by
 refine⟨A,c,rfl,hc,fun h0=>?_⟩
 obtain⟨b,o,e,hb,hr⟩:=h.at_ h0
 exact⟨b,o,e,hb,fun i hi=>hr i _ (u8_cells l locs i hi)⟩
theorem enc_crate{c:List DB}(h:c.length=12):encV (.arr 12 TyB2) c=Go.Proofs.Dr.cellsC c:=by
 have e:encV (.arr 12 TyB2) c=(List.range 12).flatMap fun i=>[Value.int .u8 (c.getD i (0,0)).1,Value.int .i16 (c.getD i (0,0)).2]:=rfl
 rw[e]
 unfold Go.Proofs.Dr.cellsC
 have e2:c=(List.range 12).map fun i=>c.getD i (0,0):=by
  refine List.ext_getElem (by simp[h]) fun i h1 h2=>?_
  rw[List.getElem_map,List.getElem_range,getD_lt h1]
 conv=>rhs;rw[e2]
 rw[List.flatMap_map]
theorem okC{c:List DB}(h:c.length=12):okV (.arr 12 TyB2) c:=⟨h,fun i hi=>⟨trivial,trivial⟩⟩
def okD(b:DB):Prop:=b=(0,0)∨(1≤b.1∧b.1≤3∧1998≤b.2∧b.2≤2000)
theorem one_ok{code:List Int}(h:gU code)(st:Nat×Int):okD (Go.Proofs.Dr.one code st).1:=by
 unfold Go.Proofs.Dr.one
 obtain⟨a1,a2,_⟩:=Go.Proofs.Dr.pick_bd h 3 st
 obtain⟨b1,b2,_⟩:=Go.Proofs.Dr.pick_bd h 3 (Go.Proofs.Dr.pick code 3 st).2
 have a2:=a2 (by omega)
 have b2:=b2 (by omega)
 generalize Go.Proofs.Dr.pick code 3 (Go.Proofs.Dr.pick code 3 st).2=r at b1 b2
 generalize Go.Proofs.Dr.pick code 3 st=q at a1 a2
 refine .inr ⟨?_,?_,?_,?_⟩
 ·show 1≤1+q.1;omega
 ·show 1+q.1≤3;omega
 ·show 1998≤1998+r.1;omega
 ·show 1998+r.1≤2000;omega
theorem putN_ok{code:List Int}(h:gU code)(st:Nat×Int):∀k,∀b,b∈(Go.Proofs.Dr.putN code st k).1→okD b
 |0,b,hb=>by
  rw[Go.Proofs.Dr.putN_zero] at hb
  exact .inl (List.mem_replicate.1 hb).2
 |k+1,b,hb=>by
  have ih:=putN_ok h st k
  rw[Go.Proofs.Dr.putN_succ] at hb
  generalize Go.Proofs.Dr.putN code st k=s at ih hb
  unfold Go.Proofs.Dr.put at hb
  generalize Go.Proofs.Dr.pick code 4 s.2=q at hb
  have ho:=one_ok h q.2
  generalize Go.Proofs.Dr.one code q.2=o at hb ho
  split at hb
  ·rcases List.mem_or_eq_of_mem_set hb with h1|h1
   ·exact ih b h1
   ·rw[h1];exact ho
  ·exact ih b hb
def drawnC(code:List Int):List DB:=(Go.Proofs.Dr.drawn code (0,0)).1
theorem drawn_ok{code:List Int}(h:gU code):wC (drawnC code)∧crateOk (drawnC code)=true:=by
 unfold drawnC
 rw[Go.Proofs.Dr.drawn_eq]
 have h1:=(Go.Proofs.Dr.putN_bd h (0,0) 12).1
 have h2:=putN_ok h (0,0) 12
 generalize Go.Proofs.Dr.putN code (0,0) 12=s at h1 h2
 refine⟨⟨h1,fun b hb=>?_⟩,?_⟩
 ·rcases h2 b hb with rfl|⟨a1,a2,a3,a4⟩
  ·exact⟨by decide,by decide,by decide,by decide⟩
  ·exact⟨by omega,by omega,by omega,by omega⟩
 ·unfold crateOk
  rw[List.all_eq_true]
  intro b hb
  unfold okB validB
  rcases h2 b hb with rfl|⟨a1,a2,a3,a4⟩
  ·rfl
  ·rw[decT (show 1≤b.1 by omega),decT (show b.1≤20 by omega),decT (show 1900≤b.2 by omega),decT (show b.2≤2099 by omega)]
   simp
theorem s_P6Crate:Fz48.S (cl PCd drawnC) where
 fn:=⟨Try.f30,by kernel_rfl,by decide,by decide⟩
 does:=fun avs r hr vs w gh MBb hR=>by
  obtain⟨x,y,h1,h2,rfl⟩:=mkSig_run hr
  obtain⟨e0,rfl⟩:=Fz48.dec_eq h1
  obtain⟨hp,rfl⟩:=cl_some h2
  have hR:R 1 w ⟨MBb,_⟩ ⟨[.sl 0 [] none],[some (.dat ⟨e0,.int .u8,x,false,false,none⟩)]⟩ gh ⟨vs.toArray,[]⟩ w:=hR
  have hsz:vs.length=1:=by simpa using hR.tm
  match vs,hsz with
  |[v0],_=>
   have a0:SlRel [some (.dat ⟨e0,.int .u8,x,false,false,none⟩)] gh 0 [] none v0:=hR.slots 0 (by omega)
   obtain⟨d1,A1,c1,loc1,q1,rfl,u1,E1⟩:=sl_elems hR a0 (u:=.int .u8) (l:=x) rfl
   have hl:=(drawn_ok hp.2).1.1
   have hcall:=Go.Proofs.Try.crate_calls (.slice A1 x.length c1) x w (elems_rdB u1 E1) (by have:=hp.1;omega) hp.2
   refine hcall.mono fun e w' ⟨he,hb⟩=>?_
   subst he
   have ev:Value.agg (Go.Proofs.Dr.cellsC (Go.Proofs.Dr.drawn x (0,0)).1).toArray=toV (.arr 12 TyB2) (drawnC x):=by
    show Value.agg (Go.Proofs.Dr.cellsC (drawnC x)).toArray = .agg (encV (.arr 12 TyB2) (drawnC x)).toArray
    rw[enc_crate hl]
   rw[ev]
   have hok:okV (.arr 12 TyB2) (drawnC x):=okC hl
   have r1:=hR.ret hb (fun h=>h.elim) [.val (.arr 12 TyB2) (drawnC x)] [toV (.arr 12 TyB2) (drawnC x)] (All2.cons_iff.2 ⟨⟨rfl,hok,rfl⟩,All2.nil _⟩)
   exact⟨_,_,[.val (.arr 12 TyB2) (drawnC x)],[toV (.arr 12 TyB2) (drawnC x)],r1,rfl,rfl,rfl⟩
theorem s_f6big:Fz34.S (tot fun l=>decide (((l.length:Nat):Int)>4096)):=Fz34.of_tot fun l k=>by
 unfold Fz34.pf
 rfl
def freeL(a:List DB):List Int:=idxs (fun x=>decide (x=(0,0))) 0 a
theorem s_l01Empty:Fz58.S (cl Cr freeL):=Fz58.of_cl s_l01Free fun a h k=>by
 have ha:a.length=12:=h
 show Fz58.pf _ BIG a k=k (freeL a)
 unfold Fz58.pf
 refine iter_list a (fun i (o:List Int)=>((i:Int),o)) (fun _ _=>k (freeL a)) (fun i o=>o=idxs (fun x=>decide (x=(0,0))) 0 (a.take i)) (c:=[]) rfl (big_lt (by omega)) rfl ?_ ?_
 ·rintro i hi o rec rfl hrec
  have hbd:=idxs_len (fun x:DB=>decide (x=(0,0))) (a.take i) 0
  rw[List.length_take] at hbd
  have hbd2:(idxs (fun x:DB=>decide (x=(0,0))) 0 (a.take i)).length+1≤4294967296:=by omega
  have e:=idxs_snoc (fun x:DB=>decide (x=(0,0))) a[i] (a.take i) 0
  rw[←List.take_succ_eq_append_getElem hi,List.length_take,Nat.min_eq_left (by omega),Nat.zero_add] at e
  unfold Fz58.B1
  simp only[decT (show (i:Int)<12 by omega),inB_nat (show i<12 by omega),cond_true,Int.toNat_natCast,getD_lt hi,tot_eq,Option.bind_some,w64n (show i<9223372036854775807 by omega)]
  by_cases q:a[i]=(0,0)
  ·rw[decT q,if_pos rfl] at e
   rw[decT q,okS (by simp only[List.length_singleton];exact hbd2)]
   exact hrec _ e.symm
  ·rw[decF q,if_neg (by simp),List.append_nil] at e
   rw[decF q]
   exact hrec _ e.symm
 ·rintro o rec rfl
  unfold Fz58.B1
  rw[decF (by simp only;omega),List.take_of_length_le (Nat.le_refl _)]
  rfl
def PvC(a:List DB):Prop:=wC a∧crateOk a=true
abbrev TyB:Ty:=.st (.pair (.int .u8) (.int .i16))
def celB(x:DB):List Value:=[.int .u8 x.1,.int .i16 x.2]
def cfB(x y:DB):Int:=cmpB (x,y)
theorem ltB(x y:DB):Go.Proofs.ltOf cfB x y=bLt x y:=cmpB_lt x y
theorem swoB:Go.Sort.SWO (Go.Proofs.ltOf cfB) where
 irrefl x:=by
  rw[ltB]
  exact leB_refl x
 trans x y z h1 h2:=by
  rw[ltB,bLt_iff] at *
  omega
 ntrans x y z h1 h2:=by
  rw[ltB] at *
  exact leB_trans (x:=z) (y:=y) (z:=x) h2 h1
theorem sortB_merge(l:List DB):(l.mergeSort fun x y=>!(Go.Proofs.ltOf cfB) y x)=sortB l:=by
 refine List.Perm.eq_of_pairwise (le:=leB) (fun a b _ _ h1 h2=>leB_anti h1 h2) ?_ (sortB_sorted l) ((List.mergeSort_perm _ _).trans (sortB_perm l).symm)
 refine (List.pairwise_mergeSort (le:=fun x y=>!(Go.Proofs.ltOf cfB) y x) ?_ ?_ l).imp ?_
 ·intro a b c h1 h2
  simp only[ltB,Bool.not_eq_true'] at *
  exact leB_trans (x:=a) (y:=b) (z:=c) h1 h2
 ·intro a b
  simp only[ltB,Bool.or_eq_true,Bool.not_eq_true']
  rcases Bool.eq_false_or_eq_true (bLt b a) with h|h
  ·exact .inr (leB_of_lt h)
  ·exact .inl h
 ·intro a b h
  simp only[ltB,Bool.not_eq_true'] at h
  exact h
theorem cmpI_cfB(x y:DB):(if Go.Proofs.cmpI x.1 y.1=0 then Go.Proofs.cmpI x.2 y.2 else Go.Proofs.cmpI x.1 y.1)=cfB x y:=by
 unfold Go.Proofs.cmpI cfB cmpB
 simp only
 by_cases h1:x.1<y.1
 ·simp[h1]
 ·by_cases h2:x.1>y.1
  ·simp[h1,h2,show y.1<x.1 from h2]
  ·by_cases h3:x.2<y.2
   ·simp[h1,h2,show ¬y.1<x.1 from h2,h3]
   ·by_cases h4:x.2>y.2
    ·simp[h1,h2,show ¬y.1<x.1 from h2,h3,h4,show y.2<x.2 from h4]
    ·simp[h1,h2,show ¬y.1<x.1 from h2,h3,h4,show ¬y.2<x.2 from h4]
theorem calls_cmp(x y:DB)(W:World):Calls Try.prog 77 #[.agg (celB x).toArray,.agg (celB y).toArray] W fun e w'=>e = .returned (.int .i64 (cfB x y))∧∃q os',w'=Go.Sort.grow (W.drewN q) os':=by
 have:=Go.Proofs.Try.cmp77 x.1 x.2 y.1 y.2 W
 rw[cmpI_cfB] at this
 exact this
theorem cel_len(x:DB):(celB x).length=2:=rfl
theorem cel_at(l:List DB):∀t,t<l.length*2→(l.flatMap celB)[t]? = (celB (l.getD (t / 2) (0,0)))[t % 2]? := by
 induction l with
 |nil=>intro t h;simp at h
 |cons x l ih=>
  intro t h
  rw[List.flatMap_cons]
  match t,h with
  |0,_=>rfl
  |1,_=>rfl
  |t+2,h=>
   rw[List.getElem?_append_right (by rw[cel_len];omega),cel_len,show t+2-2=t by omega,ih t (by simp only[List.length_cons] at h;omega),show (t+2) / 2=t / 2+1 by omega,show (t+2) % 2=t % 2 by omega]
   rfl
theorem cel_flat(l:List DB):(l.flatMap celB).length=l.length*2:=by
 induction l with
 |nil=>rfl
 |cons x l ih=>rw[List.flatMap_cons,List.length_append,ih,cel_len,List.length_cons];omega
theorem flatK_at(l:List DB)(t:Nat)(h:t<l.length*2):(l.flatMap celB)[t]? = some (Go.Sort.flatK celB 2 l.toArray)[t]! := by
 rw[cel_at l t h,Go.Sort.get_flatK celB 2 l.toArray t (by simpa using h)]
 have h2:t / 2<l.length:=by omega
 rw[getD_lt h2]
 have e:l.toArray[t / 2]! = l[t / 2]:=by rw[getElem!_pos _ _ (by simpa using h2)];simp
 rw[e]
 have h3:t % 2<(celB l[t / 2]).length:=by rw[cel_len];omega
 rw[List.getElem?_eq_getElem h3,getElem!_pos (celB l[t / 2]) (t % 2) h3]
theorem many_flat(l l2:List DB)(h:l2.length=l.length):Go.Sort.setMany (Go.Sort.flatK celB 2 l.toArray) 0 (l2.flatMap celB)=Go.Sort.flatK celB 2 l2.toArray:=by
 refine Go.Sort.ext_get! (by simp[h]) fun t ht=>?_
 have ht:t<l.length*2:=by simpa using ht
 rw[Go.Sort.get_setMany _ _ _ t (by simpa using ht),if_pos ⟨Nat.zero_le _,by rw[cel_flat,h];omega⟩,Nat.sub_zero]
 have:=flatK_at l2 t (by rw[h];exact ht)
 rw[getElem!_pos _ t (by rw[cel_flat,h];exact ht)]
 rw[List.getElem?_eq_getElem (by rw[cel_flat,h];exact ht)] at this
 exact Option.some.inj this
theorem cells_row(l:List DB)(locs:Nat→TyB.loc):rowCells TyB l locs=l.flatMap celB:=by
 have e:∀i,cells TyB (List.getD l i (0,0)) (locs i)=celB (List.getD l i (0,0)):=fun i=>rfl
 show ((List.range l.length).flatMap fun i=>cells TyB (List.getD l i (0,0)) (locs i))=_
 rw[show (fun i=>cells TyB (List.getD l i (0,0)) (locs i))=fun i=>celB (List.getD l i (0,0)) from funext e]
 clear e locs
 induction l with
 |nil=>rfl
 |cons x l ih=>
  rw[List.length_cons,List.range_succ_eq_map,List.flatMap_cons,List.flatMap_cons,List.flatMap_map]
  exact congrArg (celB x++·) ih
theorem s_SortFuncL:Fz44.S (cl PL sortB) where
 fn:=⟨Try.f112,by kernel_rfl,by decide,by decide⟩
 does:=fun avs r hr vs w gh MBb hR=>by
  obtain⟨x,y,h1,h2,rfl⟩:=mkSig_run hr
  obtain⟨e0,rfl⟩:=Fz44.dec_eq h1
  obtain⟨hp,rfl⟩:=cl_some h2
  have hp:x.length≤1073741824:=hp
  have hR:R 2 w ⟨MBb,_⟩ ⟨[.sl 0 [] none,.fn 77 []],[some (.dat ⟨e0,TyB,x,true,false,none⟩)]⟩ gh ⟨vs.toArray,[]⟩ w:=hR
  have hsz:vs.length=2:=by simpa using hR.tm
  match vs,hsz with
  |[v0,v1],_=>
   have a1:SRel [some (.dat ⟨e0,TyB,x,true,false,none⟩)] gh (.fn 77 []) v1:=hR.slots 1 (by omega)
   obtain⟨us,rfl,hus⟩:=a1
   obtain rfl:us=[]:=List.eq_nil_of_length_eq_zero hus.1.symm
   obtain⟨A,c,q1,q2,q3⟩:=sl_root hR (x:=.tmp 0) (n:=0) (wn:=none) rfl rfl
   have q1:v0 = .slice A x.length c:=q1
   subst q1
   rcases hR.dat 0 _ rfl with hm|⟨hrow,_⟩
   ·exact absurd hm Bool.false_ne_true
   ·rcases Nat.eq_zero_or_pos x.length with h0|h0
    ·have hn:x=[]:=List.eq_nil_of_length_eq_zero h0
     subst hn
     refine (Go.Proofs.AnyF.slices_SortFunc_none Try.sortB A c (.func (.func 77) #[] #[]) w).mono fun e w' ⟨he,hw⟩=>?_
     subst he hw
     exact⟨_,gh,[],[],hR.ret (Go.RowKit.Below.refl _ _) (fun _=>Nat.le_refl _) [] [] (All2.nil _),rfl,rfl,rfl⟩
    ·obtain⟨b,o,eA,eA2⟩:=q3 h0
     obtain⟨b',o',eA',hb,hr⟩:=hrow.at_ h0
     have eA':(gh.G 0 TyB).1.A=some ⟨b',o',none⟩:=eA'
     rw[eA] at eA'
     simp only[Option.some.injEq,Addr.mk.injEq,and_true] at eA'
     obtain⟨rfl,rfl⟩:=eA'
     have eA2:A=some ⟨b,o,none⟩:=by rw[eA2];simp[Win.off]
     subst eA2
     obtain⟨b2,o2,arr,e2,f1,f2,_⟩:=hrow.own rfl (Nat.lt_of_lt_of_le h0 hrow.le)
     have f1:(gh.G 0 TyB).1.A=some ⟨b2,o2,none⟩:=f1
     rw[eA] at f1
     simp only[Option.some.injEq,Addr.mk.injEq,and_true] at f1
     obtain⟨rfl,rfl⟩:=f1
     rw[cells_row] at hr
     have hH:Go.Sort.HoldsK celB 2 w b o x.toArray:=fun j hj=>by
      have hj:j<x.length*2:=by simpa using hj
      refine⟨hr j _ (flatK_at x j hj),?_⟩
      unfold World.frozen?
      rw[f2]
      simp
     have C:=Go.Proofs.AnyQ.slices_SortFunc_total Try.sortB 2 Try.isAgg29 Try.sizeOf29 celB cel_len (fun x v hv=>by simp[celB] at hv;rcases hv with rfl|rfl<;>rfl) cfB swoB 77 #[] b o c x.toArray w (enters_of Try.func77 (by kernel_rfl) rfl) (fun m os dk hdk x y=>calls_cmp x y _) hH hb (by simp;omega) (fun x y h1 h2=>by rw[ltB] at h1 h2;exact leB_anti h2 h1)
     rw[show x.toArray.size=x.length by simp,show x.toArray.toList=x by simp,sortB_merge] at C
     refine C.mono fun e w' ⟨he,n,os,hw⟩=>?_
     subst he
     have R1:=hR.drawn (w.drawn+n) (Nat.le_add_right _ _)
     obtain⟨g',R2⟩:=R.over (t:=TyB) rfl (x:=.tmp 0) (A:=some ⟨b,o,none⟩) (len:=x.length) (c:=c) rfl (sortB x) 0 _ _ _ x R1 (wn:=none) rfl rfl (fun y _=>⟨trivial,trivial⟩) (by rw[sortB_len];omega) b o (fun _=>rfl)
     have eo:overL x (Win.off none+0) (sortB x)=sortB x:=by
      unfold overL
      rw[show Win.off none+0=0 from rfl,sortB_len,Nat.zero_add,List.drop_length]
      simp
     have ew:({ w with drawn:=w.drawn+n }:World).setCells b (o+0*TyB.size) ((sortB x).flatMap fun y=>cells TyB y TyB.dloc)=Go.Sort.putRowK celB 2 (Go.Sort.ahead w n) b o (sortB x).toArray:=by
      have h1:Go.Sort.putRow id (Go.Sort.ahead w n) b o (Go.Sort.flatK celB 2 x.toArray)=Go.Sort.ahead w n:=Go.Sort.putRow_self id _ _ _ _ (Go.Sort.holdsK_ahead celB 2 w n b o _ hH)
      have h2:=Go.Sort.setCells_putRow (Go.Sort.ahead w n) b o ((sortB x).flatMap celB) 0 (Go.Sort.flatK celB 2 x.toArray) (by rw[cel_flat,sortB_len];simp)
      rw[h1,many_flat _ _ (sortB_len x)] at h2
      rw[Nat.zero_mul]
      exact h2
     rw[eo,ew] at R2
     subst hw
     refine⟨_,g',[],[],R2.ret (w':=Go.Proofs.sortWorldK celB 2 w b o n (sortB x).toArray os) ⟨rfl,rfl,rfl,?_,fun k hk=>?_⟩ (fun _=>Nat.le_refl _) [] [] (All2.nil _),rfl,rfl,rfl⟩
     ·unfold Go.Proofs.sortWorldK Go.Sort.grow
      simp
     ·unfold Go.Proofs.sortWorldK Go.Sort.grow
      simp only
      rw[Array.getElem?_append_left hk]
def flatB(s:List (List DB)):List DB:=s.flatMap allB
def whole(s:List (List DB)):List DB:=sortB (flatB s)
def wS12(s:List (List DB)):Prop:=s.length≤12∧∀c,c∈s→c.length=12
theorem flatB_len:∀(s:List (List DB)),(∀c,c∈s→c.length=12)→(flatB s).length≤12*s.length
 |[],_=>by simp[flatB]
 |c::s,h=>by
  have h1:=flatB_len s fun x hx=>h x (List.mem_cons_of_mem _ hx)
  have h2:=allB_len c
  rw[h c (List.mem_cons_self ..)] at h2
  unfold flatB at *
  rw[List.flatMap_cons,List.length_append,List.length_cons]
  omega
theorem flatB_take(s:List (List DB)){p:Nat}(h:p<s.length):flatB (s.take (p+1))=flatB (s.take p)++allB s[p]:=by
 unfold flatB
 rw[List.take_succ_eq_append_getElem h,List.flatMap_append]
 simp
theorem wS12.tk{s:List (List DB)}(h:wS12 s)(p:Nat):(flatB (s.take p)).length≤144:=by
 have:=flatB_len (s.take p) fun c hc=>h.2 c (List.take_subset p s hc)
 have h1:=h.1
 rw[List.length_take] at this
 omega
theorem whole_len{s:List (List DB)}(h:wS12 s):(whole s).length≤144:=by
 have:=h.tk s.length
 rw[List.take_length] at this
 unfold whole
 rw[sortB_len]
 exact this
theorem s_allOf:Fz28.S (cl wS12 whole):=Fz28.of_cl s_crateBottles s_SortFuncL fun s h k=>by
 obtain⟨h1,h2⟩:=h
 unfold Fz28.pf
 refine iter_list s (fun p (o:List DB)=>((p:Int),o)) (fun _ _=>k (whole s)) (fun p o=>o=flatB (s.take p)) (c:=[]) rfl (big_lt (by omega)) rfl ?_ ?_
 ·rintro p hp o rec rfl hrec
  have hb:=wS12.tk ⟨h1,h2⟩ p
  have hb1:=wS12.tk ⟨h1,h2⟩ (p+1)
  rw[flatB_take s hp,List.length_append] at hb1
  unfold Fz28.B1
  simp only[decT (show (p:Int)<(s.length:Int) by omega),inB_nat hp,cond_true,Int.toNat_natCast,getD_lt hp,cl_eq (show Cr s[p] from h2 _ (List.getElem_mem hp)),Option.bind_some,w64n (show p<9223372036854775807 by omega)]
  rw[okS (show (flatB (s.take p)).length+(allB s[p]).length≤4294967296 by omega),cond_true]
  exact hrec _ (flatB_take s hp).symm
 ·rintro o rec rfl
  unfold Fz28.B1
  have hb:=wS12.tk ⟨h1,h2⟩ s.length
  rw[List.take_length] at hb ⊢
  rw[decF (by simp only;omega),cond_false]
  show (cl PL sortB (flatB s)).bind _=_
  rw[cl_eq (show PL (flatB s) by unfold PL;omega),Option.bind_some]
  rfl
theorem s_l01Whole:Fz65.S (cl wS12 whole):=Fz65.of_cl s_l01All s_l01Sorted fun s h k=>by
 obtain⟨h1,h2⟩:=h
 unfold Fz65.pf
 refine iter_list s (fun p (o:List DB)=>((p:Int),o)) (fun _ _=>k (whole s)) (fun p o=>o=flatB (s.take p)) (c:=[]) rfl (big_lt (by omega)) rfl ?_ ?_
 ·rintro p hp o rec rfl hrec
  have hb1:=wS12.tk ⟨h1,h2⟩ (p+1)
  rw[flatB_take s hp,List.length_append] at hb1
  unfold Fz65.B1
  simp only[decT (show (p:Int)<(s.length:Int) by omega),inB_nat hp,cond_true,Int.toNat_natCast,getD_lt hp,cl_eq (show Cr s[p] from h2 _ (List.getElem_mem hp)),Option.bind_some,w64n (show p<9223372036854775807 by omega)]
  rw[okS (by omega),cond_true]
  exact hrec _ (flatB_take s hp).symm
 ·rintro o rec rfl
  unfold Fz65.B1
  have hb:=wS12.tk ⟨h1,h2⟩ s.length
  rw[List.take_length] at hb ⊢
  rw[decF (by simp only;omega),cond_false]
  show (cl PL sortB (flatB s)).bind _=_
  rw[cl_eq (show PL (flatB s) by unfold PL;omega),Option.bind_some]
  rfl
def wSM(s:List (List DB)):Prop:=s.length≤1048576∧∀c,c∈s→c.length=12
theorem wSM.tk{s:List (List DB)}(h:wSM s)(p:Nat):(flatB (s.take p)).length≤12582912:=by
 have:=flatB_len (s.take p) fun c hc=>h.2 c (List.take_subset p s hc)
 have h1:=h.1
 rw[List.length_take] at this
 omega
theorem s_crateSorted:Fz14.S (cl Cr fun c=>sortB (allB c)):=Fz14.of_cl s_crateBottles s_SortFuncL fun c h k=>by
 have hl:c.length=12:=h
 have:=allB_len c
 unfold Fz14.pf
 rw[cl_eq h,Option.bind_some,cl_eq (show PL (allB c) by unfold PL;omega),Option.bind_some]
theorem s_cratePure:Fz13.S (cl Cr fun c=>oneB (allB c)):=Fz13.of_cl s_crateSorted s_compactB fun c h k=>by
 have hc:c.length=12:=h
 have hl:=allB_len c
 have hs:=sortB_len (allB c)
 unfold Fz13.pf
 rw[cl_eq h,Option.bind_some,cl_eq (show PL (sortB (allB c)) by unfold PL;omega),Option.bind_some,compV_len]
 unfold oneB
 congr 1
 exact decide_eq_decide.2 (by omega)
theorem s_impl_MixedIn:Fz19.S (cl wCs mixedIn):=Fz19.of_cl s_ValidStack s_cratePure fun s h k=>by
 have hl:=h.1.1
 unfold Fz19.pf mixedIn
 rw[cl_eq h,Option.bind_some]
 cases stackOk s with
 |false=>rfl
 |true=>
  simp only[Bool.not_true,cond_false,if_true]
  refine (iter_list s (fun p (n:Int)=>(n,(p:Int))) (fun q n=>k (n+countI (fun c=>!oneB (allB c)) q,0)) (fun p n=>0≤n∧n≤p) (c:=0) rfl (big_lt (by omega)) ⟨by omega,by omega⟩ ?_ ?_).trans (by rw[Int.zero_add])
  ·rintro p hp n rec ⟨h1,h2⟩ hrec
   unfold Fz19.B1
   simp only[decT (show (p:Int)<(s.length:Int) by omega),inB_nat hp,cond_true,Int.toNat_natCast,getD_lt hp,cl_eq (h.1.at hp),Option.bind_some,w64n (show p<9223372036854775807 by omega),w64 (show -9223372036854775808≤n+1 by omega) (by omega),countI]
   cases oneB (allB s[p]) with
   |true=>exact (hrec _ (by omega)).trans (by simp)
   |false=>exact (hrec _ (by omega)).trans (by simp[Int.add_assoc])
  ·rintro n rec _
   unfold Fz19.B1
   rw[decF (by simp only;omega)]
   simp[countI]
abbrev noC:List DB:=List.replicate 12 (0,0)
def stepPk(o:List (List DB))(i:Nat)(b:DB):List (List DB):=
 if i % 12=0 then (o++[noC]).set (i / 12) (((o++[noC]).getD (i / 12) noC).set (i % 12) b) else o.set (i / 12) ((o.getD (i / 12) noC).set (i % 12) b)
def pk(l:List DB):List (List DB):=l.zipIdx.foldl (fun o x=>stepPk o x.2 x.1) []
theorem pk_take(l:List DB){p:Nat}(h:p<l.length):pk (l.take (p+1))=stepPk (pk (l.take p)) p l[p]:=by
 unfold pk
 rw[List.take_succ_eq_append_getElem h,List.zipIdx_append,List.foldl_append,List.length_take,Nat.min_eq_left (Nat.le_of_lt h)]
 simp
theorem pk_inv(l:List DB):∀p,p≤l.length→(pk (l.take p)).length=(p+11) / 12∧∀c,c∈pk (l.take p)→c.length=12
 |0,_=>by simp[pk]
 |p+1,h=>by
  obtain⟨h1,h2⟩:=pk_inv l p (by omega)
  rw[pk_take l h]
  generalize pk (l.take p)=o at *
  have key:∀(o:List (List DB)) (i j:Nat) (b:DB),(∀c,c∈o→c.length=12)→∀c,c∈o.set i ((o.getD i noC).set j b)→c.length=12:=by
   intro o i j b ho c hc
   rcases List.mem_or_eq_of_mem_set hc with hc|rfl
   ·exact ho c hc
   ·rw[List.length_set]
    by_cases q:i<o.length
    ·rw[getD_lt q]
     exact ho _ (List.getElem_mem q)
    ·rw[List.getD_eq_getElem?_getD,List.getElem?_eq_none (by omega)]
     rfl
  unfold stepPk
  split
  ·refine⟨by rw[List.length_set,List.length_append,List.length_singleton];omega,key _ _ _ _ fun c hc=>?_⟩
   rcases List.mem_append.1 hc with hc|hc
   ·exact h2 c hc
   ·obtain rfl:=List.mem_singleton.1 hc
    rfl
  ·exact⟨by rw[List.length_set];omega,key _ _ _ _ h2⟩
theorem pk_len(l:List DB):(pk l).length=(l.length+11) / 12:=by
 have:=(pk_inv l l.length (Nat.le_refl _)).1
 rwa[List.take_length] at this
theorem pk_cr(l:List DB):∀c,c∈pk l→c.length=12:=by
 have:=(pk_inv l l.length (Nat.le_refl _)).2
 rwa[List.take_length] at this
theorem tmod12(p:Nat):Int.tmod (p:Int) 12=((p % 12:Nat):Int):=by rw[Int.tmod_eq_emod_of_nonneg (by omega)];rfl
theorem tdiv12(p:Nat):Int.tdiv (p:Int) 12=((p / 12:Nat):Int):=by rw[Int.tdiv_eq_ediv_of_nonneg (by omega)];rfl
theorem s_packed:Fz31.S (cl PL pk):=Fz31.of_cl fun l h k=>by
 have hl:l.length≤1073741824:=h
 unfold Fz31.pf
 refine iter_list l (fun p (o:List (List DB))=>((p:Int),o)) (fun _ _=>k (pk l)) (fun p o=>o=pk (l.take p)) (c:=[]) rfl (big_lt (by omega)) rfl ?_ ?_
 ·rintro p hp o rec rfl hrec
  have hr:=pk_take l hp
  obtain⟨b1,b2⟩:=pk_inv l p (by omega)
  generalize pk (l.take p)=o at *
  unfold Fz31.B1
  simp only[decT (show (p:Int)<(l.length:Int) by omega),inB_nat hp,cond_true,Int.toNat_natCast,getD_lt hp,w64n (show p<9223372036854775807 by omega),tmod12,tdiv12,w64 (show -9223372036854775808≤((p / 12:Nat):Int) by omega) (show ((p / 12:Nat):Int)≤9223372036854775807 by omega),beqF (show (12:Int)≠0 by omega),cond_false,inB_nat (show p % 12<12 by omega)]
  unfold stepPk at hr
  by_cases c:p % 12=0
  ·rw[if_pos c] at hr
   rw[beqT (by omega),cond_true,okS (by rw[List.length_singleton];omega),cond_true,inB_nat (by rw[List.length_append,List.length_singleton];omega),cond_true]
   exact hrec _ hr.symm
  ·rw[if_neg c] at hr
   rw[beqF (by omega),cond_false,inB_nat (by omega),cond_true]
   exact hrec _ hr.symm
 ·rintro o rec rfl
  unfold Fz31.B1
  rw[List.take_length,decF (by simp only;omega),cond_false]
theorem s_l01Packed:Fz61.S (cl PL pk):=Fz61.of_cl fun l h k=>by
 have hl:l.length≤1073741824:=h
 unfold Fz61.pf
 refine iter_list l (fun p (o:List (List DB))=>((p:Int),o)) (fun _ _=>k (pk l)) (fun p o=>o=pk (l.take p)) (c:=[]) rfl (big_lt (by omega)) rfl ?_ ?_
 ·rintro p hp o rec rfl hrec
  have hr:=pk_take l hp
  obtain⟨b1,b2⟩:=pk_inv l p (by omega)
  generalize pk (l.take p)=o at *
  unfold Fz61.B1
  simp only[decT (show (p:Int)<(l.length:Int) by omega),inB_nat hp,cond_true,Int.toNat_natCast,getD_lt hp,w64n (show p<9223372036854775807 by omega),tmod12,beqF (show (12:Int)≠0 by omega),cond_false,inB_nat (show p % 12<12 by omega),List.length_append,List.length_singleton]
  unfold stepPk at hr
  by_cases c:p % 12=0
  ·rw[if_pos c] at hr
   have e:IntKind.i64.wrap (((o.length+1:Nat):Int)-1)=((p / 12:Nat):Int):=by rw[w64 (by omega) (by omega)];omega
   rw[beqT (by omega),cond_true,okS (by omega),cond_true,e,inB_nat (by omega),cond_true]
   simp only[Int.toNat_natCast]
   exact hrec _ hr.symm
  ·rw[if_neg c] at hr
   have e:IntKind.i64.wrap (((o.length:Nat):Int)-1)=((p / 12:Nat):Int):=by rw[w64 (by omega) (by omega)];omega
   rw[beqF (by omega),cond_false,e,inB_nat (by omega),cond_true]
   simp only[Int.toNat_natCast]
   exact hrec _ hr.symm
 ·rintro o rec rfl
  unfold Fz61.B1
  rw[List.take_length,decF (by simp only;omega),cond_false]
theorem addRun_app(o o2:List DS)(h:o2≠[])(b:DB):addRun (o++o2) b=o++addRun o2 b:=by
 unfold addRun
 obtain⟨q,x,rfl⟩:∃q x,o2=q++[x]:=⟨o2.dropLast,o2.getLast h,(List.dropLast_concat_getLast h).symm⟩
 rw[←List.append_assoc]
 simp only[List.getLast?_concat,List.dropLast_concat]
 split<;>simp
theorem addRun_ne(o:List DS)(b:DB):addRun o b≠[]:=by
 obtain⟨q,n,h⟩:=addRun_last o b
 rw[h]
 simp
theorem fold_app(l:List DB):∀(o o2:List DS),o2≠[]→l.foldl addRun (o++o2)=o++l.foldl addRun o2:=by
 induction l with
 |nil=>intro o o2 _;rfl
 |cons b l ih=>
  intro o o2 h
  rw[List.foldl_cons,List.foldl_cons,addRun_app o o2 h b,ih o _ (addRun_ne _ _)]
def lead(b:DB):List DB→Nat
 |[]=>0
 |x::l=>if x=b then lead b l+1 else 0
theorem lead_le(b:DB):∀l:List DB,lead b l≤l.length
 |[]=>Nat.le_refl _
 |x::l=>by
  have:=lead_le b l
  unfold lead
  split<;>simp only[List.length_cons]<;>omega
theorem lead_take(b:DB):∀l:List DB,l.take (lead b l)=List.replicate (lead b l) b
 |[]=>rfl
 |x::l=>by
  unfold lead
  split
  ·rename_i h
   rw[List.take_succ_cons,lead_take b l,List.replicate_succ,h]
  ·rfl
theorem fold_lead(b:DB):∀(l:List DB) (n:Int),l.foldl addRun [(b,n)]=(b,n+lead b l)::(l.drop (lead b l)).foldl addRun []
 |[],n=>by simp[lead]
 |x::l,n=>by
  unfold lead
  rw[List.foldl_cons]
  by_cases c:x=b
  ·rw[if_pos c]
   have:addRun [(b,n)] x=[(b,n+1)]:=by simp[addRun,c]
   rw[this,fold_lead b l (n+1),List.drop_succ_cons]
   congr 2
   omega
  ·rw[if_neg c]
   have:addRun [(b,n)] x=[(b,n)]++[(x,1)]:=by simp[addRun,Ne.symm c]
   rw[this,fold_app l [(b,n)] [(x,1)] (by simp),List.drop_zero,List.foldl_cons]
   simp[addRun]
theorem runs_cons(b:DB)(l:List DB):runs (b::l)=(b,((lead b l+1:Nat):Int))::runs (l.drop (lead b l)):=by
 unfold runs
 rw[List.foldl_cons]
 have:addRun [] b=[(b,1)]:=rfl
 rw[this,fold_lead]
 congr 2
 omega
def pureOf(L:List DS):List (List DB):=L.flatMap fun x=>pk (List.replicate x.2.toNat x.1)
def pureStack(s:List (List DB)):List (List DB)×Int:=
 if stackOk s=true then (if ((pureOf (runs (whole s))).length:Int)>12 then ([],3) else (pureOf (runs (whole s)),0)) else ([],1)
theorem pure_cr(L:List DS):∀c,c∈pureOf L→c.length=12:=by
 intro c hc
 obtain⟨x,_,hx⟩:=List.mem_flatMap.1 hc
 exact pk_cr _ c hx
theorem pure_take(L:List DS){p:Nat}(h:p<L.length):pureOf (L.take (p+1))=pureOf (L.take p)++pk (List.replicate (L[p]).2.toNat (L[p]).1):=by
 unfold pureOf
 rw[List.take_succ_eq_append_getElem h,List.flatMap_append]
 simp
theorem pure_bd(L:List DS)(hL:∀x,x∈L→x.2≤144):∀p,(pureOf (L.take p)).length≤13*p
 |0=>by simp[pureOf]
 |p+1=>by
  have h:=pure_bd L hL p
  by_cases c:p<L.length
  ·rw[pure_take L c,List.length_append,pk_len,List.length_replicate]
   have:=hL _ (List.getElem_mem c)
   omega
  ·rw[List.take_of_length_le (by omega)]
   rw[List.take_of_length_le (by omega)] at h
   omega
theorem same_loop{α:Type}(i:Nat)(L:List DS)(hi:i<L.length)(h0:0≤(L[i]).2)(h1:(L[i]).2≤144)(q1 q2:List (List DB))(K:Int×List DB→Option α):
  ∀(j m fuel:Nat),m+j=(L[i]).2.toNat→j<fuel→iter (Fz51.B2 (i:Int) q1 q2 L K) fuel ((m:Int),List.replicate m (L[i]).1)=K ((L[i]).2,List.replicate (L[i]).2.toNat (L[i]).1)
 |_,_,0,_,hf=>absurd hf (Nat.not_lt_zero _)
 |0,m,f+1,hm,_=>by
  show Fz51.B2 (i:Int) q1 q2 L K _ _=_
  unfold Fz51.B2
  rw[inB_nat hi,cond_true]
  simp only[Int.toNat_natCast,getD_lt hi]
  rw[decF (by omega),cond_false]
  congr 2
  ·omega
  ·rw[show m=(L[i]).2.toNat by omega]
 |j+1,m,f+1,hm,hf=>by
  show Fz51.B2 (i:Int) q1 q2 L K (iter (Fz51.B2 (i:Int) q1 q2 L K) f) _=_
  have ih:=same_loop i L hi h0 h1 q1 q2 K j (m+1) f (by omega) (by omega)
  generalize iter (Fz51.B2 (i:Int) q1 q2 L K) f=rec at *
  unfold Fz51.B2
  rw[inB_nat hi,cond_true]
  simp only[Int.toNat_natCast,getD_lt hi,List.length_replicate,List.length_singleton]
  rw[decT (by omega)]
  simp only[cond_true,inB_nat hi]
  rw[okS (by omega),cond_true,w64n (by omega),←List.replicate_succ']
  exact ih
theorem s_spec_PureStack:Fz51.S (cl wCs pureStack):=Fz51.of_cl s_l01Stack s_l01Whole s_l01Counts s_l01Packed fun s h k=>by
 unfold Fz51.pf pureStack
 rw[cl_eq h,Option.bind_some]
 cases c:stackOk s with
 |false=>rfl
 |true=>
  have hs:wS12 s:=⟨by unfold stackOk at c;simp only[Bool.and_eq_true,decide_eq_true_eq] at c;exact c.1,fun x hx=>h.1.2 x hx⟩
  have hw:=whole_len hs
  rw[if_pos rfl]
  simp only[Bool.not_true,cond_false]
  rw[cl_eq hs,Option.bind_some,cl_eq (show PL (whole s) by unfold PL;omega),Option.bind_some]
  generalize whole s=l at *
  obtain⟨b1,b2⟩:=runs_bd l l.length (Nat.le_refl _)
  rw[List.take_length] at b1 b2
  generalize hL:runs l=L at *
  have hb2:∀x,x∈L→x.2≤144:=fun x hx=>by have:=b2 x hx;omega
  refine iter_list L (fun p (o:List (List DB))=>((p:Int),o)) (fun _ _=>k (if ((pureOf L).length:Int)>12 then ([],3) else (pureOf L,0))) (fun p o=>o=pureOf (L.take p)) (c:=[]) rfl (big_lt (by omega)) rfl ?_ ?_
  ·rintro p hp o rec rfl hrec
   have hx:=b2 _ (List.getElem_mem hp)
   have hb:=pure_bd L hb2 p
   have hb1:=pure_bd L hb2 (p+1)
   rw[pure_take L hp,List.length_append] at hb1
   unfold Fz51.B1
   simp only[decT (show (p:Int)<(L.length:Int) by omega),cond_true]
   have e0:((0:Int),([]:List DB))=(((0:Nat):Int),List.replicate 0 (L[p]).1):=rfl
   rw[e0,same_loop p L hp hx.1 (hb2 _ (List.getElem_mem hp)) s (pureOf (L.take p)) _ (L[p]).2.toNat 0 BIG (by omega) (big_lt (by omega))]
   simp only
   rw[cl_eq (show PL (List.replicate (L[p]).2.toNat (L[p]).1) by unfold PL;rw[List.length_replicate];omega),Option.bind_some,okS (by omega),cond_true,w64n (by omega)]
   exact hrec _ (pure_take L hp).symm
  ·rintro o rec rfl
   unfold Fz51.B1
   rw[List.take_length,decF (by simp only;omega),cond_false]
   simp only
   by_cases q:(((pureOf L).length:Nat):Int)>12
   ·rw[decT q,if_pos q];rfl
   ·rw[decF q,if_neg q];rfl
def LeftAt(l:List DB)(p:Nat)(w:Option (Nat×Nat)):Prop:=(w=none∧p=0)∨w=some (p,l.length-p)
theorem at_len{l:List DB}{p:Nat}{w:Option (Nat×Nat)}(h:LeftAt l p w):Win.len w l=l.length-p:=by
 rcases h with⟨rfl,rfl⟩|rfl<;>rfl
theorem at_ix{l:List DB}{p:Nat}{w:Option (Nat×Nat)}(h:LeftAt l p w)(i:Nat):Win.ix w i=p+i:=by
 rcases h with⟨rfl,rfl⟩|rfl
 ·exact (Nat.zero_add i).symm
 ·rfl
theorem lead_loop{α:Type}(l:List DB)(hl:l.length≤144)(p:Nat)(hp:p<l.length)(w:Option (Nat×Nat))(hw:LeftAt l p w)(q1 q2:List (List DB))(K:Int→Option α):
  ∀(j i fuel:Nat),p+1+i+j=l.length→j<fuel→iter (Fz21.B2 w q1 q2 l K K) fuel ((i+1:Nat):Int)=K (((i+1+lead l[p] (l.drop (p+1+i)):Nat)):Int)
 |_,_,0,_,hf=>absurd hf (Nat.not_lt_zero _)
 |0,i,f+1,hj,_=>by
  show Fz21.B2 w q1 q2 l K K _ _=_
  unfold Fz21.B2
  rw[at_len hw,decF (by omega),cond_false,List.drop_of_length_le (by omega)]
  rfl
 |j+1,i,f+1,hj,hf=>by
  show Fz21.B2 w q1 q2 l K K (iter (Fz21.B2 w q1 q2 l K K) f) _=_
  have ih:=lead_loop l hl p hp w hw q1 q2 K j (i+1) f (by omega) (by omega)
  generalize iter (Fz21.B2 w q1 q2 l K K) f=rec at *
  have h1:p+(i+1)<l.length:=by omega
  unfold Fz21.B2
  rw[at_len hw]
  simp only[decT (show ((i+1:Nat):Int)<((l.length-p:Nat):Int) by omega),inB_nat (show i+1<l.length-p by omega),cond_true,Int.toNat_natCast,at_ix hw,Nat.add_zero,getD_lt h1,getD_lt hp,eqB,w64n (show i+1<9223372036854775807 by omega)]
  rw[show inB (0:Int) (l.length-p)=true from inB_nat (i:=0) (by omega),cond_true,drop_cons (show p+1+i<l.length by omega)]
  have e:l[p+1+i]'(by omega)=l[p+(i+1)]:=by congr 1;omega
  rw[lead,e]
  by_cases c:l[p+(i+1)]=l[p]
  ·rw[decT c,if_pos c,cond_true,ih]
   congr 2
   rw[show p+1+(i+1)=p+1+i+1 by omega]
   omega
  ·rw[decF c,if_neg c,cond_false]
theorem pure_loop{α:Type}(l:List DB)(hl:l.length≤144)(q:List (List DB))(K:(Option (Nat×Nat))×List (List DB)→Option α)(K':List (List DB)→Option α)(hK:∀w o,K (w,o)=K' o):
  ∀(j p fuel:Nat) (w:Option (Nat×Nat)) (o:List (List DB)),p+j=l.length→j<fuel→LeftAt l p w→o.length≤13*p→iter (Fz21.B1 (cl PL pk) BIG q l K) fuel (w,o)=K' (o++pureOf (runs (l.drop p))):=by
 intro j
 induction j using Nat.strongRecOn with
 |_ j ih=>
  intro p fuel w o hj hf hw ho
  match fuel,hf with
  |f+1,hf=>
   show Fz21.B1 (cl PL pk) BIG q l K (iter (Fz21.B1 (cl PL pk) BIG q l K) f) (w,o)=_
   by_cases c:p<l.length
   ·have hd:=drop_cons c
    have hlead:=lead_le l[p] (l.drop (p+1))
    rw[List.length_drop] at hlead
    have ih:=fun w' o'=>ih (j-(lead l[p] (l.drop (p+1))+1)) (by omega) (p+(lead l[p] (l.drop (p+1))+1)) f w' o' (by omega) (by omega)
    generalize iter (Fz21.B1 (cl PL pk) BIG q l K) f=rec at *
    unfold Fz21.B1
    rw[at_len hw,decT (by omega),cond_true]
    simp only
    have e1:(1:Int)=((0+1:Nat):Int):=rfl
    rw[e1,lead_loop l hl p c w hw q o _ (l.length-p-1) 0 BIG (by omega) (big_lt (by omega))]
    simp only[Nat.add_zero,Nat.zero_add,at_ix hw,Int.toNat_natCast,Int.sub_zero]
    have e2:1+lead l[p] (l.drop (p+1))=lead l[p] (l.drop (p+1))+1:=by omega
    rw[e2]
    have et:List.take (lead l[p] (l.drop (p+1))+1) (List.drop p l)=List.replicate (lead l[p] (l.drop (p+1))+1) l[p]:=by
     rw[hd,List.take_succ_cons,lead_take,List.replicate_succ]
    have er:runs (l.drop p)=(l[p],((lead l[p] (l.drop (p+1))+1:Nat):Int))::runs (l.drop (p+(lead l[p] (l.drop (p+1))+1))):=by
     conv=>lhs;rw[hd]
     rw[runs_cons,List.drop_drop]
     congr 3
     omega
    rw[er,et]
    generalize hn:lead l[p] (l.drop (p+1))+1=n at *
    rw[inW_true (by omega) (by omega) (by omega),cond_true,cl_eq (show PL (List.replicate n l[p]) by unfold PL;rw[List.length_replicate];omega),Option.bind_some]
    have hpk:=pk_len (List.replicate n l[p])
    rw[List.length_replicate] at hpk
    rw[okS (by omega),cond_true,inW_true (by omega) (by omega) (by omega),cond_true]
    rw[ih _ _ (.inr (by congr 2;omega)) (by rw[List.length_append];omega),List.append_assoc]
    rfl
   ·unfold Fz21.B1
    rw[at_len hw,decF (by omega),cond_false,hK,List.drop_of_length_le (by omega)]
    simp[runs,pureOf]
theorem s_impl_PureStack:Fz21.S (cl wCs pureStack):=Fz21.of_cl s_ValidStack s_allOf s_packed fun s h k=>by
 unfold Fz21.pf pureStack
 rw[cl_eq h,Option.bind_some]
 cases c:stackOk s with
 |false=>rfl
 |true=>
  have hs:wS12 s:=⟨by unfold stackOk at c;simp only[Bool.and_eq_true,decide_eq_true_eq] at c;exact c.1,fun x hx=>h.1.2 x hx⟩
  have hw:=whole_len hs
  rw[if_pos rfl]
  simp only[Bool.not_true,cond_false]
  rw[cl_eq hs,Option.bind_some]
  generalize whole s=l at *
  rw[pure_loop l hw s _ (fun o=>cond (decide (((o.length:Nat):Int)>12)) (k ([],3)) (k (o,0))) (fun _ _=>rfl) l.length 0 BIG none [] (by omega) (big_lt (by omega)) (.inl ⟨rfl,rfl⟩) (by simp)]
  simp only[List.nil_append,List.drop_zero]
  by_cases q:(((pureOf (runs l)).length:Nat):Int)>12
  ·rw[decT q,if_pos q];rfl
  ·rw[decF q,if_neg q];rfl
theorem pure_out(s:List (List DB))(h:s.length≤1073741824):CrS (pureStack s).1:=by
 unfold pureStack
 split
 ·split
  ·exact⟨by simp,fun c hc=>by cases hc⟩
  ·rename_i q
   exact⟨by simp only;omega,pure_cr _⟩
 ·exact⟨by simp,fun c hc=>by cases hc⟩
theorem flatB_append(a b:List (List DB)):flatB (a++b)=flatB a++flatB b:=by unfold flatB;rw[List.flatMap_append]
theorem flatB_one(c:List DB):flatB [c]=allB c:=by unfold flatB;simp
theorem allB_zeros(n:Nat):allB (List.replicate n (0,0))=[]:=by
 unfold allB
 rw[List.filter_eq_nil_iff]
 intro x hx
 rw[(List.mem_replicate.1 hx).2]
 simp
theorem allB_all{l:List DB}(h:∀b,b∈l→b≠(0,0)):allB l=l:=by
 unfold allB
 rw[List.filter_eq_self]
 intro x hx
 rw[decF (h x hx)]
 rfl
theorem allB_append(a b:List DB):allB (a++b)=allB a++allB b:=by unfold allB;rw[List.filter_append]
def padC(seg:List DB):List DB:=seg++List.replicate (12-seg.length) (0,0)
theorem padC_set{seg:List DB}(h:seg.length<12)(b:DB):(padC seg).set seg.length b=padC (seg++[b]):=by
 unfold padC
 rw[List.set_append_right _ _ (Nat.le_refl _),Nat.sub_self,List.length_append,List.length_singleton]
 have e:12-seg.length=(12-(seg.length+1))+1:=by omega
 rw[e,List.replicate_succ,List.set_cons_zero,List.append_assoc]
 rfl
theorem flatB_pad{seg:List DB}(h:∀b,b∈seg→b≠(0,0)):allB (padC seg)=seg:=by
 unfold padC
 rw[allB_append,allB_zeros,allB_all h,List.append_nil]
theorem snoc_getDl{β:Type}(q:List β)(x d:β){n:Nat}(h:q.length=n):(q++[x]).getD n d=x:=by
 subst h
 rw[List.getD_eq_getElem?_getD,List.getElem?_append_right (Nat.le_refl _),Nat.sub_self]
 rfl
theorem snoc_setl{β:Type}(q:List β)(x y:β){n:Nat}(h:q.length=n):(q++[x]).set n y=q++[y]:=by
 subst h
 rw[List.set_append_right _ _ (Nat.le_refl _),Nat.sub_self]
 rfl
theorem pk_form{l:List DB}(hn:∀b,b∈l→b≠(0,0)):∀p,p≤l.length→∃(o:List (List DB)) (seg:List DB),
  pk (l.take p)=(if p % 12=0 then o else o++[padC seg])∧o.length=p / 12∧seg.length=p % 12∧flatB o++seg=l.take p∧(∀b,b∈seg→b≠(0,0))∧(∀c,c∈o→∀b,b∈c→b∈l)
 |0,_=>⟨[],[],by simp[pk],rfl,rfl,by simp[flatB],by simp,by simp⟩
 |p+1,h=>by
  obtain⟨o,seg,h1,h2,h3,h4,h5,h6⟩:=pk_form hn p (by omega)
  have hb:=hn _ (List.getElem_mem h)
  have ht:l.take (p+1)=l.take p++[l[p]]:=List.take_succ_eq_append_getElem h
  have hs:∀b,b∈seg→b∈l:=fun b q=>List.take_subset p l (by rw[←h4];exact List.mem_append.2 (.inr q))
  have hlt:p % 12<12:=Nat.mod_lt _ (by omega)
  have key:pk (l.take (p+1))=o++[padC (seg++[l[p]])]:=by
   rw[pk_take l h,h1]
   unfold stepPk
   by_cases c:p % 12=0
   ·rw[if_pos c,if_pos c]
    have hs0:seg=[]:=List.eq_nil_of_length_eq_zero (by omega)
    subst hs0
    rw[snoc_getDl _ _ _ h2,snoc_setl _ _ _ h2,c]
    rfl
   ·rw[if_neg c,if_neg c,snoc_getDl _ _ _ h2,snoc_setl _ _ _ h2,←h3,padC_set (by omega)]
  have hs2:∀b,b∈seg++[l[p]]→b≠(0,0):=fun b q=>by
   rcases List.mem_append.1 q with q|q
   ·exact h5 b q
   ·rw[List.mem_singleton.1 q];exact hb
  have hs3:∀b,b∈seg++[l[p]]→b∈l:=fun b q=>by
   rcases List.mem_append.1 q with q|q
   ·exact hs b q
   ·rw[List.mem_singleton.1 q];exact List.getElem_mem h
  by_cases c:(p+1) % 12=0
  ·refine⟨o++[padC (seg++[l[p]])],[],by rw[if_pos c,key],by rw[List.length_append,List.length_singleton];omega,by rw[c];rfl,?_,by simp,?_⟩
   ·rw[flatB_append,flatB_one,flatB_pad hs2,ht,←h4]
    simp
   ·intro x hx b hbx
    rcases List.mem_append.1 hx with q|q
    ·exact h6 x q b hbx
    ·rw[List.mem_singleton.1 q] at hbx
     unfold padC at hbx
     rw[List.length_append,List.length_singleton,show 12-(seg.length+1)=0 by omega] at hbx
     rw[List.replicate_zero,List.append_nil] at hbx
     exact hs3 b hbx
  ·exact⟨o,seg++[l[p]],by rw[if_neg c,key],by omega,by rw[List.length_append,List.length_singleton];omega,by rw[ht,←h4,List.append_assoc],hs2,h6⟩
theorem pk_flat{l:List DB}(hn:∀b,b∈l→b≠(0,0)):flatB (pk l)=l:=by
 obtain⟨o,seg,h1,h2,h3,h4,h5,_⟩:=pk_form hn l.length (Nat.le_refl _)
 rw[List.take_length] at h1 h4
 rw[h1]
 split
 ·rename_i c
  rw[←h4,List.eq_nil_of_length_eq_zero (h3.trans c),List.append_nil]
 ·rw[flatB_append,flatB_one,flatB_pad h5,h4]
theorem pk_mem{l:List DB}(hn:∀b,b∈l→b≠(0,0)):∀c,c∈pk l→∀b,b∈c→b∈l∨b=(0,0):=by
 obtain⟨o,seg,h1,h2,h3,h4,h5,h6⟩:=pk_form hn l.length (Nat.le_refl _)
 rw[List.take_length] at h1 h4
 intro c hc b hb
 have key:∀b,b∈padC seg→b∈l∨b=(0,0):=fun b q=>by
  rcases List.mem_append.1 q with q|q
  ·exact .inl (by rw[←h4];exact List.mem_append.2 (.inr q))
  ·exact .inr (List.mem_replicate.1 q).2
 rw[h1] at hc
 split at hc
 ·exact .inl (h6 c hc b hb)
 ·rcases List.mem_append.1 hc with q|q
  ·exact .inl (h6 c q b hb)
  ·rw[List.mem_singleton.1 q] at hb
   exact key b hb
theorem flat_ne{s:List (List DB)}{b:DB}(h:b∈flatB s):b≠(0,0):=by
 obtain⟨c,_,hb⟩:=List.mem_flatMap.1 h
 have:=(List.mem_filter.1 hb).2
 intro e
 rw[e] at this
 simp at this
theorem whole_mem{s:List (List DB)}{b:DB}:b∈whole s↔b∈flatB s:=(sortB_perm _).mem_iff
theorem whole_ne{s:List (List DB)}:∀b,b∈whole s→b≠(0,0):=fun b h=>flat_ne (whole_mem.1 h)
theorem sortB_self{l:List DB}(h:SortedB l):sortB l=l:=List.Perm.eq_of_pairwise (le:=leB) (fun a b _ _ h1 h2=>leB_anti h1 h2) (sortB_sorted l) h (sortB_perm l)
theorem sortB_permeq{a b:List DB}(hp:a.Perm b):sortB a=sortB b:=
 List.Perm.eq_of_pairwise (le:=leB) (fun a b _ _ h1 h2=>leB_anti h1 h2) (sortB_sorted _) (sortB_sorted _) ((sortB_perm _).trans (hp.trans (sortB_perm _).symm))
theorem whole_sorted(s:List (List DB)):SortedB (whole s):=sortB_sorted _
theorem whole_pk{l:List DB}(hs:SortedB l)(hn:∀b,b∈l→b≠(0,0)):whole (pk l)=l:=by
 unfold whole
 rw[pk_flat hn,sortB_self hs]
theorem runs_rep:∀l:List DB,(runs l).flatMap (fun x=>List.replicate x.2.toNat x.1)=l:=by
 intro l
 induction h:l.length using Nat.strongRecOn generalizing l with
 |_ n ih=>
  match l,h with
  |[],_=>rfl
  |b::l,h=>
   have hl:=lead_le b l
   have ht:=lead_take b l
   rw[runs_cons,List.flatMap_cons]
   simp only[Int.toNat_natCast]
   rw[ih (l.drop (lead b l)).length (by rw[List.length_drop,←h,List.length_cons];omega) _ rfl,List.replicate_succ,←ht,List.cons_append,List.take_append_drop]
theorem runs_mem{l:List DB}{x:DS}(hx:x∈runs l):1≤x.2∧x.1∈l:=by
 induction h:l.length using Nat.strongRecOn generalizing l with
 |_ n ih=>
  match l,h,hx with
  |b::l,h,hx=>
   have hl:=lead_le b l
   rw[runs_cons] at hx
   rcases List.mem_cons.1 hx with rfl|q
   ·exact⟨by show (1:Int)≤((lead b l+1:Nat):Int);omega,List.mem_cons_self ..⟩
   ·obtain⟨h1,h2⟩:=ih (l.drop (lead b l)).length (by rw[List.length_drop,←h,List.length_cons];omega) q rfl
    exact⟨h1,List.mem_cons_of_mem _ (List.drop_subset _ _ h2)⟩
theorem pure_flat:∀(L:List DS),(∀x,x∈L→x.1≠(0,0))→flatB (pureOf L)=L.flatMap fun x=>List.replicate x.2.toNat x.1
 |[],_=>rfl
 |x::L,h=>by
  have ih:=pure_flat L fun y hy=>h y (List.mem_cons_of_mem _ hy)
  unfold pureOf at *
  rw[List.flatMap_cons,flatB_append,ih,List.flatMap_cons,pk_flat (fun b hb=>by rw[(List.mem_replicate.1 hb).2];exact h x (List.mem_cons_self ..))]
theorem runs_ne{l:List DB}(h:∀b,b∈l→b≠(0,0)):∀x,x∈runs l→x.1≠(0,0):=fun x hx=>h _ (runs_mem hx).2
theorem whole_pure{l:List DB}(hs:SortedB l)(hn:∀b,b∈l→b≠(0,0)):whole (pureOf (runs l))=l:=by
 unfold whole
 rw[pure_flat _ (runs_ne hn),runs_rep,sortB_self hs]
theorem pure_mem{l:List DB}(hn:∀b,b∈l→b≠(0,0)){c:List DB}(hc:c∈pureOf (runs l)):∃x:DB,x∈l∧∀b,b∈c→b=x∨b=(0,0):=by
 obtain⟨x,hx,q⟩:=List.mem_flatMap.1 hc
 refine⟨x.1,(runs_mem hx).2,fun b hb=>?_⟩
 rcases pk_mem (fun b hb=>by rw[(List.mem_replicate.1 hb).2];exact runs_ne hn x hx) c q b hb with q|q
 ·exact .inl (List.mem_replicate.1 q).2
 ·exact .inr q
theorem pure_one{l:List DB}(hn:∀b,b∈l→b≠(0,0)){c:List DB}(hc:c∈pureOf (runs l)):oneB (allB c)=true:=by
 obtain⟨x,_,h⟩:=pure_mem hn hc
 have hx:∀b,b∈allB c→b=x:=fun b hb=>by
  have h2:=List.mem_filter.1 hb
  rcases h b h2.1 with q|q
  ·exact q
  ·have:=h2.2
   rw[q] at this
   simp at this
 rw[oneB_iff]
 intro b hb
 match h:allB c,hb with
 |y::r,hb=>
  rw[h] at hx
  show b=y
  rw[hx b hb,hx y (List.mem_cons_self ..)]
def sumS:List DS→Int
 |[]=>0
 |x::l=>x.2+sumS l
theorem sum_runs:∀l:List DB,sumS (runs l)=(l.length:Int):=by
 intro l
 induction h:l.length using Nat.strongRecOn generalizing l with
 |_ n ih=>
  match l,h with
  |[],h=>subst h;rfl
  |b::l,h=>
   have hl:=lead_le b l
   rw[runs_cons]
   unfold sumS
   rw[ih (l.drop (lead b l)).length (by rw[List.length_drop,←h,List.length_cons];omega) _ rfl,List.length_drop,←h,List.length_cons]
   show ((lead b l+1:Nat):Int)+_=_
   omega
theorem pure_ge:∀(L:List DS),(∀x,x∈L→0≤x.2)→sumS L≤12*((pureOf L).length:Int)
 |[],_=>by simp[sumS,pureOf]
 |x::L,h=>by
  have ih:=pure_ge L fun y hy=>h y (List.mem_cons_of_mem _ hy)
  have h0:=h x (List.mem_cons_self ..)
  unfold pureOf at *
  rw[List.flatMap_cons,List.length_append,pk_len,List.length_replicate]
  unfold sumS
  omega
theorem compactB_nodup{l:List DB}(h:SortedB l):(compact l).Nodup:=by
 have key:∀j,j≤l.length→(compact (l.take j)).Nodup:=by
  intro j
  induction j with
  |zero=>intro _;simp[compact]
  |succ j ihj=>
   intro hj
   match j,ihj,hj with
   |0,_,hj=>
    match l,hj with
    |x::l,_=>simp[compact,cmpGo]
   |j+1,ihj,hj=>
    rw[compact_succ (0,0) (by omega)]
    split
    ·rw[List.append_nil];exact ihj (by omega)
    ·rename_i hne
     rw[List.nodup_append]
     refine⟨ihj (by omega),by simp,fun a ha b hb=>?_⟩
     obtain rfl:=List.mem_singleton.1 hb
     intro e
     have hm:=compact_sub _ _ ha
     rw[e,getD_lt (by omega:j+1<l.length)] at hm
     have:=sorted_last h (by omega) hm
     rw[getD_lt (by omega:j+1<l.length),getD_lt (by omega:j<l.length)] at hne
     exact hne this
 have:=key l.length (Nat.le_refl _)
 rwa[List.take_length] at this
theorem compact_sorted{l:List DB}(h:SortedB l):SortedB (compact l):=by
 have key:∀j,j≤l.length→SortedB (compact (l.take j)):=by
  intro j
  induction j with
  |zero=>intro _;exact List.Pairwise.nil
  |succ j ihj=>
   intro hj
   match j,ihj,hj with
   |0,_,hj=>
    rw[compact_one (by omega)]
    match l,hj with
    |x::l,_=>exact List.pairwise_singleton _ _
   |j+1,ihj,hj=>
    rw[compact_succ (0,0) (by omega)]
    split
    ·rw[List.append_nil];exact ihj (by omega)
    ·refine List.pairwise_append.2 ⟨ihj (by omega),List.pairwise_singleton _ _,fun a ha b hb=>?_⟩
     rw[List.mem_singleton.1 hb]
     have hm:=compact_sub _ _ ha
     obtain⟨i,hi,rfl⟩:=List.getElem_of_mem hm
     rw[List.length_take] at hi
     rw[List.getElem_take]
     have:=h.get (i:=i) (j:=j+1) (by omega) (by omega)
     rw[getD_lt (by omega:i<l.length)] at this
     exact this
 have:=key l.length (Nat.le_refl _)
 rwa[List.take_length] at this
theorem runs_order{l:List DB}(h:SortedB l){i:Nat}(hi:i+1<(runs l).length):bLt ((runs l)[i]'(by omega)).1 ((runs l)[i+1]'hi).1=true:=by
 have e:(runs l).map (·.1)=compact l:=by
  have:=runs_tally l h l.length (Nat.le_refl _)
  rw[List.take_length] at this
  rw[this]
  unfold tally
  rw[List.map_map]
  exact List.map_id _
 have hl:(runs l).length=(compact l).length:=by rw[←e,List.length_map]
 have e1:∀(k:Nat) (hk:k<(runs l).length),((runs l)[k]).1=(compact l)[k]'(by omega):=fun k hk=>by
  have:=List.getElem_map (f:=fun x:DS=>x.1) (l:=runs l) (i:=k) (h:=by rw[List.length_map];exact hk)
  rw[←this]
  simp only[e]
 rw[e1 i (by omega),e1 (i+1) hi]
 have h1:=List.pairwise_iff_getElem.1 (compact_sorted h) i (i+1) (by omega) (by omega) (by omega)
 have h2:(compact l)[i]'(by omega)≠(compact l)[i+1]'(by omega):=fun q=>by
  have:=(List.getElem_inj (compactB_nodup h)).1 q
  omega
 cases c:bLt ((compact l)[i]'(by omega)) ((compact l)[i+1]'(by omega)) with
 |true=>rfl
 |false=>exact absurd (leB_anti h1 c) h2
theorem runs_count{l:List DB}(h:SortedB l){x:DS}(hx:x∈runs l):x.2=cntB x.1 l:=by
 have:=runs_tally l h l.length (Nat.le_refl _)
 rw[List.take_length] at this
 rw[this] at hx
 unfold tally at hx
 obtain⟨b,_,rfl⟩:=List.mem_map.1 hx
 rfl
def cntS(b:DB):List (List DB)→Int
 |[]=>0
 |c::s=>cntB b c+cntS b s
theorem cntS_flat{b:DB}(hb:b≠(0,0)):∀s:List (List DB),cntS b s=cntB b (flatB s)
 |[]=>rfl
 |c::s=>by
  unfold cntS flatB
  rw[List.flatMap_cons,cntS_flat hb s,←cntB_all hb c]
  exact (countI_append _ _ _).symm
theorem cntS_whole{b:DB}(hb:b≠(0,0))(s:List (List DB)):cntS b s=cntB b (whole s):=by
 rw[cntS_flat hb s]
 exact (countI_perm _ (sortB_perm _)).symm
theorem eqCn(a b:DS):eqV (.st (.pair (.st (.pair (.int .u8) (.int .i16))) (.int .i64))) a b=decide (a=b):=by
 obtain⟨⟨a1,a2⟩,a3⟩:=a
 obtain⟨⟨b1,b2⟩,b3⟩:=b
 simp only[eqV]
 rw[Bool.eq_iff_iff]
 simp
theorem s_SameCounts:Fz52.S (cl PL1 fun x=>decide (x.1=x.2)):=Fz52.of_cl fun x h k=>by
 obtain⟨a,b⟩:=x
 have h:a.length≤1073741824:=h
 show Fz52.pf BIG a b k=k (decide (a=b))
 unfold Fz52.pf
 by_cases c:a.length=b.length
 ·rw[bneF (by omega),cond_false]
  have hz:(a.zip b).length=a.length:=by simp[c]
  rw[iter_first (a.zip b) (fun i=>(i:Int)) (fun p=>!decide (p.1=p.2)) (fun _ _=>k false) (k true) (x:=0) rfl (big_lt (by omega)) ?_ ?_,firstOr_const,any_eq a b c]
  ·by_cases e:a=b<;>simp[e]
  ·intro i hi rec
   have h1:i<a.length:=by omega
   have h2:i<b.length:=by omega
   unfold Fz52.B1
   rw[zip_at hi]
   simp only[decT (show (i:Int)<(a.length:Int) by omega),inB_nat h1,inB_nat h2,cond_true,Int.toNat_natCast,getD_lt h1,getD_lt h2,eqCn,w64n (show i<9223372036854775807 by omega)]
  ·intro rec
   unfold Fz52.B1
   rw[decF (by omega)]
   rfl
 ·rw[bneT (by omega),cond_true,decF (fun e=>c (by rw[e]))]
theorem s_SameStack:Fz53.S (cl CrS2 fun x=>decide (x.1=x.2)):=Fz53.of_cl fun x h k=>by
 obtain⟨a,b⟩:=x
 obtain⟨ha,hb⟩:=h
 have ha:CrS a:=ha
 have hb:CrS b:=hb
 have h:a.length≤1073741824:=ha.1
 show Fz53.pf BIG a b k=k (decide (a=b))
 unfold Fz53.pf
 by_cases c:a.length=b.length
 ·rw[bneF (by omega),cond_false]
  have hz:(a.zip b).length=a.length:=by simp[c]
  rw[iter_first (a.zip b) (fun i=>(i:Int)) (fun p=>!decide (p.1=p.2)) (fun _ _=>k false) (k true) (x:=0) rfl (big_lt (by omega)) ?_ ?_,firstOr_const,any_eq a b c]
  ·by_cases e:a=b<;>simp[e]
  ·intro i hi rec
   have h1:i<a.length:=by omega
   have h2:i<b.length:=by omega
   unfold Fz53.B1
   rw[zip_at hi]
   simp only[decT (show (i:Int)<(a.length:Int) by omega),inB_nat h1,inB_nat h2,cond_true,Int.toNat_natCast,getD_lt h1,getD_lt h2,eqC (ha.at h1) (hb.at h2),w64n (show i<9223372036854775807 by omega)]
  ·intro rec
   unfold Fz53.B1
   rw[decF (by omega)]
   rfl
 ·rw[bneT (by omega),cond_true,decF (fun e=>c (by rw[e]))]
theorem s_equalC:Fz40.S (cl CrS2 fun x=>decide (x.1=x.2)):=Fz40.of_cl fun x h k=>by
 obtain⟨a,b⟩:=x
 obtain⟨ha,hb⟩:=h
 have ha:CrS a:=ha
 have hb:CrS b:=hb
 have h:a.length≤1073741824:=ha.1
 show Fz40.pf BIG a b k=k (decide (a=b))
 unfold Fz40.pf
 by_cases c:a.length=b.length
 ·rw[bneF (by omega),cond_false]
  have hz:(a.zip b).length=a.length:=by simp[c]
  rw[iter_first (a.zip b) (fun i=>(i:Int)) (fun p=>!decide (p.1=p.2)) (fun _ _=>k false) (k true) (x:=0) rfl (big_lt (by omega)) ?_ ?_,firstOr_const,any_eq a b c]
  ·by_cases e:a=b<;>simp[e]
  ·intro i hi rec
   have h1:i<a.length:=by omega
   have h2:i<b.length:=by omega
   unfold Fz40.B1
   rw[zip_at hi]
   simp only[decT (show (i:Int)<(a.length:Int) by omega),inB_nat h1,inB_nat h2,cond_true,Int.toNat_natCast,getD_lt h1,getD_lt h2,eqC (ha.at h1) (hb.at h2),w64n (show i<9223372036854775807 by omega)]
  ·intro rec
   unfold Fz40.B1
   rw[decF (by omega)]
   rfl
 ·rw[bneT (by omega),cond_true,decF (fun e=>c (by rw[e]))]
theorem s_impl_SameStack:Fz22.S (cl CrS2 fun x=>decide (x.1=x.2)):=Fz22.of_cl s_equalC fun x h k=>by
 obtain⟨a,b⟩:=x
 show Fz22.pf _ BIG a b k=k (decide (a=b))
 unfold Fz22.pf
 rw[cl_eq h,Option.bind_some]
def PvS(s:List (List DB)):Prop:=wCs s∧stackOk s=true
theorem PvS.s12{s:List (List DB)}(h:PvS s):wS12 s:=by
 have c:=h.2
 unfold stackOk at c
 simp only[Bool.and_eq_true,decide_eq_true_eq] at c
 exact⟨c.1,fun x hx=>h.1.1.2 x hx⟩
theorem PvS.pl{s:List (List DB)}(h:PvS s):PL (whole s):=by
 have:=whole_len h.s12
 unfold PL
 omega
def PCo(x:List (List DB)×DB):Prop:=CrS x.1
theorem s_countOfS:Fz30.S (cl PCo fun x=>cntS x.2 x.1):=Fz30.of_cl fun x h k=>by
 obtain⟨s,b⟩:=x
 have h:CrS s:=h
 have hl:=h.1
 show Fz30.pf BIG s b k=k (cntS b s)
 unfold Fz30.pf
 refine (iter_list s (fun p (n:Int)=>(n,(p:Int))) (fun q n=>k (n+cntS b q)) (fun p n=>0≤n∧n≤12*p) (c:=0) rfl (big_lt (by omega)) ⟨by omega,by omega⟩ ?_ ?_).trans (by rw[Int.zero_add])
 ·rintro p hp n rec ⟨h1,h2⟩ hrec
  have hc:=h.at hp
  have:=countI_le (fun y=>decide (y=b)) s[p]
  rw[show s[p].length=12 from hc] at this
  unfold Fz30.B1
  rw[decT (by simp only;omega),cond_true]
  simp only[inB_nat hp,cond_true,Int.toNat_natCast,getD_lt hp]
  rw[count2 _ _ s[p] hc _ b n h1 (by omega)]
  simp only
  rw[w64n (show p<9223372036854775807 by omega)]
  refine (hrec (n+countI (fun y=>decide (y=b)) s[p]) (by omega)).trans ?_
  show k (n+countI (fun y=>decide (y=b)) s[p]+cntS b _)=k (n+(cntB b s[p]+cntS b _))
  rw[Int.add_assoc]
 ·rintro n rec _
  unfold Fz30.B1
  rw[decF (by simp),cond_false]
  show k n=k (n+0)
  rw[Int.add_zero]
def PCn(x:List (List DB)×DB):Prop:=PvS x.1∧wB x.2∧validB x.2=true
theorem s_impl_CountOf:Fz7.S (cl PCn fun x=>(cntS x.2 x.1,0)):=Fz7.of_cl s_ValidStack s_ValidBottle s_countOfS fun x ⟨h1,h2,h3⟩ k=>by
 obtain⟨s,b⟩:=x
 show Fz7.pf _ _ _ BIG s b k=k (cntS b s,0)
 unfold Fz7.pf
 rw[cl_eq h1.1,Option.bind_some,h1.2,Bool.not_true,cond_false,cl_eq h2,Option.bind_some,h3,Bool.not_true,cond_false,cl_eq (show PCo (s,b) from h1.1.1),Option.bind_some]
theorem s_impl_CompareB:Fz6.S (tot cmpB):=Fz6.of_tot s_compare fun x k=>by
 obtain⟨a,b⟩:=x
 show Fz6.pf _ BIG a b k=k (cmpB (a,b))
 unfold Fz6.pf
 rw[tot_eq,Option.bind_some]
theorem counts_loop{α:Type}{l:List DB}(hl:l.length≤1000000)(s:List (List DB))(K:Int×List DS→Option α):
  iter (Fz8.B1 (((List.length l):Nat):Int) s l K) BIG ((0:Int),([]:List DS))=K ((l.length:Int),runs l):=by
 refine iter_list l (fun p (o:List DS)=>((p:Int),o)) (fun _ _=>K ((l.length:Int),runs l)) (fun p o=>o=runs (l.take p)) (c:=[]) rfl (big_lt (by omega)) rfl ?_ ?_
 ·rintro p hp o rec rfl hrec
  obtain⟨b1,b2⟩:=runs_bd l p (by omega)
  have hr:=runs_take l hp
  generalize runs (l.take p)=o at *
  unfold Fz8.B1
  simp only[decT (show (p:Int)<(l.length:Int) by omega),inB_nat hp,cond_true,Int.toNat_natCast,getD_lt hp,w64n (show p<9223372036854775807 by omega),eqB]
  rcases List.eq_nil_or_concat o with rfl|⟨q,y,rfl⟩
  ·simp only[List.length_nil]
   rw[decF (by simp),cond_false,okS (by simp),cond_true]
   exact hrec _ (by rw[hr];rfl)
  ·rw[List.concat_eq_append] at *
   have hn:=b2 y (by simp)
   have hq:(q++[y]).length=q.length+1:=by simp
   rw[hq] at b1
   have e:IntKind.i64.wrap ((((List.length (q++[y])):Nat):Int)-1)=(q.length:Int):=by rw[hq,w64 (by omega) (by omega)];omega
   rw[decT (show (((List.length (q++[y])):Nat):Int)>0 by rw[hq];omega),cond_true,e]
   simp only[inB_nat (show q.length<(q++[y]).length by omega),cond_true,Int.toNat_natCast,snoc_getD]
   by_cases c:y.1=l[p]
   ·rw[decT c,cond_true,snoc_set,w64 (by omega) (by omega)]
    refine hrec _ ?_
    rw[hr]
    unfold addRun
    simp[c]
   ·rw[decF c,cond_false,okS (by simp only[List.length_append,List.length_singleton];omega),cond_true]
    refine hrec _ ?_
    rw[hr]
    unfold addRun
    simp[c]
 ·rintro o rec rfl
  unfold Fz8.B1
  rw[decF (by simp),cond_false,List.take_of_length_le (Nat.le_refl _)]
theorem s_impl_CountsIn:Fz8.S (cl PvS fun s=>(runs (whole s),0)):=Fz8.of_cl s_ValidStack s_allOf fun s h k=>by
 show Fz8.pf _ _ BIG s k=k (runs (whole s),0)
 unfold Fz8.pf
 rw[cl_eq h.1,Option.bind_some,h.2,Bool.not_true,cond_false,cl_eq h.s12,Option.bind_some]
 have:=whole_len h.s12
 exact counts_loop (by omega) s _
theorem s_spec_CountsIn:Fz46.S (cl PvS fun s=>(runs (whole s),0)):=Fz46.of_cl s_l01Stack s_l01Whole s_l01Counts fun s h k=>by
 show Fz46.pf _ _ _ BIG s k=k (runs (whole s),0)
 unfold Fz46.pf
 rw[cl_eq h.1,Option.bind_some,h.2,Bool.not_true,cond_false,cl_eq h.s12,Option.bind_some,cl_eq h.pl,Option.bind_some]
theorem s_impl_PackStack:Fz20.S (cl PvS fun s=>(pk (whole s),0)):=Fz20.of_cl s_ValidStack s_allOf s_packed fun s h k=>by
 show Fz20.pf _ _ _ BIG s k=k (pk (whole s),0)
 unfold Fz20.pf
 rw[cl_eq h.1,Option.bind_some,h.2,Bool.not_true,cond_false,cl_eq h.s12,Option.bind_some,cl_eq h.pl,Option.bind_some]
theorem s_spec_PackStack:Fz50.S (cl PvS fun s=>(pk (whole s),0)):=Fz50.of_cl s_l01Stack s_l01Whole s_l01Packed fun s h k=>by
 show Fz50.pf _ _ _ BIG s k=k (pk (whole s),0)
 unfold Fz50.pf
 rw[cl_eq h.1,Option.bind_some,h.2,Bool.not_true,cond_false,cl_eq h.s12,Option.bind_some,cl_eq h.pl,Option.bind_some]
def PFw(n:Int):Prop:=0≤n∧n≤1000000
theorem s_FewestCrates:Fz15.S (cl PFw fun n=>((n+11) / 12,0)):=Fz15.of_cl s_within fun (n:Int) ⟨h0,h1⟩ k=>by
 show Fz15.pf _ BIG n k=k ((n+11) / 12,0)
 unfold Fz15.pf
 rw[tot_eq,Option.bind_some]
 simp only
 rw[decT h0,decT h1,beqF (show (12:Int)≠0 by omega),w64 (show -9223372036854775808≤n+12 by omega) (by omega),w64 (show -9223372036854775808≤n+12-1 by omega) (by omega),Int.tdiv_eq_ediv_of_nonneg (by omega),w64 (by omega) (by omega),show n+12-1=n+11 by omega]
 rfl
theorem s_GrossOf:Fz18.S (cl PFw fun n=>(n / 144,n % 144 / 12,n % 12,0)):=Fz18.of_cl s_within fun (n:Int) ⟨h0,h1⟩ k=>by
 show Fz18.pf _ BIG n k=k (n / 144,n % 144 / 12,n % 12,0)
 unfold Fz18.pf
 rw[tot_eq,Option.bind_some]
 simp only
 rw[decT h0,decT h1,beqF (show (12:Int)≠0 by omega),beqF (show (144:Int)≠0 by omega),Int.tdiv_eq_ediv_of_nonneg h0,Int.tmod_eq_emod_of_nonneg h0,Int.tmod_eq_emod_of_nonneg h0,Int.tdiv_eq_ediv_of_nonneg (show 0≤n % 144 by omega),w64 (by omega) (by omega),w64 (by omega) (by omega)]
 rfl
theorem s_impl_FreePlaces:Fz17.S (cl PvC fun a=>(freeL a,0)):=Fz17.of_cl s_ValidCrate s_crateFree fun a ⟨h1,h2⟩ k=>by
 show Fz17.pf _ _ BIG a k=k (freeL a,0)
 unfold Fz17.pf
 rw[cl_eq h1,Option.bind_some,h2,Bool.not_true,cond_false,cl_eq (show Cr a from h1.1),Option.bind_some]
 rfl
theorem s_impl_BottlesIn:Fz5.S (cl PvC fun a=>(allB a,0)):=Fz5.of_cl s_ValidCrate s_crateBottles fun a ⟨h1,h2⟩ k=>by
 show Fz5.pf _ _ BIG a k=k (allB a,0)
 unfold Fz5.pf
 rw[cl_eq h1,Option.bind_some,h2,Bool.not_true,cond_false,cl_eq (show Cr a from h1.1),Option.bind_some]
def usedL(a:List DB):List Int:=idxs (fun x=>!decide (x=(0,0))) 0 a
theorem idxs_step{β:Type}{p:β→Bool}(a:List β){i:Nat}(hi:i<a.length):idxs p 0 (a.take (i+1))=idxs p 0 (a.take i)++(if p a[i]=true then [(i:Int)] else [])∧(idxs p 0 (a.take i)).length≤i:=by
 have hbd:=idxs_len p (a.take i) 0
 rw[List.length_take] at hbd
 have e:=idxs_snoc p a[i] (a.take i) 0
 rw[←List.take_succ_eq_append_getElem hi,List.length_take,Nat.min_eq_left (by omega),Nat.zero_add] at e
 exact⟨e,by omega⟩
theorem s_l01Used:Fz64.S (cl Cr usedL):=Fz64.of_cl s_l01Free fun a h k=>by
 have ha:a.length=12:=h
 show Fz64.pf _ BIG a k=k (usedL a)
 unfold Fz64.pf
 refine iter_list a (fun i (o:List Int)=>((i:Int),o)) (fun _ _=>k (usedL a)) (fun i o=>o=idxs (fun x=>!decide (x=(0,0))) 0 (a.take i)) (c:=[]) rfl (big_lt (by omega)) rfl ?_ ?_
 ·rintro i hi o rec rfl hrec
  obtain⟨e,hbd⟩:=idxs_step (p:=fun x:DB=>!decide (x=(0,0))) a hi
  have hbd2:(idxs (fun x:DB=>!decide (x=(0,0))) 0 (a.take i)).length+1≤4294967296:=by omega
  unfold Fz64.B1
  simp only[decT (show (i:Int)<12 by omega),inB_nat (show i<12 by omega),cond_true,Int.toNat_natCast,getD_lt hi,tot_eq,Option.bind_some,w64n (show i<9223372036854775807 by omega)]
  by_cases q:a[i]=(0,0)
  ·rw[decT q,Bool.not_true,if_neg (by simp),List.append_nil] at e
   rw[decT q]
   exact hrec _ e.symm
  ·rw[decF q,Bool.not_false,if_pos rfl] at e
   rw[decF q,okS (by simp only[List.length_singleton];exact hbd2)]
   exact hrec _ e.symm
 ·rintro o rec rfl
  unfold Fz64.B1
  rw[decF (by simp only;omega),List.take_of_length_le (Nat.le_refl _)]
  rfl
def stepF(fr us:List Int)(s:List DB×List DB)(k:Nat):List DB×List DB:=(s.1.set (fr.getD k 0).toNat (s.2.getD (us.getD k 0).toNat (0,0)),s.2.set (us.getD k 0).toNat (0,0))
def fillN(fr us:List Int)(a b:List DB)(n:Nat):List DB×List DB:=(List.range n).foldl (stepF fr us) (a,b)
def fillF(a b:List DB):List DB×List DB:=fillN (freeL a) (usedL b) a b (min (freeL a).length (usedL b).length)
theorem fillN_succ(fr us:List Int)(a b:List DB)(n:Nat):fillN fr us a b (n+1)=stepF fr us (fillN fr us a b n) n:=by
 unfold fillN
 rw[List.range_succ,List.foldl_append]
 rfl
theorem idxs_first{β:Type}{p:β→Bool}:∀{l:List β} {k:Nat} {i:Int} {r:List Int},idxs p k l=i::r→∃n:Nat,i=((k+n:Nat):Int)∧n<l.length∧(∀d,p (l.getD n d)=true)∧∀y,p y=false→idxs p k (l.set n y)=r
 |[],k,i,r,h=>by simp[idxs] at h
 |x::l,k,i,r,h=>by
  unfold idxs at h
  cases c:p x with
  |true=>
   rw[c] at h
   simp only[cond_true,if_true] at h
   obtain⟨h1,h2⟩:=List.cons.inj h
   refine⟨0,by rw[←h1,Nat.add_zero],by simp,fun d=>c,fun y hy=>?_⟩
   rw[List.set_cons_zero]
   unfold idxs
   rw[hy]
   exact h2
  |false=>
   rw[c] at h
   obtain⟨n,h1,h2,h3,h4⟩:=idxs_first h
   refine⟨n+1,by rw[h1];congr 1;omega,by simp;omega,fun d=>h3 d,fun y hy=>?_⟩
   rw[List.set_cons_succ]
   unfold idxs
   rw[c]
   exact h4 y hy
theorem perm_move{a b:List DB}{f u:Nat}(hf:f<a.length)(hu:u<b.length)(h0:a[f]=(0,0)):((a.set f b[u])++(b.set u (0,0))).Perm (a++b):=by
 have h1:f<(a++b).length:=by rw[List.length_append];omega
 have h2:a.length+u<(a++b).length:=by rw[List.length_append];omega
 have:=List.set_set_perm (i:=f) (j:=a.length+u) h1 h2
 have e1:(a++b)[f]=a[f]:=List.getElem_append_left hf
 have e2:(a++b)[a.length+u]=b[u]:=by simp
 rw[e1,e2,h0,List.set_append_left _ _ hf,List.set_append_right _ _ (by rw[List.length_set];omega),List.length_set,Nat.add_sub_cancel_left] at this
 exact this
structure FillI(a b:List DB)(n:Nat)(s:List DB×List DB):Prop where
 l1:s.1.length=12
 l2:s.2.length=12
 pm:(s.1++s.2).Perm (a++b)
 fr:freeL s.1=(freeL a).drop n
 us:usedL s.2=(usedL b).drop n
theorem fill_step{a b:List DB}{n:Nat}{s:List DB×List DB}(h:FillI a b n s)(hf:n<(freeL a).length)(hu:n<(usedL b).length):
  (∃f:Nat,(freeL a).getD n 0=(f:Int)∧f<12)∧(∃u:Nat,(usedL b).getD n 0=(u:Int)∧u<12)∧FillI a b (n+1) (stepF (freeL a) (usedL b) s n):=by
 have e1:=h.fr
 have e2:=h.us
 rw[List.drop_eq_getElem_cons hf] at e1
 rw[List.drop_eq_getElem_cons hu] at e2
 obtain⟨f,f1,f2,f3,f4⟩:=idxs_first e1
 obtain⟨u,u1,u2,u3,u4⟩:=idxs_first e2
 rw[Nat.zero_add] at f1 u1
 have hl1:=h.l1
 have hl2:=h.l2
 have ef:(freeL a).getD n 0=(f:Int):=by rw[getD_lt hf,f1]
 have eu:(usedL b).getD n 0=(u:Int):=by rw[getD_lt hu,u1]
 refine⟨⟨f,ef,by omega⟩,⟨u,eu,by omega⟩,?_⟩
 unfold stepF
 rw[ef,eu]
 simp only[Int.toNat_natCast]
 have z1:s.1[f]=(0,0):=by
  have:=f3 (0,0)
  rw[getD_lt f2] at this
  exact of_decide_eq_true this
 have z2:decide (s.2[u]=(0,0))=false:=by
  have:=u3 (0,0)
  rw[getD_lt u2] at this
  cases c:decide (s.2[u]=(0,0)) with
  |false=>rfl
  |true=>rw[c] at this;cases this
 rw[getD_lt u2]
 exact⟨by rw[List.length_set];exact hl1,by rw[List.length_set];exact hl2,(perm_move f2 u2 z1).trans h.pm,f4 _ z2,u4 _ (by simp)⟩
theorem fill_inv{a b:List DB}(ha:a.length=12)(hb:b.length=12):∀n,n≤(freeL a).length→n≤(usedL b).length→FillI a b n (fillN (freeL a) (usedL b) a b n)
 |0,_,_=>⟨ha,hb,List.Perm.refl _,rfl,rfl⟩
 |n+1,h1,h2=>by
  rw[fillN_succ]
  exact (fill_step (fill_inv ha hb n (by omega) (by omega)) (by omega) (by omega)).2.2
def PFl(x:List DB×List DB):Prop:=PvC x.1∧PvC x.2
def vFl(x:List DB×List DB):List DB×List DB×Int:=((fillF x.1 x.2).1,(fillF x.1 x.2).2,0)
theorem s_impl_FillFrom:Fz16.S (cl PFl vFl):=Fz16.of_cl s_ValidCrate s_crateFree s_crateFull fun x ⟨h1,h2⟩ k=>by
 obtain⟨a,b⟩:=x
 have h1:PvC a:=h1
 have h2:PvC b:=h2
 have ha:a.length=12:=h1.1.1
 have hb:b.length=12:=h2.1.1
 show Fz16.pf _ _ _ BIG a b k=k ((fillF a b).1,(fillF a b).2,0)
 unfold Fz16.pf
 rw[cl_eq h1.1,Option.bind_some,h1.2,Bool.not_true,cond_false,cl_eq h2.1,Option.bind_some,h2.2,Bool.not_true,cond_false,cl_eq (show Cr a from ha),Option.bind_some,cl_eq (show Cr b from hb),Option.bind_some]
 have hf:=idxs_len (fun x:DB=>decide (x=(0,0))) a 0
 have em:(if (((usedL b).length:Nat):Int)<(((freeL a).length:Nat):Int) then (((usedL b).length:Nat):Int) else (((freeL a).length:Nat):Int))=((min (freeL a).length (usedL b).length:Nat):Int):=by
  split<;>omega
 show iter (Fz16.B1 (if (((usedL b).length:Nat):Int)<(((freeL a).length:Nat):Int) then (((usedL b).length:Nat):Int) else (((freeL a).length:Nat):Int)) _ _ (freeL a) (usedL b) _) BIG ((0:Int),a,b)=_
 rw[em]
 have hm:min (freeL a).length (usedL b).length≤12:=by
  have:(freeL a).length≤a.length:=hf
  omega
 unfold fillF
 generalize hM:min (freeL a).length (usedL b).length=M at *
 refine iter_list (List.range M) (fun i (s:List DB×List DB)=>((i:Int),s.1,s.2)) (fun _ _=>k ((fillN (freeL a) (usedL b) a b M).1,(fillN (freeL a) (usedL b) a b M).2,0)) (fun i s=>s=fillN (freeL a) (usedL b) a b i) (c:=(a,b)) rfl (big_lt (by rw[List.length_range];omega)) rfl ?_ ?_
 ·rintro i hi s rec rfl hrec
  rw[List.length_range] at hi
  obtain⟨⟨f,f1,f2⟩,⟨u,u1,u2⟩,_⟩:=fill_step (fill_inv ha hb i (by omega) (by omega)) (by omega) (by omega)
  have hs:=fillN_succ (freeL a) (usedL b) a b i
  generalize fillN (freeL a) (usedL b) a b i=s at *
  unfold Fz16.B1
  simp only[decT (show (i:Int)<(M:Int) by omega),inB_nat (show i<(freeL a).length by omega),inB_nat (show i<(usedL b).length by omega),cond_true,Int.toNat_natCast,f1,u1,inB_nat f2,inB_nat u2,w64n (show i<9223372036854775807 by omega)]
  refine hrec (s.1.set f (s.2.getD u (0,0)),s.2.set u (0,0)) ?_
  rw[hs]
  unfold stepF
  rw[f1,u1]
  rfl
 ·rintro s rec rfl
  rw[List.length_range]
  unfold Fz16.B1
  rw[decF (by simp only;omega),cond_false]
theorem s_spec_FillFrom:Fz47.S (cl PFl vFl):=Fz47.of_cl s_l01Ok s_l01Empty s_l01Used fun x ⟨h1,h2⟩ k=>by
 obtain⟨a,b⟩:=x
 have h1:PvC a:=h1
 have h2:PvC b:=h2
 have ha:a.length=12:=h1.1.1
 have hb:b.length=12:=h2.1.1
 show Fz47.pf _ _ _ BIG a b k=k ((fillF a b).1,(fillF a b).2,0)
 unfold Fz47.pf
 rw[cl_eq h1.1,Option.bind_some,h1.2,Bool.not_true,cond_false,cl_eq h2.1,Option.bind_some,h2.2,Bool.not_true,cond_false,cl_eq (show Cr a from ha),Option.bind_some,cl_eq (show Cr b from hb),Option.bind_some]
 have hf:=idxs_len (fun x:DB=>decide (x=(0,0))) a 0
 have hm:min (freeL a).length (usedL b).length≤12:=by
  have:(freeL a).length≤a.length:=hf
  omega
 unfold fillF
 generalize hM:min (freeL a).length (usedL b).length=M at *
 refine iter_list (List.range M) (fun i (s:List DB×List DB)=>((i:Int),s.1,s.2)) (fun _ _=>k ((fillN (freeL a) (usedL b) a b M).1,(fillN (freeL a) (usedL b) a b M).2,0)) (fun i s=>s=fillN (freeL a) (usedL b) a b i) (c:=(a,b)) rfl (big_lt (by rw[List.length_range];omega)) rfl ?_ ?_
 ·rintro i hi s rec rfl hrec
  rw[List.length_range] at hi
  obtain⟨⟨f,f1,f2⟩,⟨u,u1,u2⟩,_⟩:=fill_step (fill_inv ha hb i (by omega) (by omega)) (by omega) (by omega)
  have hs:=fillN_succ (freeL a) (usedL b) a b i
  generalize fillN (freeL a) (usedL b) a b i=s at *
  unfold Fz47.B1
  simp only[decT (show (i:Int)<(((freeL a).length:Nat):Int) by omega),decT (show (i:Int)<(((usedL b).length:Nat):Int) by omega),inB_nat (show i<(freeL a).length by omega),inB_nat (show i<(usedL b).length by omega),cond_true,Int.toNat_natCast,f1,u1,inB_nat f2,inB_nat u2,w64n (show i<9223372036854775807 by omega)]
  refine hrec (s.1.set f (s.2.getD u (0,0)),s.2.set u (0,0)) ?_
  rw[hs]
  unfold stepF
  rw[f1,u1]
  rfl
 ·rintro s rec rfl
  rw[List.length_range]
  unfold Fz47.B1
  by_cases c:(freeL a).length≤M
  ·rw[decF (by simp only;omega),cond_false]
  ·simp only[decT (show (M:Int)<(((freeL a).length:Nat):Int) by omega),cond_true]
   rw[decF (by omega),cond_false]
theorem obAt_pad(objs:List (Option Ob))(n:Nat):obAt (objs++[none]) n=obAt objs n:=by
 unfold obAt
 rw[List.getD_eq_getElem?_getD,List.getD_eq_getElem?_getD]
 rcases Nat.lt_or_ge n objs.length with h|h
 ·rw[List.getElem?_append_left h]
 ·rw[List.getElem?_append_right h,List.getElem?_eq_none h]
  rcases Nat.eq_zero_or_pos (n-objs.length) with q|q
  ·rw[q];rfl
  ·rw[List.getElem?_eq_none (by simp;omega)]
theorem datAt_pad(objs:List (Option Ob))(n:Nat):datAt (objs++[none]) n=datAt objs n:=by
 unfold datAt
 rw[obAt_pad]
theorem R.pad{m:Nat}{w0 w:World}{MB:Out}{slots:List SV}{objs:List (Option Ob)}{g:Gh}{a:Act}(h:R m w0 MB ⟨slots,objs⟩ g a w):R m w0 MB ⟨slots,objs++[none]⟩ g a w where
 defers:=h.defers
 sl:=h.sl
 tm:=h.tm
 slots:=fun t ht=>SRel.keep (k:=[]) (l:=[]) (fun n x hx _ _=>⟨by rw[obAt_pad];exact hx,rfl,rfl⟩) (fun n d _ _ hl=>by cases hl) (fun _ _ _ _ _ hl=>by cases hl) (h.slots t ht) (hits_nil _)
 dat:=fun n d hd=>h.dat n d (by rw[←datAt_pad];exact hd)
 bx:=fun n e k wn hx=>by
  obtain⟨d,v,q1,q2,q3,q4⟩:=h.bx n e k wn (by rw[←obAt_pad];exact hx)
  exact⟨d,v,by rw[datAt_pad];exact q1,q2,q3,q4.keep (fun d hd=>⟨by rw[datAt_pad];exact hd,rfl⟩)⟩
 sep:=fun n d hd hw=>by
  obtain⟨q1,q2⟩:=h.sep n d (by rw[←datAt_pad];exact hd) hw
  exact⟨q1,fun n' ob hne hob=>q2 n' ob hne (by rw[←obAt_pad];exact hob)⟩
 fresh:=fun n d hd=>h.fresh n d (by rw[←datAt_pad];exact hd)
 frame:=h.frame
 pins:=fun q hq=>(h.pins q hq).keep (fun n d hd hf=>⟨d,by rw[datAt_pad];exact hd,rfl,rfl,rfl,hf,rfl,rfl⟩)
 go:=h.go
theorem rows_enc{t:Ty}(hf:t.flat=true)(l:List t.den)(locs:Nat→t.loc):rowCells t l locs=l.flatMap fun x=>encV t x:=by
 unfold rowCells
 rw[show (fun i=>cells t (List.getD l i t.dflt) (locs i))=fun i=>encV t (List.getD l i t.dflt) from funext fun i=>cells_enc hf _ _]
 clear locs hf
 induction l with
 |nil=>rfl
 |cons x l ih=>
  rw[List.length_cons,List.range_succ_eq_map,List.flatMap_cons,List.flatMap_cons,List.flatMap_map]
  exact congrArg (encV t x++·) ih
theorem owns_mem{w:World}{B:Nat}{v:Value}{e:TypeId}{t:Ty}(hf:t.flat=true){l:List t.den}(hok:∀x,x∈l→okV t x)(h:w.ownsRow B e t.size v l.length (l.flatMap fun x=>encV t x)):
  ∃A cap,v = .slice A l.length cap∧memH w true (.row e t) none l ((⟨A,cap⟩,fun _=>t.dloc):(Ty.row e t).loc) ∧
   (blks true (.row e t) none l ((⟨A,cap⟩,fun _=>t.dloc):(Ty.row e t).loc)).Nodup∧∀b,b∈blks true (.row e t) none l ((⟨A,cap⟩,fun _=>t.dloc):(Ty.row e t).loc)→B≤b:=by
 have eb:∀(A:Option Addr) (cap:Nat),blks true (.row e t) none l ((⟨A,cap⟩,fun _=>t.dloc):(Ty.row e t).loc)=hdrBlk true ⟨A,cap⟩ l.length:=fun A cap=>by
  simp only[blks,lent,Bool.false_eq_true,if_false]
  rw[show ((List.range l.length).flatMap fun i=>blks true t (sub none (.idx i)) (List.getD l i t.dflt) t.dloc)=[] from by
   rw[List.flatMap_eq_nil_iff]
   intro i _
   exact blks_flat t hf _ _ _,List.append_nil]
 have hm:∀i,i<l.length→memH w true t (sub none (.idx i)) (List.getD l i t.dflt) t.dloc:=fun i hi=>memH_of_ok t hf _ _ _ (by rw[getD_lt hi];exact hok _ (List.getElem_mem hi))
 rcases h.2 with⟨rfl,q⟩|⟨g,cap,cur,rfl,q2,q3,q4,q5,q6,q7⟩
 ·refine⟨none,0,by rw[q],.inr ⟨⟨by show l.length≤0;omega,fun h0=>absurd (show 0<l.length from h0) (by omega),fun _ hc=>absurd hc (Nat.lt_irrefl 0)⟩,hm⟩,?_,?_⟩
  ·rw[eb];exact List.nodup_nil
  ·intro b hb;rw[eb] at hb;cases hb
 ·refine⟨some ⟨g,0,none⟩,cap,rfl,.inr ⟨⟨q4,fun h0=>⟨g,0,rfl,(Array.getElem?_eq_some_iff.1 q3).1,?_⟩,fun _ hc=>⟨g,0,cur,e,rfl,q3,?_⟩⟩,hm⟩,?_,?_⟩
  ·rw[rows_enc hf]
   intro j u hu
   have:=h.cells (g:=g) rfl j u hu
   rw[show (⟨g,0+j,none⟩:Addr)=(⟨g,0,none⟩:Addr).add j from by unfold Addr.add;simp]
   exact this
  ·show 0+cap*t.size≤cur.size
   omega
  ·rw[eb]
   unfold hdrBlk
   simp only
   split<;>simp
  ·intro b hb
   rw[eb] at hb
   unfold hdrBlk at hb
   simp only at hb
   split at hb
   ·obtain rfl:=List.mem_singleton.1 hb
    exact q2
   ·cases hb
theorem R.retOwnG{m:Nat}{w w':World}{MB:Out}{slots:List SV}{D0:Dat}{g:Gh}{a:Act}(h:R m w MB ⟨slots,[some (.dat D0)]⟩ g a w)(hb:Go.RowKit.Below w.heap.size w w'){bv:Value}{e:TypeId}{t:Ty}(hf:t.flat=true){l:List t.den}(hok:∀x,x∈l→okV t x)
  (ho:w'.ownsRow w.heap.size e t.size bv l.length (l.flatMap fun x=>encV t x)):
  ∃g',R 1 w MB ⟨[.sl 1 [] none],[some (.dat D0),some (.dat ⟨e,t,l,true,true,none⟩)]⟩ g' ⟨[bv].toArray,[]⟩ w':=by
 obtain⟨A,cap,rfl,h1,h2,h3⟩:=owns_mem hf hok ho
 have r1:=(R.pad h).ret (Go.RowKit.Below.refl _ w) (fun _=>Nat.le_refl _) [.dead] [undef] (All2.cons_iff.2 ⟨trivial,All2.nil _⟩)
 have r2:=r1.renew [] 1 ⟨e,t,l,true,true,none⟩ (⟨A,cap⟩,fun _=>t.dloc) w' (.sl 1 [] none) (some 0) (.slice A l.length cap) (fun k hk=>by cases hk) (by show 1<2;omega) (.inl rfl) ⟨rfl,rfl,rfl⟩
  (.inl ⟨hb.os,⟨hb.tape,fun h=>h.elim⟩,hb.output,hb.size,fun k hk _=>hb.block k hk⟩) (fun b hb1 _=>hb.block b hb1) h1 h2 (fun b hb=>.inl (h3 b hb))
  (own_sl (o:=⟨1,⟨e,t,l⟩,(⟨A,cap⟩,fun _=>t.dloc)⟩) (by rfl) (Gh.put_same _ _ _ _) rfl h1)
 exact⟨_,r2⟩
abbrev TyCr:Ty:=.arr 12 TyB2
theorem cells_stack{s:List (List DB)}(h:∀c,c∈s→c.length=12):(s.flatMap fun c=>encV TyCr c)=Go.Proofs.Dr.cellsS s:=by
 unfold Go.Proofs.Dr.cellsS
 induction s with
 |nil=>rfl
 |cons c s ih=>
  rw[List.flatMap_cons,List.flatMap_cons,ih fun x hx=>h x (List.mem_cons_of_mem _ hx),enc_crate (h c (List.mem_cons_self ..))]
def stackD(code:List Int):List (List DB):=Go.Proofs.Dr.stackD code
theorem drawnAt_ok{code:List Int}(h:gU code)(st:Nat×Int):wC (Go.Proofs.Dr.drawn code st).1∧crateOk (Go.Proofs.Dr.drawn code st).1=true:=by
 rw[Go.Proofs.Dr.drawn_eq]
 have h1:=(Go.Proofs.Dr.putN_bd h st 12).1
 have h2:=putN_ok h st 12
 generalize Go.Proofs.Dr.putN code st 12=s at h1 h2
 refine⟨⟨h1,fun b hb=>?_⟩,?_⟩
 ·rcases h2 b hb with rfl|⟨a1,a2,a3,a4⟩
  ·exact⟨by decide,by decide,by decide,by decide⟩
  ·exact⟨by omega,by omega,by omega,by omega⟩
 ·unfold crateOk
  rw[List.all_eq_true]
  intro b hb
  unfold okB validB
  rcases h2 b hb with rfl|⟨a1,a2,a3,a4⟩
  ·rfl
  ·rw[decT (show 1≤b.1 by omega),decT (show b.1≤20 by omega),decT (show 1900≤b.2 by omega),decT (show b.2≤2099 by omega)]
   simp
theorem stackN_ok{code:List Int}(h:gU code)(st:Nat×Int):∀n,∀c,c∈(Go.Proofs.Dr.stackN code st n).1→wC c∧crateOk c=true
 |0,c,hc=>by cases hc
 |n+1,c,hc=>by
  unfold Go.Proofs.Dr.stackN at hc
  rcases List.mem_append.1 hc with q|q
  ·exact stackN_ok h st n c q
  ·rw[List.mem_singleton.1 q];exact drawnAt_ok h _
theorem stack_len{code:List Int}(h:gU code):(stackD code).length≤4:=by
 unfold stackD Go.Proofs.Dr.stackD
 obtain⟨p1,p2,_⟩:=Go.Proofs.Dr.pick_bd h 5 (0,0)
 have p2:=p2 (by omega)
 rw[(Go.Proofs.Dr.stackN_bd h _ _).1]
 omega
theorem stack_ok{code:List Int}(h:gU code):PvS (stackD code):=by
 have h1:=stack_len h
 have h2:∀c,c∈stackD code→wC c∧crateOk c=true:=stackN_ok h _ _
 refine⟨⟨⟨by omega,fun c hc=>(h2 c hc).1.1⟩,fun c hc=>(h2 c hc).1.2⟩,?_⟩
 unfold stackOk
 rw[decT (show (stackD code).length≤12 by omega),Bool.true_and,List.all_eq_true]
 exact fun c hc=>(h2 c hc).2
theorem s_P6Stack:Fz49.S (cl PCd stackD) where
 fn:=⟨Try.f14,by kernel_rfl,by decide,by decide⟩
 does:=fun avs r hr vs w gh MBb hR=>by
  obtain⟨x,y,h1,h2,rfl⟩:=mkSig_run hr
  obtain⟨e0,rfl⟩:=Fz49.dec_eq h1
  obtain⟨hp,rfl⟩:=cl_some h2
  have hR:R 1 w ⟨MBb,_⟩ ⟨[.sl 0 [] none],[some (.dat ⟨e0,.int .u8,x,false,false,none⟩)]⟩ gh ⟨vs.toArray,[]⟩ w:=hR
  have hsz:vs.length=1:=by simpa using hR.tm
  match vs,hsz with
  |[v0],_=>
   have a0:SlRel [some (.dat ⟨e0,.int .u8,x,false,false,none⟩)] gh 0 [] none v0:=hR.slots 0 (by omega)
   obtain⟨d1,A1,c1,loc1,q1,rfl,u1,E1⟩:=sl_elems hR a0 (u:=.int .u8) (l:=x) rfl
   have hl:∀c,c∈stackD x→c.length=12:=fun c hc=>(stack_ok hp.2).1.1.2 c hc
   have hcall:=Go.Proofs.Try.stack_calls (.slice A1 x.length c1) x w (elems_rdB u1 E1) (by have:=hp.1;omega) hp.2
   refine hcall.mono fun e w' ⟨bv,he,ho,hb⟩=>?_
   subst he
   have ho:w'.ownsRow w.heap.size 31 TyCr.size bv (stackD x).length ((stackD x).flatMap fun c=>encV TyCr c):=by
    rw[cells_stack hl]
    exact ho
   obtain⟨g',r2⟩:=R.retOwnG (t:=TyCr) hR hb rfl (fun c hc=>okC (hl c hc)) ho
   exact⟨_,g',[.sl 1 [] none],[bv],r2,rfl,rfl,rfl⟩
theorem idxs_count{β:Type}(p:β→Bool):∀(l:List β) (k:Nat),((idxs p k l).length:Int)=countI p l
 |[],_=>rfl
 |x::l,k=>by
  have:=idxs_count p l (k+1)
  unfold idxs countI
  cases p x with
  |true=>simp only[if_true,cond_true,List.length_cons];push_cast;omega
  |false=>simp only[Bool.false_eq_true,if_false,cond_false];omega
theorem PvC.all{a:List DB}(h:PvC a):∀x,x∈a→wB x∧okB x=true:=fun x hx=>⟨h.1.2 x hx,by
 have:=h.2
 unfold crateOk at this
 exact List.all_eq_true.1 this x hx⟩
theorem PvC_of{a:List DB}(hl:a.length=12)(h:∀x,x∈a→wB x∧okB x=true):PvC a:=
 ⟨⟨hl,fun x hx=>(h x hx).1⟩,by unfold crateOk;exact List.all_eq_true.2 fun x hx=>(h x hx).2⟩
theorem PvS_of{s:List (List DB)}(hl:s.length≤12)(h:∀c,c∈s→PvC c):PvS s:=by
 refine⟨⟨⟨by omega,fun c hc=>(h c hc).1.1⟩,fun c hc=>(h c hc).1.2⟩,?_⟩
 unfold stackOk
 rw[decT hl,Bool.true_and]
 exact List.all_eq_true.2 fun c hc=>(h c hc).2
theorem PvS.crate{s:List (List DB)}(h:PvS s){c:List DB}(hc:c∈s):PvC c:=by
 have h2:=h.2
 unfold stackOk at h2
 rw[Bool.and_eq_true] at h2
 exact⟨⟨h.1.1.2 c hc,h.1.2 c hc⟩,List.all_eq_true.1 h2.2 c hc⟩
theorem ok_valid{b:DB}(h:okB b=true)(h0:b≠(0,0)):validB b=true:=by
 unfold okB at h
 rw[decF h0,Bool.false_or] at h
 exact h
theorem PvS.bottle{s:List (List DB)}(h:PvS s){b:DB}(hb:b∈whole s):wB b∧validB b=true:=by
 have h1:=whole_mem.1 hb
 obtain⟨c,hc,hx⟩:=List.mem_flatMap.1 h1
 have:=(h.crate hc).all b (List.mem_filter.1 hx).1
 exact⟨this.1,ok_valid this.2 (flat_ne h1)⟩
theorem ok_zero:wB ((0,0):DB)∧okB ((0,0):DB)=true:=⟨⟨by decide,by decide,by decide,by decide⟩,rfl⟩
theorem ok_of_valid{b:DB}(h:validB b=true):okB b=true:=by unfold okB;rw[h,Bool.or_true]
theorem PvS.from{s t:List (List DB)}(h:PvS s)(hl:t.length≤12)(h12:∀c,c∈t→c.length=12)(hb:∀c,c∈t→∀b,b∈c→b∈whole s∨b=(0,0)):PvS t:=
 PvS_of hl fun c hc=>PvC_of (h12 c hc) fun x hx=>by
  rcases hb c hc x hx with q|q
  ·exact⟨(h.bottle q).1,ok_of_valid (h.bottle q).2⟩
  ·rw[q];exact ok_zero
theorem pv2{a b:List DB}(ha:PvC a)(hb:PvC b):PvS [a,b]:=PvS_of (by simp) fun c hc=>by
 rcases List.mem_cons.1 hc with rfl|hc
 ·exact ha
 ·rw[List.mem_singleton.1 hc];exact hb
theorem fill_end{a b:List DB}(ha:PvC a)(hb:PvC b):PvC (fillF a b).1∧PvC (fillF a b).2∧whole [(fillF a b).1,(fillF a b).2]=whole [a,b]∧(freeL (fillF a b).1=[]∨allB (fillF a b).2=[]):=by
 have I:=fill_inv ha.1.1 hb.1.1 (min (freeL a).length (usedL b).length) (Nat.min_le_left _ _) (Nat.min_le_right _ _)
 show PvC (fillN _ _ a b _).1∧PvC (fillN _ _ a b _).2∧whole [(fillN _ _ a b _).1,(fillN _ _ a b _).2]=whole [a,b]∧(freeL (fillN _ _ a b _).1=[]∨allB (fillN _ _ a b _).2=[])
 generalize fillN (freeL a) (usedL b) a b (min (freeL a).length (usedL b).length)=s at I
 have hall:∀x,x∈s.1++s.2→wB x∧okB x=true:=fun x hx=>by
  rcases List.mem_append.1 (I.pm.mem_iff.1 hx) with q|q
  ·exact ha.all x q
  ·exact hb.all x q
 have e2:∀x y:List DB,flatB [x,y]=allB (x++y):=fun x y=>by
  rw[show [x,y]=[x]++[y] from rfl,flatB_append,flatB_one,flatB_one,allB_append]
 refine⟨PvC_of I.l1 fun x hx=>hall x (List.mem_append.2 (.inl hx)),PvC_of I.l2 fun x hx=>hall x (List.mem_append.2 (.inr hx)),?_,?_⟩
 ·unfold whole
  rw[e2,e2]
  exact sortB_permeq (I.pm.filter _)
 ·by_cases c:(freeL a).length≤(usedL b).length
  ·left
   rw[I.fr,List.drop_of_length_le (by omega)]
  ·right
   have hu:=I.us
   rw[List.drop_of_length_le (by omega)] at hu
   refine List.eq_nil_iff_forall_not_mem.2 fun x hx=>?_
   have hx:=List.mem_filter.1 hx
   have hc:countI (fun x:DB=>!decide (x=(0,0))) s.2=0:=by
    rw[←idxs_count (fun x:DB=>!decide (x=(0,0))) s.2 0]
    show ((usedL s.2).length:Int)=0
    rw[hu]
    rfl
   have key:∀l:List DB,countI (fun x:DB=>!decide (x=(0,0))) l=0→∀x,x∈l→(!decide (x=((0,0):DB)))=false:=fun l=>by
    induction l with
    |nil=>intro _ x h;cases h
    |cons y l ih=>
     intro h x hx
     unfold countI at h
     have h0:=(countI_le (fun x:DB=>!decide (x=(0,0))) l).1
     cases q:(!decide (y=((0,0):DB))) with
     |true=>rw[q,cond_true] at h;omega
     |false=>
      rw[q,cond_false] at h
      rcases List.mem_cons.1 hx with rfl|hx
      ·exact q
      ·exact ih (by omega) x hx
   rw[key s.2 hc x hx.1] at hx
   cases hx.2
abbrev vCs(s:List (List DB)):List DS×Int:=(runs (whole s),0)
abbrev vEqC(x:List DS×List DS):Bool:=decide (x.1=x.2)
theorem vEqC_self(l:List DS):vEqC (l,l)=true:=decide_eq_true rfl
theorem runs_pl{s:List (List DB)}(h:PvS s)(l:List DS):PL1 (runs (whole s),l):=by
 have h1:=whole_len h.s12
 have h2:=(runs_bd (whole s) (whole s).length (Nat.le_refl _)).1
 rw[List.take_length] at h2
 show (runs (whole s)).length≤1073741824
 omega
theorem packed_p5{α:Type}(u0 u1:List Int){a b:List DB}(ha:PvC a)(hb:PvC b)(k:Bool→Option α):
  laws_FnPacked.P5 (cl PvS vCs) (cl PvS vCs) (cl PL1 vEqC) (cl PFl vFl) (cl PvC fun a=>(freeL a,(0:Int))) (cl PvC fun a=>(allB a,(0:Int))) (vFl (a,b)).2.2 u0 u1 a b (vFl (a,b)).1 (vFl (a,b)).2.1 k=k true:=by
 unfold laws_FnPacked.P5
 have hp:PFl (a,b):=⟨ha,hb⟩
 rw[cl_eq hp,Option.bind_some]
 obtain⟨e1,e2,e3,e4⟩:=fill_end ha hb
 unfold vFl
 simp only
 generalize fillF a b=s at e1 e2 e3 e4
 obtain⟨x,y⟩:=s
 simp only at *
 rw[cl_eq (pv2 e1 e2),Option.bind_some,cl_eq (pv2 ha hb),Option.bind_some,cl_eq e1,Option.bind_some,cl_eq e2,Option.bind_some]
 unfold vCs
 rw[e3]
 simp only
 rw[beqT rfl,cond_true,cond_true,eqC e1.1.1 e1.1.1,decT rfl,cond_true,eqC e2.1.1 e2.1.1,decT rfl,cond_true,cond_true,cond_true,cl_eq (runs_pl (pv2 ha hb) _),Option.bind_some]
 rw[vEqC_self,cond_true,cond_true,cond_true]
 rcases e4 with q|q
 ·rw[q,beqT (by simp),cond_true]
 ·rw[q]
  cases ((((List.length (freeL x)):Nat):Int)==(0:Int))<;>rfl
theorem packed_p4{α:Type}{u0 u1:List Int}(h0:PCd u0)(h1:PCd u1){s:List (List DB)}(hs:PvS s)(k:Bool→Option α):
  laws_FnPacked.P4 (cl PvS vCs) (cl PvS vCs) (cl PL1 vEqC) (cl wCs mixedIn) (cl PCd drawnC) (cl PFl vFl) (cl PFl vFl) (cl PvC fun a=>(freeL a,(0:Int))) (cl PvC fun a=>(allB a,(0:Int))) (pureStack s).2 u0 u1 (pk (whole s)) (runs (whole s)) (pureStack s).1 k=k true:=by
 unfold laws_FnPacked.P4
 have ha:PvC (drawnC u0):=drawn_ok h0.2
 have hb:PvC (drawnC u1):=drawn_ok h1.2
 rw[cl_eq h0,Option.bind_some,cl_eq h1,Option.bind_some]
 generalize drawnC u0=a at ha
 generalize drawnC u1=b at hb
 rw[cl_eq (show PFl (a,b) from⟨ha,hb⟩),Option.bind_some,packed_p5 u0 u1 ha hb]
 by_cases c:(pureStack s).2=0
 ·rw[beqT c,cond_true]
  have hlen:=whole_len hs.s12
  have hne:=whole_ne (s:=s)
  have hso:=whole_sorted s
  have e:pureStack s=(pureOf (runs (whole s)),0)∧(pureOf (runs (whole s))).length≤12:=by
   unfold pureStack at c ⊢
   rw[if_pos hs.2] at c ⊢
   split at c
   ·cases c
   ·rename_i q
    rw[if_neg q]
    exact⟨rfl,by omega⟩
  rw[e.1]
  simp only
  have hm:=pure_cr (runs (whole s))
  have hv:PvS (pureOf (runs (whole s))):=hs.from e.2 hm fun c hc b hb=>by
   obtain⟨x,hx,hall⟩:=pure_mem hne hc
   rcases hall b hb with q|q
   ·rw[q];exact .inl hx
   ·exact .inr q
  rw[cl_eq hv.1,Option.bind_some,cl_eq hv,Option.bind_some]
  have hmix:mixedIn (pureOf (runs (whole s)))=(0,0):=by
   unfold mixedIn
   rw[if_pos hv.2,countI_zero _ _ fun c hc=>by rw[pure_one hne hc];rfl]
  unfold vCs
  rw[hmix,whole_pure hso hne]
  simp only
  rw[bneS,cond_false,cond_false,cond_false,cl_eq (runs_pl hs _),Option.bind_some]
  rw[vEqC_self,Bool.not_true,cond_false]
  have hge:=pure_ge (runs (whole s)) fun x hx=>by have:=(runs_mem hx).1;omega
  rw[sum_runs] at hge
  rw[decF (by rw[pk_len];omega),cond_false]
 ·rw[beqF c,cond_false]
theorem mixed_ok{s:List (List DB)}(hs:PvS s):0≤(mixedIn s).1∧(mixedIn s).1≤(s.length:Int)∧(mixedIn s).2=0:=by
 unfold mixedIn
 rw[if_pos hs.2]
 have:=countI_le (fun c=>!oneB (allB c)) s
 exact⟨this.1,this.2,rfl⟩
theorem packed_p3{α:Type}{u0 u1:List Int}(h0:PCd u0)(h1:PCd u1){s:List (List DB)}(hs:PvS s)(k:Bool→Option α):
  laws_FnPacked.P3 (cl PvS vCs) (cl PvS vCs) (cl CrS2 fun x=>decide (x.1=x.2)) (cl PL1 vEqC) (cl wCs mixedIn) (cl wCs pureStack) (cl wCs pureStack) (cl PCd drawnC) (cl PFl vFl) (cl PFl vFl) (cl PvC fun a=>(freeL a,(0:Int))) (cl PvC fun a=>(allB a,(0:Int))) u0 u1 s (pk (whole s)) (runs (whole s)) k=k true:=by
 unfold laws_FnPacked.P3
 obtain⟨m1,m2,m3⟩:=mixed_ok hs
 have ho:=pure_out s (by have:=hs.1.1.1;omega)
 rw[cl_eq hs.1,Option.bind_some,cl_eq hs.1,Option.bind_some,Option.bind_some,m3,packed_p4 h0 h1 hs]
 rw[bneS,cond_false,decF (by omega),cond_false,decF (by omega),cond_false,bneS,cond_false,cl_eq (show CrS2 ((pureStack s).1,(pureStack s).1) from⟨ho,ho⟩),Option.bind_some,decT rfl,Bool.not_true,cond_false]
 have hc:(pureStack s).2=0∨(pureStack s).2=3:=by
  unfold pureStack
  rw[if_pos hs.2]
  split
  ·exact .inr rfl
  ·exact .inl rfl
 rcases hc with q|q
 ·rw[q,bneS,cond_false]
 ·rw[q,bneS,cond_false]
  rfl
theorem packed_p2{α:Type}{u0 u1:List Int}(h0:PCd u0)(h1:PCd u1){s:List (List DB)}(hs:PvS s)(k:Bool→Option α):
  laws_FnPacked.P2 (cl PvS vCs) (cl PvS vCs) (cl CrS2 fun x=>decide (x.1=x.2)) (cl PL1 vEqC) (cl PFw fun n=>((n+11) / 12,(0:Int))) (cl PFw fun n=>(n / 144,n % 144 / 12,n % 12,(0:Int))) (cl wCs mixedIn) (cl wCs pureStack) (cl wCs pureStack) (cl PCd drawnC) (cl PFl vFl) (cl PFl vFl) (cl PvC fun a=>(freeL a,(0:Int))) (cl PvC fun a=>(allB a,(0:Int))) ((whole s).length:Int) u0 u1 s (pk (whole s)) (runs (whole s)) k=k true:=by
 unfold laws_FnPacked.P2
 have hlen:=whole_len hs.s12
 have hw:PFw ((whole s).length:Int):=⟨by omega,by omega⟩
 rw[packed_p3 h0 h1 hs,cl_eq hw,Option.bind_some,cl_eq hw,Option.bind_some]
 simp only
 rw[pk_len,bneS,cond_false,bneF (by omega),cond_false,cond_false]
 generalize ((whole s).length:Int)=n at hw
 obtain⟨n0,n1⟩:=hw
 rw[w64 (show -9223372036854775808≤144*(n / 144) by omega) (by omega),w64 (show -9223372036854775808≤12*(n % 144 / 12) by omega) (by omega),w64 (show -9223372036854775808≤144*(n / 144)+12*(n % 144 / 12) by omega) (by omega),w64 (show -9223372036854775808≤144*(n / 144)+12*(n % 144 / 12)+n % 12 by omega) (by omega),bneF (by omega),cond_false,decF (by omega),cond_false,decF (by omega),cond_false,decF (by omega),cond_false,decF (by omega),cond_false]
theorem sumS_take(L:List DS){i:Nat}(h:i<L.length):sumS (L.take (i+1))=sumS (L.take i)+(L[i]).2:=by
 have key:∀(A B:List DS),sumS (A++B)=sumS A+sumS B:=fun A B=>by
  induction A with
  |nil=>simp[sumS]
  |cons x A ih=>
   show x.2+sumS (A++B)=x.2+sumS A+sumS B
   rw[ih,Int.add_assoc]
 rw[List.take_succ_eq_append_getElem h,key]
 simp[sumS]
theorem packed_p1{α:Type}{u0 u1:List Int}(h0:PCd u0)(h1:PCd u1){s:List (List DB)}(hs:PvS s)(k:Bool→Option α):
  laws_FnPacked.P1 (cl PvS vCs) (cl PvS vCs) (cl CrS2 fun x=>decide (x.1=x.2)) (cl PL1 vEqC) (cl PCn fun x=>(cntS x.2 x.1,(0:Int))) (tot cmpB) (cl PFw fun n=>((n+11) / 12,(0:Int))) (cl PFw fun n=>(n / 144,n % 144 / 12,n % 12,(0:Int))) (cl wCs mixedIn) (cl wCs pureStack) (cl wCs pureStack) (cl PCd drawnC) (cl PFl vFl) (cl PFl vFl) (cl PvC fun a=>(freeL a,(0:Int))) (cl PvC fun a=>(allB a,(0:Int))) BIG u0 u1 s (pk (whole s)) (runs (whole s)) k=k true:=by
 unfold laws_FnPacked.P1
 have hlen:=whole_len hs.s12
 have hsum:=sum_runs (whole s)
 obtain⟨b1,b2⟩:=runs_bd (whole s) (whole s).length (Nat.le_refl _)
 rw[List.take_length] at b1 b2
 refine iter_list (runs (whole s)) (fun i (c:Int)=>(c,(i:Int))) (fun _ _=>k true) (fun i c=>c=sumS ((runs (whole s)).take i)∧0≤c∧c≤144*i) (c:=0) rfl (big_lt (by omega)) ⟨rfl,by omega,by omega⟩ ?_ ?_
 ·rintro i hi c rec ⟨hc,c0,c1⟩ hrec
  have hx:(runs (whole s))[i]∈runs (whole s):=List.getElem_mem hi
  obtain⟨x1,x2⟩:=runs_mem hx
  have x3:=runs_count (whole_sorted s) hx
  have x4:=b2 _ hx
  have hcs:cntS ((runs (whole s))[i]).1 s=((runs (whole s))[i]).2:=by rw[cntS_whole (whole_ne _ x2),←x3]
  have hst:=sumS_take (runs (whole s)) hi
  unfold laws_FnPacked.B1
  simp only[decT (show (i:Int)<(((runs (whole s)).length:Nat):Int) by omega),inB_nat hi,cond_true,Int.toNat_natCast,getD_lt hi]
  rw[cl_eq (show PCn (s,((runs (whole s))[i]).1) from⟨hs,hs.bottle x2⟩),Option.bind_some]
  simp only
  rw[hcs,bneS,cond_false,bneS,cond_false,decF (by omega),cond_false,w64 (show -9223372036854775808≤c+((runs (whole s))[i]).2 by omega) (by omega),w64n (show i<9223372036854775807 by omega)]
  have hr:rec (c+((runs (whole s))[i]).2,((i+1:Nat):Int))=k true:=hrec (c+((runs (whole s))[i]).2) ⟨by rw[hst,hc],by omega,by omega⟩
  by_cases z:i=0
  ·rw[decF (by omega),cond_false]
   exact hr
  ·obtain⟨j,rfl⟩:∃j,i=j+1:=⟨i-1,by omega⟩
   have hj:IntKind.i64.wrap (((j+1:Nat):Int)-1)=(j:Int):=by rw[w64 (by omega) (by omega)];omega
   have ho:=runs_order (whole_sorted s) hi
   have hjl:j<(runs (whole s)).length:=by omega
   rw[decT (show ((j+1:Nat):Int)>0 by omega),cond_true,hj]
   simp only[inB_nat hjl,cond_true,Int.toNat_natCast,getD_lt hjl,tot_eq,Option.bind_some]
   have hlt:cmpB (((runs (whole s))[j]).1,((runs (whole s))[j+1]).1)<0:=of_decide_eq_true ((cmpB_lt _ _).trans ho)
   rw[decF (Int.not_le.2 hlt),cond_false]
   exact hr
 ·rintro c rec ⟨hc,_,_⟩
  rw[List.take_length,hsum] at hc
  unfold laws_FnPacked.B1
  rw[decF (by simp only;omega),cond_false,hc]
  exact packed_p2 h0 h1 hs k
theorem pk_ok{s:List (List DB)}(hs:PvS s):PvS (pk (whole s)):=by
 have hlen:=whole_len hs.s12
 refine hs.from (by rw[pk_len];omega) (pk_cr _) (pk_mem whole_ne)
theorem s_law_FnPacked:laws_FnPacked.S (cl (fun x=>gU x.1∧gU x.2) fun _=>true):=laws_FnPacked.of_cl s_f6big s_P6Stack s_impl_PackStack s_spec_PackStack s_impl_CountsIn s_spec_CountsIn s_SameStack s_impl_SameStack s_ValidStack s_SameCounts s_impl_CountOf s_impl_CompareB s_FewestCrates s_GrossOf s_impl_MixedIn s_impl_PureStack s_spec_PureStack s_P6Crate s_impl_FillFrom s_spec_FillFrom s_impl_FreePlaces s_impl_BottlesIn fun x ⟨h1,h2⟩ k=>by
 obtain⟨x0,x1⟩:=x
 have h1:gU x0:=h1
 have h2:gU x1:=h2
 show laws_FnPacked.pf _ _ _ _ _ _ _ _ _ _ _ _ _ _ _ _ _ _ _ _ _ _ BIG x0 x1 k=k true
 unfold laws_FnPacked.pf
 rw[tot_eq,Option.bind_some]
 by_cases l0:((x0.length:Nat):Int)>4096
 ·rw[decT l0,cond_true]
 rw[decF l0,cond_false,tot_eq,Option.bind_some]
 by_cases l1:((x1.length:Nat):Int)>4096
 ·rw[decT l1,cond_true]
 have p0:PCd x0:=⟨by omega,h1⟩
 have p1:PCd x1:=⟨by omega,h2⟩
 have hs:=stack_ok h1
 have h4:=stack_len h1
 rw[decF l1,cond_false,cl_eq p0,Option.bind_some]
 generalize stackD x0=s at hs h4
 rw[cl_eq hs,Option.bind_some,cl_eq hs,Option.bind_some]
 have hpk:=pk_ok hs
 have hlen:=flatB_len s fun c hc=>hs.1.1.2 c hc
 have hwl:(whole s).length=(flatB s).length:=sortB_len _
 rw[Option.bind_some,Option.bind_some,cl_eq hpk,Option.bind_some]
 simp only
 rw[packed_p1 p0 p1 hs]
 rw[bneS,cond_false,cond_false,cl_eq (show CrS2 (pk (whole s),pk (whole s)) from⟨hpk.1.1,hpk.1.1⟩),Option.bind_some,decT rfl,Bool.not_true,cond_false,Option.bind_some,Bool.not_true,cond_false,cl_eq hpk.1,Option.bind_some,hpk.2,Bool.not_true,cond_false]
 rw[decF (by rw[pk_len];omega),cond_false,cond_false,cond_false,whole_pk (whole_sorted s) whole_ne,cl_eq (runs_pl hs _),Option.bind_some,decT rfl,Bool.not_true,cond_false,cond_false,Option.bind_some,Bool.not_true,cond_false]
end Go.Proofs.Ytlipfbihlmlplaa.G
