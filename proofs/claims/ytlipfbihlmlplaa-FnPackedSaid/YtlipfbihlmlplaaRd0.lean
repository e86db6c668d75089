import Derived.Test.YtlipfbihlmlplaaSg
namespace Go.Proofs.Ytlipfbihlmlplaa.G
open Go Go.Proofs
set_option linter.unusedVariables false
set_option linter.unusedSimpArgs false
set_option maxRecDepth 100000
namespace Fz34
section
variable {α:Type} (K:Res→Option α) (fuel:Nat) (cont:Ex→St→Option α) (rec:St→Option α) (e0:TypeId) (a0:(List Int))
noncomputable def pf(fuel:Nat)(a0:(List Int))(k:B→Option α):Option α:=
 k (decide ((((List.length a0):Nat):Int)>(4096:Int)))
theorem red:run TT small (tabOf []) Try.f13 .nil [] fuel [.obj false ⟨e0,(.int .u8),a0⟩] K=pf fuel a0 (fun r=>K (enc 0 r)):=by kernel_rfl
end
theorem of_tot{v:A→B}(hp:∀x,∀k:B→Option Res,pf BIG x k=k (v x)):S (tot v):=tot_snd (fn:=Try.f13) hmx_ (ttok _) aN .nil [] [] (by kernel_rfl) (by decide) (by decide) (by kernel_rfl) fun x e=>(red some BIG (e 0) x).trans (hp x _)
end Fz34
namespace Fz32
section
variable {α:Type} (K:Res→Option α) (fuel:Nat) (cont:Ex→St→Option α) (rec:St→Option α) (a0 a1 a2:Int)
noncomputable def pf(fuel:Nat)(a0 a1 a2:Int)(k:B→Option α):Option α:=
 cond (decide (a1≤a0)) (k (decide (a0≤a2))) (k false)
theorem red:run TT small (tabOf []) Try.f78 .nil [] fuel [.val (.int .i64) a0,.val (.int .i64) a1,.val (.int .i64) a2] K=pf fuel a0 a1 a2 (fun r=>K (enc 0 r)):=by kernel_rfl
end
theorem of_tot{v:A→B}(hp:∀x,∀k:B→Option Res,pf BIG x.1 x.2.1 x.2.2 k=k (v x)):S (tot v):=tot_snd (fn:=Try.f78) hmx_ (ttok _) aN .nil [] [] (by kernel_rfl) (by decide) (by decide) (by kernel_rfl) fun x e=>(red some BIG x.1 x.2.1 x.2.2).trans (hp x _)
end Fz32
namespace Fz23
section
variable {α:Type} (g0_:Fz32.F) (K:Res→Option α) (fuel:Nat) (cont:Ex→St→Option α) (rec:St→Option α) (a0:Zb)
noncomputable def tab:=tabOf [(78,Fz32.sig g0_)]
noncomputable def pf(fuel:Nat)(a0:Zb)(k:B→Option α):Option α:=
 (g0_ ((IntKind.i64.wrap a0.1),(1:Int),(20:Int))).bind fun r1=>cond r1 ((g0_ ((IntKind.i64.wrap a0.2),(1900:Int),(2099:Int))).bind fun r2=>k r2) (k false)
theorem red:run TT small (tab g0_) Try.f75 .nil [] fuel [.val t1_ a0] K=pf g0_ fuel a0 (fun r=>K (enc 0 r)):=by kernel_rfl
end
theorem of_cl{g0_}(h0_:Fz32.S g0_){P:A→Prop}{v:A→B}(hp:∀x,P x→∀k:B→Option Res,pf g0_ BIG x k=k (v x)):S (cl P v):=cl_snd (fn:=Try.f75) hmx_ (ttok _) (aC h0_ aN) .nil [] [] (by kernel_rfl) (by decide) (by decide) (by kernel_rfl) fun x h e=>(red _ some BIG x).trans (hp x h _)
end Fz23
namespace Fz25
section
variable {α:Type} (g0_:Fz23.F) (K:Res→Option α) (fuel:Nat) (cont:Ex→St→Option α) (rec:St→Option α) (a0:Zb)
noncomputable def tab:=tabOf [(75,Fz23.sig g0_)]
noncomputable def pf(fuel:Nat)(a0:Zb)(k:B→Option α):Option α:=
 cond (!(eqV (.st (.pair (.int .u8) (.int .i16))) a0 ((0:Int),(0:Int)))) ((g0_ a0).bind fun r1=>k (!r1)) (k false)
theorem red:run TT small (tab g0_) Try.f114 .nil [] fuel [.val t1_ a0] K=pf g0_ fuel a0 (fun r=>K (enc 0 r)):=by kernel_rfl
end
theorem of_cl{g0_}(h0_:Fz23.S g0_){P:A→Prop}{v:A→B}(hp:∀x,P x→∀k:B→Option Res,pf g0_ BIG x k=k (v x)):S (cl P v):=cl_snd (fn:=Try.f114) hmx_ (ttok _) (aC h0_ aN) .nil [] [] (by kernel_rfl) (by decide) (by decide) (by kernel_rfl) fun x h e=>(red _ some BIG x).trans (hp x h _)
end Fz25
namespace Fz42
section
variable {α:Type} (g0_:Fz25.F) (K:Res→Option α) (fuel:Nat) (cont:Ex→St→Option α) (rec:St→Option α) (e0:TypeId) (p1_0:Int) (p1_1:(List Zb)) (x1:Int) (a0:(List Zb)) (r1001:Bool)
noncomputable def tab:=tabOf [(114,Fz25.sig g0_)]
noncomputable def E:Env:=⟨TT,small,(tab g0_),1,19⟩
def ann:Ann:=.two .nil (.two (.two .nil (.one (.loop [0,1,7,8] .nil))) .nil)
noncomputable def emb1(e0:TypeId)(p1_0:Int)(p1_1:(List Zb))(x1:Int):St:=mkS 19 [qL 0 0,(1,.fn 114 []),qI 7 .i64 p1_0,qI 8 .i64 x1] 39 [oA 0 e0 t1_ p1_1]
noncomputable def LB1:(St→Option α)→St→Option α:=roundV (E g0_) fuel [true,false,true,false] (bodyOf Try.f127) ann cont
noncomputable def C1:Ex→St→Option α:=contAt (E g0_) fuel [true,false,true,false] (bodyOf Try.f127) ann [] (finK TT 1 [some 0,none] Try.f127 [] K)
noncomputable def ex1_0(e0:TypeId)(p1_0:Int)(p1_1:(List Zb))(x1:Int)(r1001:Bool):St:=mkS 19 [qL 0 0,(1,.fn 114 []),qI 4 .i64 x1,qI 5 .i64 x1,qI 7 .i64 p1_0,qI 8 .i64 x1,qB 9 (decide (x1<p1_0)),qI 10 .i64 x1,(11,.fn 114 []),qL 12 0,qI 13 .i64 x1,(14,.ptr 0 [.idx (x1:Int).toNat] false),qV 15 t1_ (List.getD p1_1 (x1:Int).toNat ((0:Int),(0:Int))),qB 16 r1001,qI 17 .i64 x1] 39 [oA 0 e0 t1_ p1_1]
noncomputable def ex1_1(e0:TypeId)(p1_0:Int)(p1_1:(List Zb))(x1:Int):St:=mkS 19 [qL 0 0,(1,.fn 114 []),qI 7 .i64 p1_0,qI 8 .i64 x1,qB 9 (decide (x1<p1_0))] 39 [oA 0 e0 t1_ p1_1]
noncomputable def B1(p1_0:Int)(p1_1:(List Zb))(K0:Int→Bool→Option α)(K1:Int→Option α)(rec:Int→Option α)(x1:Int):Option α:=
 cond (decide (x1<p1_0)) (cond (inB x1 (List.length p1_1)) ((g0_ (List.getD p1_1 (x1:Int).toNat ((0:Int),(0:Int)))).bind fun r1001=>cond r1001 (K0 x1 r1001) (rec (IntKind.i64.wrap (x1+(1:Int))))) none) (K1 x1)
theorem step1:LB1 g0_ fuel cont rec (emb1 e0 p1_0 p1_1 x1)=B1 g0_ p1_0 p1_1 (fun x1 r1001=>cont .ret (ex1_0 e0 p1_0 p1_1 x1 r1001)) (fun x1=>cont (.exit 0) (ex1_1 e0 p1_0 p1_1 x1)) (fun y=>rec (emb1 e0 p1_0 p1_1 y)) x1:=by kernel_rfl
theorem loop1:loopN (LB1 g0_ fuel cont) fuel (emb1 e0 p1_0 p1_1 x1)=iter (B1 g0_ p1_0 p1_1 (fun x1 r1001=>cont .ret (ex1_0 e0 p1_0 p1_1 x1 r1001)) (fun x1=>cont (.exit 0) (ex1_1 e0 p1_0 p1_1 x1))) fuel x1:=loop_sim (fun rec x=>step1 ..) fuel x1
noncomputable def pf(fuel:Nat)(a0:(List Zb))(k:B→Option α):Option α:=
 iter (B1 g0_ (((List.length a0):Nat):Int) a0 (fun (x1:Int) (r1001:Bool)=>k x1) (fun (x1:Int)=>k (-1:Int))) fuel (0:Int)
theorem tail1:C1 g0_ K fuel .ret (ex1_0 e0 (((List.length a0):Nat):Int) a0 x1 r1001)=((fun (k:B→Option α)=>k x1) (fun r=>K (enc 0 r))):=by kernel_rfl
theorem tail2:C1 g0_ K fuel (.exit 0) (ex1_1 e0 (((List.length a0):Nat):Int) a0 x1)=((fun (k:B→Option α)=>k (-1:Int)) (fun r=>K (enc 0 r))):=by kernel_rfl
theorem red_raw:run TT small (tab g0_) Try.f127 ann [] fuel [.obj false ⟨e0,t1_,a0⟩,.fn 114 []] K=loopN (LB1 g0_ fuel (C1 g0_ K fuel)) fuel (emb1 e0 (((List.length a0):Nat):Int) a0 (0:Int)):=by kernel_rfl
theorem red:run TT small (tab g0_) Try.f127 ann [] fuel [.obj false ⟨e0,t1_,a0⟩,.fn 114 []] K=pf g0_ fuel a0 (fun r=>K (enc 0 r)):=by
 rw[red_raw]
 simp only[loop1,tail1,tail2]
 all_goals kernel_rfl
end
theorem of_cl{g0_}(h0_:Fz25.S g0_){P:A→Prop}{v:A→B}(hp:∀x,P x→∀k:B→Option Res,pf g0_ BIG x k=k (v x)):S (cl P v):=cl_snd (fn:=Try.f127) hmx_ (ttok _) (aC h0_ aN) ann [] [] (by kernel_rfl) (by decide) (by decide) (by kernel_rfl) fun x h e=>(red _ some BIG (e 0) x).trans (hp x h _)
end Fz42
namespace Fz37
section
variable {α:Type} (g0_:Fz42.F) (K:Res→Option α) (fuel:Nat) (cont:Ex→St→Option α) (rec:St→Option α) (e0:TypeId) (a0:(List Zb))
noncomputable def tab:=tabOf [(127,Fz42.sig g0_)]
noncomputable def pf(fuel:Nat)(a0:(List Zb))(k:B→Option α):Option α:=
 (g0_ a0).bind fun r1=>k (decide (r1≥(0:Int)))
theorem red:run TT small (tab g0_) Try.f103 .nil [] fuel [.obj false ⟨e0,t1_,a0⟩,.fn 114 []] K=pf g0_ fuel a0 (fun r=>K (enc 0 r)):=by kernel_rfl
end
theorem of_cl{g0_}(h0_:Fz42.S g0_){P:A→Prop}{v:A→B}(hp:∀x,P x→∀k:B→Option Res,pf g0_ BIG x k=k (v x)):S (cl P v):=cl_snd (fn:=Try.f103) hmx_ (ttok _) (aC h0_ aN) .nil [] [] (by kernel_rfl) (by decide) (by decide) (by kernel_rfl) fun x h e=>(red _ some BIG (e 0) x).trans (hp x h _)
end Fz37
namespace Fz24
section
variable {α:Type} (g0_:Fz37.F) (K:Res→Option α) (fuel:Nat) (cont:Ex→St→Option α) (rec:St→Option α) (a0:(List Zb))
noncomputable def tab:=tabOf [(103,Fz37.sig g0_)]
noncomputable def pf(fuel:Nat)(a0:(List Zb))(k:B→Option α):Option α:=
 (g0_ a0).bind fun r1=>k (!r1)
theorem red:run TT small (tab g0_) Try.f74 .nil [] fuel [.val t2_ a0] K=pf g0_ fuel a0 (fun r=>K (enc 0 r)):=by kernel_rfl
end
theorem of_cl{g0_}(h0_:Fz37.S g0_){P:A→Prop}{v:A→B}(hp:∀x,P x→∀k:B→Option Res,pf g0_ BIG x k=k (v x)):S (cl P v):=cl_snd (fn:=Try.f74) hmx_ (ttok _) (aC h0_ aN) .nil [] [] (by kernel_rfl) (by decide) (by decide) (by kernel_rfl) fun x h e=>(red _ some BIG x).trans (hp x h _)
end Fz24
namespace Fz27
section
variable {α:Type} (g0_:Fz24.F) (K:Res→Option α) (fuel:Nat) (cont:Ex→St→Option α) (rec:St→Option α) (a0:(List Zb))
noncomputable def tab:=tabOf [(74,Fz24.sig g0_)]
noncomputable def pf(fuel:Nat)(a0:(List Zb))(k:B→Option α):Option α:=
 (g0_ a0).bind fun r1=>k (!r1)
theorem red:run TT small (tab g0_) Try.f73 .nil [] fuel [.val t2_ a0] K=pf g0_ fuel a0 (fun r=>K (enc 0 r)):=by kernel_rfl
end
theorem of_cl{g0_}(h0_:Fz24.S g0_){P:A→Prop}{v:A→B}(hp:∀x,P x→∀k:B→Option Res,pf g0_ BIG x k=k (v x)):S (cl P v):=cl_snd (fn:=Try.f73) hmx_ (ttok _) (aC h0_ aN) .nil [] [] (by kernel_rfl) (by decide) (by decide) (by kernel_rfl) fun x h e=>(red _ some BIG x).trans (hp x h _)
end Fz27
namespace Fz43
section
variable {α:Type} (g0_:Fz27.F) (K:Res→Option α) (fuel:Nat) (cont:Ex→St→Option α) (rec:St→Option α) (e0:TypeId) (p1_0:Int) (p1_1:(List (List Zb))) (x1:Int) (a0:(List (List Zb))) (r1001:Bool)
noncomputable def tab:=tabOf [(73,Fz27.sig g0_)]
noncomputable def E:Env:=⟨TT,small,(tab g0_),1,19⟩
def ann:Ann:=.two .nil (.two (.two .nil (.one (.loop [0,1,7,8] .nil))) .nil)
noncomputable def emb1(e0:TypeId)(p1_0:Int)(p1_1:(List (List Zb)))(x1:Int):St:=mkS 19 [qL 0 0,(1,.fn 73 []),qI 7 .i64 p1_0,qI 8 .i64 x1] 39 [oA 0 e0 t2_ p1_1]
noncomputable def LB1:(St→Option α)→St→Option α:=roundV (E g0_) fuel [true,false,true,false] (bodyOf Try.f113) ann cont
noncomputable def C1:Ex→St→Option α:=contAt (E g0_) fuel [true,false,true,false] (bodyOf Try.f113) ann [] (finK TT 1 [some 0,none] Try.f113 [] K)
noncomputable def ex1_0(e0:TypeId)(p1_0:Int)(p1_1:(List (List Zb)))(x1:Int)(r1001:Bool):St:=mkS 19 [qL 0 0,(1,.fn 73 []),qI 4 .i64 x1,qI 5 .i64 x1,qI 7 .i64 p1_0,qI 8 .i64 x1,qB 9 (decide (x1<p1_0)),qI 10 .i64 x1,(11,.fn 73 []),qL 12 0,qI 13 .i64 x1,(14,.ptr 0 [.idx (x1:Int).toNat] false),qV 15 t2_ ((List.getD p1_1 (x1:Int).toNat (List.replicate 12 ((0:Int),(0:Int))))),qB 16 r1001,qI 17 .i64 x1] 39 [oA 0 e0 t2_ p1_1]
noncomputable def ex1_1(e0:TypeId)(p1_0:Int)(p1_1:(List (List Zb)))(x1:Int):St:=mkS 19 [qL 0 0,(1,.fn 73 []),qI 7 .i64 p1_0,qI 8 .i64 x1,qB 9 (decide (x1<p1_0))] 39 [oA 0 e0 t2_ p1_1]
noncomputable def B1(p1_0:Int)(p1_1:(List (List Zb)))(K0:Int→Bool→Option α)(K1:Int→Option α)(rec:Int→Option α)(x1:Int):Option α:=
 cond (decide (x1<p1_0)) (cond (inB x1 (List.length p1_1)) ((g0_ (List.getD p1_1 (x1:Int).toNat (List.replicate 12 ((0:Int),(0:Int))))).bind fun r1001=>cond r1001 (K0 x1 r1001) (rec (IntKind.i64.wrap (x1+(1:Int))))) none) (K1 x1)
theorem step1:LB1 g0_ fuel cont rec (emb1 e0 p1_0 p1_1 x1)=B1 g0_ p1_0 p1_1 (fun x1 r1001=>cont .ret (ex1_0 e0 p1_0 p1_1 x1 r1001)) (fun x1=>cont (.exit 0) (ex1_1 e0 p1_0 p1_1 x1)) (fun y=>rec (emb1 e0 p1_0 p1_1 y)) x1:=by kernel_rfl
theorem loop1:loopN (LB1 g0_ fuel cont) fuel (emb1 e0 p1_0 p1_1 x1)=iter (B1 g0_ p1_0 p1_1 (fun x1 r1001=>cont .ret (ex1_0 e0 p1_0 p1_1 x1 r1001)) (fun x1=>cont (.exit 0) (ex1_1 e0 p1_0 p1_1 x1))) fuel x1:=loop_sim (fun rec x=>step1 ..) fuel x1
noncomputable def pf(fuel:Nat)(a0:(List (List Zb)))(k:B→Option α):Option α:=
 iter (B1 g0_ (((List.length a0):Nat):Int) a0 (fun (x1:Int) (r1001:Bool)=>k x1) (fun (x1:Int)=>k (-1:Int))) fuel (0:Int)
theorem tail1:C1 g0_ K fuel .ret (ex1_0 e0 (((List.length a0):Nat):Int) a0 x1 r1001)=((fun (k:B→Option α)=>k x1) (fun r=>K (enc 0 r))):=by kernel_rfl
theorem tail2:C1 g0_ K fuel (.exit 0) (ex1_1 e0 (((List.length a0):Nat):Int) a0 x1)=((fun (k:B→Option α)=>k (-1:Int)) (fun r=>K (enc 0 r))):=by kernel_rfl
theorem red_raw:run TT small (tab g0_) Try.f113 ann [] fuel [.obj false ⟨e0,t2_,a0⟩,.fn 73 []] K=loopN (LB1 g0_ fuel (C1 g0_ K fuel)) fuel (emb1 e0 (((List.length a0):Nat):Int) a0 (0:Int)):=by kernel_rfl
theorem red:run TT small (tab g0_) Try.f113 ann [] fuel [.obj false ⟨e0,t2_,a0⟩,.fn 73 []] K=pf g0_ fuel a0 (fun r=>K (enc 0 r)):=by
 rw[red_raw]
 simp only[loop1,tail1,tail2]
 all_goals kernel_rfl
end
theorem of_cl{g0_}(h0_:Fz27.S g0_){P:A→Prop}{v:A→B}(hp:∀x,P x→∀k:B→Option Res,pf g0_ BIG x k=k (v x)):S (cl P v):=cl_snd (fn:=Try.f113) hmx_ (ttok _) (aC h0_ aN) ann [] [] (by kernel_rfl) (by decide) (by decide) (by kernel_rfl) fun x h e=>(red _ some BIG (e 0) x).trans (hp x h _)
end Fz43
namespace Fz38
section
variable {α:Type} (g0_:Fz43.F) (K:Res→Option α) (fuel:Nat) (cont:Ex→St→Option α) (rec:St→Option α) (e0:TypeId) (a0:(List (List Zb)))
noncomputable def tab:=tabOf [(113,Fz43.sig g0_)]
noncomputable def pf(fuel:Nat)(a0:(List (List Zb)))(k:B→Option α):Option α:=
 (g0_ a0).bind fun r1=>k (decide (r1≥(0:Int)))
theorem red:run TT small (tab g0_) Try.f72 .nil [] fuel [.obj false ⟨e0,t2_,a0⟩,.fn 73 []] K=pf g0_ fuel a0 (fun r=>K (enc 0 r)):=by kernel_rfl
end
theorem of_cl{g0_}(h0_:Fz43.S g0_){P:A→Prop}{v:A→B}(hp:∀x,P x→∀k:B→Option Res,pf g0_ BIG x k=k (v x)):S (cl P v):=cl_snd (fn:=Try.f72) hmx_ (ttok _) (aC h0_ aN) .nil [] [] (by kernel_rfl) (by decide) (by decide) (by kernel_rfl) fun x h e=>(red _ some BIG (e 0) x).trans (hp x h _)
end Fz38
namespace Fz26
section
variable {α:Type} (g0_:Fz38.F) (K:Res→Option α) (fuel:Nat) (cont:Ex→St→Option α) (rec:St→Option α) (e0:TypeId) (a0:(List (List Zb)))
noncomputable def tab:=tabOf [(72,Fz38.sig g0_)]
noncomputable def pf(fuel:Nat)(a0:(List (List Zb)))(k:B→Option α):Option α:=
 cond (decide ((((List.length a0):Nat):Int)≤(12:Int))) ((g0_ a0).bind fun r1=>k (!r1)) (k false)
theorem red:run TT small (tab g0_) Try.f21 .nil [] fuel [.obj false ⟨e0,t2_,a0⟩] K=pf g0_ fuel a0 (fun r=>K (enc 0 r)):=by kernel_rfl
end
theorem of_cl{g0_}(h0_:Fz38.S g0_){P:A→Prop}{v:A→B}(hp:∀x,P x→∀k:B→Option Res,pf g0_ BIG x k=k (v x)):S (cl P v):=cl_snd (fn:=Try.f21) hmx_ (ttok _) (aC h0_ aN) .nil [] [] (by kernel_rfl) (by decide) (by decide) (by kernel_rfl) fun x h e=>(red _ some BIG (e 0) x).trans (hp x h _)
end Fz26
namespace Fz35
section
variable {α:Type} (K:Res→Option α) (fuel:Nat) (cont:Ex→St→Option α) (rec:St→Option α) (e0:TypeId) (a0:(List Zb))
noncomputable def pf(fuel:Nat)(a0:(List Zb))(k:B→Option α):Option α:=
 cond (List.isEmpty a0) (both (k ([]:List Zb)) (cond (okL (List.length ([]:List Zb)+List.length a0)) (k (([]:List Zb)++a0)) none)) (cond (okL (List.length ([]:List Zb)+List.length a0)) (k (([]:List Zb)++a0)) none)
theorem red:run TT small (tabOf []) Try.f98 .nil [] fuel [.obj false ⟨e0,t1_,a0⟩] K=pf fuel a0 (fun r=>K (enc 0 r)):=by kernel_rfl
end
theorem of_cl{P:A→Prop}{v:A→B}(hp:∀x,P x→∀k:B→Option Res,pf BIG x k=k (v x)):S (cl P v):=cl_snd (fn:=Try.f98) hmx_ (ttok _) aN .nil [] [] (by kernel_rfl) (by decide) (by decide) (by kernel_rfl) fun x h e=>(red some BIG (e 0) x).trans (hp x h _)
end Fz35
namespace Fz10
section
variable {α:Type} (K:Res→Option α) (fuel:Nat) (cont:Ex→St→Option α) (rec:St→Option α) (a0:Zb)
noncomputable def pf(fuel:Nat)(a0:Zb)(k:B→Option α):Option α:=
 k (eqV (.st (.pair (.int .u8) (.int .i16))) a0 ((0:Int),(0:Int)))
theorem red:run TT small (tabOf []) Try.f120 .nil [] fuel [.val t1_ a0] K=pf fuel a0 (fun r=>K (enc 0 r)):=by kernel_rfl
end
theorem of_tot{v:A→B}(hp:∀x,∀k:B→Option Res,pf BIG x k=k (v x)):S (tot v):=tot_snd (fn:=Try.f120) hmx_ (ttok _) aN .nil [] [] (by kernel_rfl) (by decide) (by decide) (by kernel_rfl) fun x e=>(red some BIG x).trans (hp x _)
end Fz10
namespace Fz41
section
variable {α:Type} (g0_:Fz10.F) (K:Res→Option α) (fuel:Nat) (cont:Ex→St→Option α) (rec:St→Option α) (e0:TypeId) (p1_0:Int) (p1_1:(List Zb)) (x1:Int) (a0:(List Zb)) (r1001:Bool)
noncomputable def tab:=tabOf [(120,Fz10.sig g0_)]
noncomputable def E:Env:=⟨TT,small,(tab g0_),1,19⟩
def ann:Ann:=.two .nil (.two (.two .nil (.one (.loop [0,1,7,8] .nil))) .nil)
noncomputable def emb1(e0:TypeId)(p1_0:Int)(p1_1:(List Zb))(x1:Int):St:=mkS 19 [qL 0 0,(1,.fn 120 []),qI 7 .i64 p1_0,qI 8 .i64 x1] 39 [oA 0 e0 t1_ p1_1]
noncomputable def LB1:(St→Option α)→St→Option α:=roundV (E g0_) fuel [true,false,true,false] (bodyOf Try.f127) ann cont
noncomputable def C1:Ex→St→Option α:=contAt (E g0_) fuel [true,false,true,false] (bodyOf Try.f127) ann [] (finK TT 1 [some 0,none] Try.f127 [] K)
noncomputable def ex1_0(e0:TypeId)(p1_0:Int)(p1_1:(List Zb))(x1:Int)(r1001:Bool):St:=mkS 19 [qL 0 0,(1,.fn 120 []),qI 4 .i64 x1,qI 5 .i64 x1,qI 7 .i64 p1_0,qI 8 .i64 x1,qB 9 (decide (x1<p1_0)),qI 10 .i64 x1,(11,.fn 120 []),qL 12 0,qI 13 .i64 x1,(14,.ptr 0 [.idx (x1:Int).toNat] false),qV 15 t1_ (List.getD p1_1 (x1:Int).toNat ((0:Int),(0:Int))),qB 16 r1001,qI 17 .i64 x1] 39 [oA 0 e0 t1_ p1_1]
noncomputable def ex1_1(e0:TypeId)(p1_0:Int)(p1_1:(List Zb))(x1:Int):St:=mkS 19 [qL 0 0,(1,.fn 120 []),qI 7 .i64 p1_0,qI 8 .i64 x1,qB 9 (decide (x1<p1_0))] 39 [oA 0 e0 t1_ p1_1]
noncomputable def B1(p1_0:Int)(p1_1:(List Zb))(K0:Int→Bool→Option α)(K1:Int→Option α)(rec:Int→Option α)(x1:Int):Option α:=
 cond (decide (x1<p1_0)) (cond (inB x1 (List.length p1_1)) ((g0_ (List.getD p1_1 (x1:Int).toNat ((0:Int),(0:Int)))).bind fun r1001=>cond r1001 (K0 x1 r1001) (rec (IntKind.i64.wrap (x1+(1:Int))))) none) (K1 x1)
theorem step1:LB1 g0_ fuel cont rec (emb1 e0 p1_0 p1_1 x1)=B1 g0_ p1_0 p1_1 (fun x1 r1001=>cont .ret (ex1_0 e0 p1_0 p1_1 x1 r1001)) (fun x1=>cont (.exit 0) (ex1_1 e0 p1_0 p1_1 x1)) (fun y=>rec (emb1 e0 p1_0 p1_1 y)) x1:=by kernel_rfl
theorem loop1:loopN (LB1 g0_ fuel cont) fuel (emb1 e0 p1_0 p1_1 x1)=iter (B1 g0_ p1_0 p1_1 (fun x1 r1001=>cont .ret (ex1_0 e0 p1_0 p1_1 x1 r1001)) (fun x1=>cont (.exit 0) (ex1_1 e0 p1_0 p1_1 x1))) fuel x1:=loop_sim (fun rec x=>step1 ..) fuel x1
noncomputable def pf(fuel:Nat)(a0:(List Zb))(k:B→Option α):Option α:=
 iter (B1 g0_ (((List.length a0):Nat):Int) a0 (fun (x1:Int) (r1001:Bool)=>k x1) (fun (x1:Int)=>k (-1:Int))) fuel (0:Int)
theorem tail1:C1 g0_ K fuel .ret (ex1_0 e0 (((List.length a0):Nat):Int) a0 x1 r1001)=((fun (k:B→Option α)=>k x1) (fun r=>K (enc 0 r))):=by kernel_rfl
theorem tail2:C1 g0_ K fuel (.exit 0) (ex1_1 e0 (((List.length a0):Nat):Int) a0 x1)=((fun (k:B→Option α)=>k (-1:Int)) (fun r=>K (enc 0 r))):=by kernel_rfl
theorem red_raw:run TT small (tab g0_) Try.f127 ann [] fuel [.obj false ⟨e0,t1_,a0⟩,.fn 120 []] K=loopN (LB1 g0_ fuel (C1 g0_ K fuel)) fuel (emb1 e0 (((List.length a0):Nat):Int) a0 (0:Int)):=by kernel_rfl
theorem red:run TT small (tab g0_) Try.f127 ann [] fuel [.obj false ⟨e0,t1_,a0⟩,.fn 120 []] K=pf g0_ fuel a0 (fun r=>K (enc 0 r)):=by
 rw[red_raw]
 simp only[loop1,tail1,tail2]
 all_goals kernel_rfl
end
theorem of_cl{g0_}(h0_:Fz10.S g0_){P:A→Prop}{v:A→B}(hp:∀x,P x→∀k:B→Option Res,pf g0_ BIG x k=k (v x)):S (cl P v):=cl_snd (fn:=Try.f127) hmx_ (ttok _) (aC h0_ aN) ann [] [] (by kernel_rfl) (by decide) (by decide) (by kernel_rfl) fun x h e=>(red _ some BIG (e 0) x).trans (hp x h _)
end Fz41
namespace Fz39
section
variable {α:Type} (g0_:Fz41.F) (g1_:Fz10.F) (K:Res→Option α) (fuel:Nat) (cont:Ex→St→Option α) (rec:St→Option α) (e0:TypeId) (x1:(Int×Int×(List Zb))) (a0:(List Zb)) (r1:Int)
noncomputable def tab:=tabOf [(127,Fz41.sig g0_),(120,Fz10.sig g1_)]
noncomputable def E:Env:=⟨TT,small,(tab g0_ g1_),1,42⟩
def ann:Ann:=.two .nil (.two .nil (.two .nil (.two (.two .nil (.one (.loop [0,1,5,6] .nil))) .nil)))
noncomputable def emb1(e0:TypeId)(x1:(Int×Int×(List Zb))):St:=mkS 42 [qL 0 0,(1,.fn 120 []),qI 5 .i64 x1.1,qI 6 .i64 x1.2.1] 85 [(0,.dat ⟨e0,t1_,x1.2.2,true,false,none⟩)]
noncomputable def LB1:(St→Option α)→St→Option α:=roundV (E g0_ g1_) fuel [true,true,true,false,true,false] (bodyOf Try.f97) ann cont
noncomputable def C1:Ex→St→Option α:=contAt (E g0_ g1_) fuel [true,true,true,false,true,false] (bodyOf Try.f97) ann [] (finK TT 1 [some 0,none] Try.f97 [0] K)
noncomputable def ex1_0(e0:TypeId)(x1:(Int×Int×(List Zb))):St:=mkS 42 [qL 0 0,(1,.fn 120 []),qI 5 .i64 x1.1,qI 6 .i64 x1.2.1,qI 16 .i64 x1.2.1,qL 17 0,qI 18 .i64 (((List.length x1.2.2):Nat):Int),qB 19 ((decide (x1.2.1<(((List.length x1.2.2):Nat):Int))))] 85 [(0,.dat ⟨e0,t1_,x1.2.2,true,false,none⟩)]
noncomputable def B1(K0:(Int×Int×(List Zb))→Option α)(rec:(Int×Int×(List Zb))→Option α)(x1:(Int×Int×(List Zb))):Option α:=
 cond (decide (x1.2.1<(((List.length x1.2.2):Nat):Int))) (cond (inB x1.2.1 (List.length x1.2.2)) ((g1_ (List.getD x1.2.2 (x1.2.1:Int).toNat ((0:Int),(0:Int)))).bind fun r1001=>cond (!r1001) (cond (inB x1.1 (List.length x1.2.2)) (rec (((IntKind.i64.wrap (x1.1+(1:Int))),(IntKind.i64.wrap (x1.2.1+(1:Int))),(List.set x1.2.2 (x1.1:Int).toNat (List.getD x1.2.2 (x1.2.1:Int).toNat ((0:Int),(0:Int))))))) none) (rec ((x1.1,(IntKind.i64.wrap (x1.2.1+(1:Int))),x1.2.2)))) none) (K0 x1)
theorem step1:LB1 g0_ g1_ fuel cont rec (emb1 e0 x1)=B1 g1_ (fun x1=>cont (.exit 0) (ex1_0 e0 x1)) (fun y=>rec (emb1 e0 y)) x1:=by kernel_rfl
theorem loop1:loopN (LB1 g0_ g1_ fuel cont) fuel (emb1 e0 x1)=iter (B1 g1_ (fun x1=>cont (.exit 0) (ex1_0 e0 x1))) fuel x1:=loop_sim (fun rec x=>step1 ..) fuel x1
noncomputable def pf(fuel:Nat)(a0:(List Zb))(k:B→Option α):Option α:=
 (g0_ a0).bind fun r1=>cond (r1==(-1:Int)) (k ((none:Option (Nat×Nat)),a0)) (iter (B1 g1_ (fun (x1:(Int×Int×(List Zb)))=>cond (inW x1.1 (((List.length x1.2.2):Nat):Int) (List.length x1.2.2)) (cond (inW (0:Int) x1.1 (List.length (overL x1.2.2 (x1.1:Int).toNat (List.replicate ((((List.length x1.2.2):Nat):Int)-x1.1).toNat ((0:Int),(0:Int)))))) (k ((some (0,(x1.1-(0:Int)).toNat)),(overL x1.2.2 (x1.1:Int).toNat (List.replicate ((((List.length x1.2.2):Nat):Int)-x1.1).toNat ((0:Int),(0:Int)))))) none) none)) fuel ((r1,(IntKind.i64.wrap (r1+(1:Int))),a0)))
theorem tail1:C1 g0_ g1_ K fuel (.exit 0) (ex1_0 e0 x1)=((fun (k:B→Option α)=>cond (inW x1.1 (((List.length x1.2.2):Nat):Int) (List.length x1.2.2)) (cond (inW (0:Int) x1.1 (List.length (overL x1.2.2 (x1.1:Int).toNat (List.replicate ((((List.length x1.2.2):Nat):Int)-x1.1).toNat ((0:Int),(0:Int)))))) (k ((some (0,(x1.1-(0:Int)).toNat)),(overL x1.2.2 (x1.1:Int).toNat (List.replicate ((((List.length x1.2.2):Nat):Int)-x1.1).toNat ((0:Int),(0:Int)))))) none) none) (fun r=>K (enc e0 r))):=by kernel_rfl
theorem red_raw:run TT small (tab g0_ g1_) Try.f97 ann [0] fuel [.obj false ⟨e0,t1_,a0⟩,.fn 120 []] K=(g0_ a0).bind fun r1=>cond (r1==(-1:Int)) (K ⟨[.al 0 (none:Option (Nat×Nat))],[⟨e0,t1_,a0⟩]⟩) (loopN (LB1 g0_ g1_ fuel (C1 g0_ g1_ K fuel)) fuel (emb1 e0 ((r1,(IntKind.i64.wrap (r1+(1:Int))),a0)))):=by kernel_rfl
theorem red:run TT small (tab g0_ g1_) Try.f97 ann [0] fuel [.obj false ⟨e0,t1_,a0⟩,.fn 120 []] K=pf g0_ g1_ fuel a0 (fun r=>K (enc e0 r)):=by
 rw[red_raw]
 simp only[loop1,tail1]
 all_goals kernel_rfl
end
theorem of_cl{g0_ g1_}(h0_:Fz41.S g0_)(h1_:Fz10.S g1_){P:A→Prop}{v:A→B}(hp:∀x,P x→∀k:B→Option Res,pf g0_ g1_ BIG x k=k (v x)):S (cl P v):=cl_snd (fn:=Try.f97) hmx_ (ttok _) (aC h0_ (aC h1_ aN)) ann [0] [] (by kernel_rfl) (by decide) (by decide) (by kernel_rfl) fun x h e=>(red _ _ some BIG (e 0) x).trans (hp x h _)
end Fz39
namespace Fz9
section
variable {α:Type} (g0_:Fz35.F) (g1_:Fz39.F) (K:Res→Option α) (fuel:Nat) (cont:Ex→St→Option α) (rec:St→Option α) (a0:(List Zb))
noncomputable def tab:=tabOf [(98,Fz35.sig g0_),(97,Fz39.sig g1_)]
noncomputable def pf(fuel:Nat)(a0:(List Zb))(k:B→Option α):Option α:=
 (g0_ a0).bind fun r1=>(g1_ r1).bind fun r2=>k (Win.cut r2.1 r2.2)
theorem red:run TT small (tab g0_ g1_) Try.f85 .nil [] fuel [.val t2_ a0] K=pf g0_ g1_ fuel a0 (fun r=>K (enc 0 r)):=by kernel_rfl
end
theorem of_cl{g0_ g1_}(h0_:Fz35.S g0_)(h1_:Fz39.S g1_){P:A→Prop}{v:A→B}(hp:∀x,P x→∀k:B→Option Res,pf g0_ g1_ BIG x k=k (v x)):S (cl P v):=cl_snd (fn:=Try.f85) hmx_ (ttok _) (aC h0_ (aC h1_ aN)) .nil [] [] (by kernel_rfl) (by decide) (by decide) (by kernel_rfl) fun x h e=>(red _ _ some BIG x).trans (hp x h _)
end Fz9
namespace Fz28
section
variable {α:Type} (g0_:Fz9.F) (g1_:Fz44.F) (K:Res→Option α) (fuel:Nat) (cont:Ex→St→Option α) (rec:St→Option α) (e0:TypeId) (p1_0:Int) (p1_1:(List (List Zb))) (x1:(Int×(List Zb))) (a0:(List (List Zb)))
noncomputable def tab:=tabOf [(85,Fz9.sig g0_),(112,Fz44.sig g1_)]
noncomputable def E:Env:=⟨TT,small,(tab g0_ g1_),1,21⟩
def ann:Ann:=.two .nil (.two .nil (.two (.two .nil (.one (.loop [3,7,8,9] .nil))) .nil))
noncomputable def emb1(e0:TypeId)(p1_0:Int)(p1_1:(List (List Zb)))(x1:(Int×(List Zb))):St:=mkS 21 [qL 3 43,qL 7 0,qI 8 .i64 p1_0,qI 9 .i64 x1.1] 44 [oA 0 e0 t2_ p1_1,oN 43 29 t1_ x1.2]
noncomputable def LB1:(St→Option α)→St→Option α:=roundV (E g0_ g1_) fuel [true,true,false,true,false] (bodyOf Try.f66) ann cont
noncomputable def C1:Ex→St→Option α:=contAt (E g0_ g1_) fuel [true,true,false,true,false] (bodyOf Try.f66) ann [] (finK TT 1 [some 0] Try.f66 [] K)
noncomputable def ex1_0(e0:TypeId)(p1_0:Int)(p1_1:(List (List Zb)))(x1:(Int×(List Zb))):St:=mkS 21 [qL 3 43,qL 7 0,qI 8 .i64 p1_0,qI 9 .i64 x1.1,qB 10 (decide (x1.1<p1_0))] 44 [oA 0 e0 t2_ p1_1,oN 43 29 t1_ x1.2]
noncomputable def B1(p1_0:Int)(p1_1:(List (List Zb)))(K0:(Int×(List Zb))→Option α)(rec:(Int×(List Zb))→Option α)(x1:(Int×(List Zb))):Option α:=
 cond (decide (x1.1<p1_0)) (cond (inB x1.1 (List.length p1_1)) ((g0_ (List.getD p1_1 (x1.1:Int).toNat (List.replicate 12 ((0:Int),(0:Int))))).bind fun r1001=>cond (okL (List.length x1.2+List.length r1001)) (rec (((IntKind.i64.wrap (x1.1+(1:Int))),(x1.2++r1001)))) none) none) (K0 x1)
theorem step1:LB1 g0_ g1_ fuel cont rec (emb1 e0 p1_0 p1_1 x1)=B1 g0_ p1_0 p1_1 (fun x1=>cont (.exit 0) (ex1_0 e0 p1_0 p1_1 x1)) (fun y=>rec (emb1 e0 p1_0 p1_1 y)) x1:=by kernel_rfl
theorem loop1:loopN (LB1 g0_ g1_ fuel cont) fuel (emb1 e0 p1_0 p1_1 x1)=iter (B1 g0_ p1_0 p1_1 (fun x1=>cont (.exit 0) (ex1_0 e0 p1_0 p1_1 x1))) fuel x1:=loop_sim (fun rec x=>step1 ..) fuel x1
noncomputable def pf(fuel:Nat)(a0:(List (List Zb)))(k:B→Option α):Option α:=
 iter (B1 g0_ (((List.length a0):Nat):Int) a0 (fun (x1:(Int×(List Zb)))=>(g1_ x1.2).bind fun r1=>k r1)) fuel ((0:Int),([]:List Zb))
theorem tail1:C1 g0_ g1_ K fuel (.exit 0) (ex1_0 e0 (((List.length a0):Nat):Int) a0 x1)=((fun (k:B→Option α)=>(g1_ x1.2).bind fun r1=>k r1) (fun r=>K (enc 0 r))):=by kernel_rfl
theorem red_raw:run TT small (tab g0_ g1_) Try.f66 ann [] fuel [.obj false ⟨e0,t2_,a0⟩] K=loopN (LB1 g0_ g1_ fuel (C1 g0_ g1_ K fuel)) fuel (emb1 e0 (((List.length a0):Nat):Int) a0 ((0:Int),([]:List Zb))):=by kernel_rfl
theorem red:run TT small (tab g0_ g1_) Try.f66 ann [] fuel [.obj false ⟨e0,t2_,a0⟩] K=pf g0_ g1_ fuel a0 (fun r=>K (enc 0 r)):=by
 rw[red_raw]
 simp only[loop1,tail1]
 all_goals kernel_rfl
end
theorem of_cl{g0_ g1_}(h0_:Fz9.S g0_)(h1_:Fz44.S g1_){P:A→Prop}{v:A→B}(hp:∀x,P x→∀k:B→Option Res,pf g0_ g1_ BIG x k=k (v x)):S (cl P v):=cl_snd (fn:=Try.f66) hmx_ (ttok _) (aC h0_ (aC h1_ aN)) ann [] [] (by kernel_rfl) (by decide) (by decide) (by kernel_rfl) fun x h e=>(red _ _ some BIG (e 0) x).trans (hp x h _)
end Fz28
namespace Fz31
section
variable {α:Type} (K:Res→Option α) (fuel:Nat) (cont:Ex→St→Option α) (rec:St→Option α) (e0:TypeId) (p1_0:Int) (p1_1:(List Zb)) (x1:(Int×(List (List Zb)))) (a0:(List Zb))
noncomputable def E:Env:=⟨TT,small,(tabOf []),1,31⟩
def ann:Ann:=.two .nil (.two .nil (.two (.two .nil (.one (.loop [3,7,8,9] .nil))) .nil))
noncomputable def emb1(e0:TypeId)(p1_0:Int)(p1_1:(List Zb))(x1:(Int×(List (List Zb)))):St:=mkS 31 [qL 3 63,qL 7 0,qI 8 .i64 p1_0,qI 9 .i64 x1.1] 64 [oA 0 e0 t1_ p1_1,oN 63 31 t2_ x1.2]
noncomputable def LB1:(St→Option α)→St→Option α:=roundV E fuel [true,true,false,true,false] (bodyOf Try.f65) ann cont
noncomputable def C1:Ex→St→Option α:=contAt E fuel [true,true,false,true,false] (bodyOf Try.f65) ann [] (finK TT 1 [some 0] Try.f65 [] K)
noncomputable def ex1_0(e0:TypeId)(p1_0:Int)(p1_1:(List Zb))(x1:(Int×(List (List Zb)))):St:=mkS 31 [qL 3 63,qL 7 0,qI 8 .i64 p1_0,qI 9 .i64 x1.1,qB 10 (decide (x1.1<p1_0))] 64 [oA 0 e0 t1_ p1_1,oN 63 31 t2_ x1.2]
noncomputable def B1(p1_0:Int)(p1_1:(List Zb))(K0:(Int×(List (List Zb)))→Option α)(rec:(Int×(List (List Zb)))→Option α)(x1:(Int×(List (List Zb)))):Option α:=
 cond (decide (x1.1<p1_0)) (cond (inB x1.1 (List.length p1_1)) (cond ((12:Int)==0) none (cond ((Int.tmod x1.1 (12:Int))==(0:Int)) (cond (okL (List.length x1.2+List.length [(List.replicate 12 ((0:Int),(0:Int)))])) (cond ((12:Int)==0) none (cond ((12:Int)==0) none (cond (inB (IntKind.i64.wrap (Int.tdiv x1.1 (12:Int))) (List.length (x1.2++[(List.replicate 12 ((0:Int),(0:Int)))]))) (cond (inB (Int.tmod x1.1 (12:Int)) 12) (rec (((IntKind.i64.wrap (x1.1+(1:Int))),(List.set (x1.2++[(List.replicate 12 ((0:Int),(0:Int)))]) (IntKind.i64.wrap (Int.tdiv x1.1 (12:Int))).toNat (List.set (List.getD (x1.2++[(List.replicate 12 ((0:Int),(0:Int)))]) (IntKind.i64.wrap (Int.tdiv x1.1 (12:Int))).toNat (List.replicate 12 ((0:Int),(0:Int)))) (Int.tmod x1.1 (12:Int)).toNat (List.getD p1_1 (x1.1:Int).toNat ((0:Int),(0:Int)))))))) none) none))) none) (cond ((12:Int)==0) none (cond ((12:Int)==0) none (cond (inB (IntKind.i64.wrap (Int.tdiv x1.1 (12:Int))) (List.length x1.2)) (cond (inB (Int.tmod x1.1 (12:Int)) 12) (rec (((IntKind.i64.wrap (x1.1+(1:Int))),(List.set x1.2 (IntKind.i64.wrap (Int.tdiv x1.1 (12:Int))).toNat (List.set (List.getD x1.2 (IntKind.i64.wrap (Int.tdiv x1.1 (12:Int))).toNat (List.replicate 12 ((0:Int),(0:Int)))) (Int.tmod x1.1 (12:Int)).toNat (List.getD p1_1 (x1.1:Int).toNat ((0:Int),(0:Int)))))))) none) none))))) none) (K0 x1)
theorem step1:LB1 fuel cont rec (emb1 e0 p1_0 p1_1 x1)=B1 p1_0 p1_1 (fun x1=>cont (.exit 0) (ex1_0 e0 p1_0 p1_1 x1)) (fun y=>rec (emb1 e0 p1_0 p1_1 y)) x1:=by kernel_rfl
theorem loop1:loopN (LB1 fuel cont) fuel (emb1 e0 p1_0 p1_1 x1)=iter (B1 p1_0 p1_1 (fun x1=>cont (.exit 0) (ex1_0 e0 p1_0 p1_1 x1))) fuel x1:=loop_sim (fun rec x=>step1 ..) fuel x1
noncomputable def pf(fuel:Nat)(a0:(List Zb))(k:B→Option α):Option α:=
 iter (B1 (((List.length a0):Nat):Int) a0 (fun (x1:(Int×(List (List Zb))))=>k x1.2)) fuel (((0:Int),([]:List (List Zb))))
theorem tail1:C1 K fuel (.exit 0) (ex1_0 e0 (((List.length a0):Nat):Int) a0 x1)=((fun (k:B→Option α)=>k x1.2) (fun r=>K (enc 0 r))):=by kernel_rfl
theorem red_raw:run TT small (tabOf []) Try.f65 ann [] fuel [.obj false ⟨e0,t1_,a0⟩] K=loopN (LB1 fuel (C1 K fuel)) fuel (emb1 e0 (((List.length a0):Nat):Int) a0 (((0:Int),([]:List (List Zb))))):=by kernel_rfl
theorem red:run TT small (tabOf []) Try.f65 ann [] fuel [.obj false ⟨e0,t1_,a0⟩] K=pf fuel a0 (fun r=>K (enc 0 r)):=by
 rw[red_raw]
 simp only[loop1,tail1]
 all_goals kernel_rfl
end
theorem of_cl{P:A→Prop}{v:A→B}(hp:∀x,P x→∀k:B→Option Res,pf BIG x k=k (v x)):S (cl P v):=cl_snd (fn:=Try.f65) hmx_ (ttok _) aN ann [] [] (by kernel_rfl) (by decide) (by decide) (by kernel_rfl) fun x h e=>(red some BIG (e 0) x).trans (hp x h _)
end Fz31
namespace Fz20
section
variable {α:Type} (g0_:Fz26.F) (g1_:Fz28.F) (g2_:Fz31.F) (K:Res→Option α) (fuel:Nat) (cont:Ex→St→Option α) (rec:St→Option α) (e0:TypeId) (a0:(List (List Zb)))
noncomputable def tab:=tabOf [(21,Fz26.sig g0_),(66,Fz28.sig g1_),(65,Fz31.sig g2_)]
noncomputable def pf(fuel:Nat)(a0:(List (List Zb)))(k:B→Option α):Option α:=
 (g0_ a0).bind fun r1=>cond (!r1) (k (([]:List (List Zb)),(1:Int))) ((g1_ a0).bind fun r2=>(g2_ r2).bind fun r3=>k (r3,(0:Int)))
theorem red:run TT small (tab g0_ g1_ g2_) Try.f15 .nil [] fuel [.obj false ⟨e0,t2_,a0⟩] K=pf g0_ g1_ g2_ fuel a0 (fun r=>K (enc 0 r)):=by kernel_rfl
end
theorem of_cl{g0_ g1_ g2_}(h0_:Fz26.S g0_)(h1_:Fz28.S g1_)(h2_:Fz31.S g2_){P:A→Prop}{v:A→B}(hp:∀x,P x→∀k:B→Option Res,pf g0_ g1_ g2_ BIG x k=k (v x)):S (cl P v):=cl_snd (fn:=Try.f15) hmx_ (ttok _) (aC h0_ (aC h1_ (aC h2_ aN))) .nil [] [] (by kernel_rfl) (by decide) (by decide) (by kernel_rfl) fun x h e=>(red _ _ _ some BIG (e 0) x).trans (hp x h _)
end Fz20
namespace Fz59
section
variable {α:Type} (K:Res→Option α) (fuel:Nat) (cont:Ex→St→Option α) (rec:St→Option α) (a0:Zb)
noncomputable def pf(fuel:Nat)(a0:Zb)(k:B→Option α):Option α:=
 k (eqV (.st (.pair (.int .u8) (.int .i16))) a0 ((0:Int),(0:Int)))
theorem red:run TT small (tabOf []) Try.f118 .nil [] fuel [.val t1_ a0] K=pf fuel a0 (fun r=>K (enc 0 r)):=by kernel_rfl
end
theorem of_tot{v:A→B}(hp:∀x,∀k:B→Option Res,pf BIG x k=k (v x)):S (tot v):=tot_snd (fn:=Try.f118) hmx_ (ttok _) aN .nil [] [] (by kernel_rfl) (by decide) (by decide) (by kernel_rfl) fun x e=>(red some BIG x).trans (hp x _)
end Fz59
namespace Fz54
section
variable {α:Type} (K:Res→Option α) (fuel:Nat) (cont:Ex→St→Option α) (rec:St→Option α) (a0 a1 a2:Int)
noncomputable def pf(fuel:Nat)(a0 a1 a2:Int)(k:B→Option α):Option α:=
 cond (decide (a0≥a1)) (k (decide (a0≤a2))) (k false)
theorem red:run TT small (tabOf []) Try.f140 .nil [] fuel [.val (.int .i64) a0,.val (.int .i64) a1,.val (.int .i64) a2] K=pf fuel a0 a1 a2 (fun r=>K (enc 0 r)):=by kernel_rfl
end
theorem of_tot{v:A→B}(hp:∀x,∀k:B→Option Res,pf BIG x.1 x.2.1 x.2.2 k=k (v x)):S (tot v):=tot_snd (fn:=Try.f140) hmx_ (ttok _) aN .nil [] [] (by kernel_rfl) (by decide) (by decide) (by kernel_rfl) fun x e=>(red some BIG x.1 x.2.1 x.2.2).trans (hp x _)
end Fz54
namespace Fz56
section
variable {α:Type} (g0_:Fz54.F) (K:Res→Option α) (fuel:Nat) (cont:Ex→St→Option α) (rec:St→Option α) (a0:Zb)
noncomputable def tab:=tabOf [(140,Fz54.sig g0_)]
noncomputable def pf(fuel:Nat)(a0:Zb)(k:B→Option α):Option α:=
 (g0_ ((IntKind.i64.wrap a0.1),(1:Int),(20:Int))).bind fun r1=>cond r1 ((g0_ ((IntKind.i64.wrap a0.2),(1900:Int),(2099:Int))).bind fun r2=>k r2) (k false)
theorem red:run TT small (tab g0_) Try.f119 .nil [] fuel [.val t1_ a0] K=pf g0_ fuel a0 (fun r=>K (enc 0 r)):=by kernel_rfl
end
theorem of_cl{g0_}(h0_:Fz54.S g0_){P:A→Prop}{v:A→B}(hp:∀x,P x→∀k:B→Option Res,pf g0_ BIG x k=k (v x)):S (cl P v):=cl_snd (fn:=Try.f119) hmx_ (ttok _) (aC h0_ aN) .nil [] [] (by kernel_rfl) (by decide) (by decide) (by kernel_rfl) fun x h e=>(red _ some BIG x).trans (hp x h _)
end Fz56
namespace Fz60
section
variable {α:Type} (g0_:Fz59.F) (g1_:Fz56.F) (K:Res→Option α) (fuel:Nat) (cont:Ex→St→Option α) (rec:St→Option α) (e0:TypeId) (p1_0:(List Zb)) (x1:Int) (a0:(List Zb)) (r1001 r1002:Bool)
noncomputable def tab:=tabOf [(118,Fz59.sig g0_),(119,Fz56.sig g1_)]
noncomputable def E:Env:=⟨TT,small,(tab g0_ g1_),1,24⟩
def ann:Ann:=.two .nil (.two (.two .nil (.one (.loop [0,3] .nil))) .nil)
noncomputable def emb1(e0:TypeId)(p1_0:(List Zb))(x1:Int):St:=mkS 24 [qP 0 0,qI 3 .i64 x1] 49 [oA 0 e0 t2_ [p1_0]]
noncomputable def LB1:(St→Option α)→St→Option α:=roundV (E g0_ g1_) fuel [true,false,true,false] (bodyOf Try.f82) ann cont
noncomputable def C1:Ex→St→Option α:=contAt (E g0_ g1_) fuel [true,false,true,false] (bodyOf Try.f82) ann [] (finK TT 1 [some 0] Try.f82 [] K)
noncomputable def ex1_0(e0:TypeId)(p1_0:(List Zb))(x1:Int)(r1001 r1002:Bool):St:=mkS 24 [qP 0 0,qB 2 false,qI 3 .i64 x1,qI 4 .i64 x1,qB 5 (decide (x1<(12:Int))),qP 8 0,qI 9 .i64 x1,qP 10 0,(11,.ptr 0 [.idx 0,.idx (x1:Int).toNat] false),qV 12 t1_ (List.getD p1_0 (x1:Int).toNat ((0:Int),(0:Int))),qB 13 r1001,qB 14 (!r1001),qB 15 true,qP 16 0,qI 17 .i64 x1,qP 18 0,(19,.ptr 0 [.idx 0,.idx (x1:Int).toNat] false),qV 20 t1_ (List.getD p1_0 (x1:Int).toNat ((0:Int),(0:Int))),qB 21 r1002,qB 22 (!r1002),qB 23 (!r1002)] 49 [oA 0 e0 t2_ [p1_0]]
noncomputable def ex1_1(e0:TypeId)(p1_0:(List Zb))(x1:Int):St:=mkS 24 [qP 0 0,qI 3 .i64 x1,qI 4 .i64 x1,qB 5 (decide (x1<(12:Int)))] 49 [oA 0 e0 t2_ [p1_0]]
noncomputable def B1(p1_0:(List Zb))(K0:Int→Bool→Bool→Option α)(K1:Int→Option α)(rec:Int→Option α)(x1:Int):Option α:=
 cond (decide (x1<(12:Int))) (cond (inB x1 12) ((g0_ (List.getD p1_0 (x1:Int).toNat ((0:Int),(0:Int)))).bind fun r1001=>cond (!r1001) (cond (inB x1 12) ((g1_ (List.getD p1_0 (x1:Int).toNat ((0:Int),(0:Int)))).bind fun r1002=>cond (!r1002) (K0 x1 r1001 r1002) (rec (IntKind.i64.wrap (x1+(1:Int))))) none) (rec (IntKind.i64.wrap (x1+(1:Int))))) none) (K1 x1)
theorem step1:LB1 g0_ g1_ fuel cont rec (emb1 e0 p1_0 x1)=B1 g0_ g1_ p1_0 (fun x1 r1001 r1002=>cont .ret (ex1_0 e0 p1_0 x1 r1001 r1002)) (fun x1=>cont (.exit 0) (ex1_1 e0 p1_0 x1)) (fun y=>rec (emb1 e0 p1_0 y)) x1:=by kernel_rfl
theorem loop1:loopN (LB1 g0_ g1_ fuel cont) fuel (emb1 e0 p1_0 x1)=iter (B1 g0_ g1_ p1_0 (fun x1 r1001 r1002=>cont .ret (ex1_0 e0 p1_0 x1 r1001 r1002)) (fun x1=>cont (.exit 0) (ex1_1 e0 p1_0 x1))) fuel x1:=loop_sim (fun rec x=>step1 ..) fuel x1
noncomputable def pf(fuel:Nat)(a0:(List Zb))(k:B→Option α):Option α:=
 iter (B1 g0_ g1_ a0 (fun (x1:Int) (r1001:Bool) (r1002:Bool)=>k false) (fun (x1:Int)=>k true)) fuel (0:Int)
theorem tail1:C1 g0_ g1_ K fuel .ret (ex1_0 e0 a0 x1 r1001 r1002)=((fun (k:B→Option α)=>k false) (fun r=>K (enc 0 r))):=by kernel_rfl
theorem tail2:C1 g0_ g1_ K fuel (.exit 0) (ex1_1 e0 a0 x1)=((fun (k:B→Option α)=>k true) (fun r=>K (enc 0 r))):=by kernel_rfl
theorem red_raw:run TT small (tab g0_ g1_) Try.f82 ann [] fuel [.obj true ⟨e0,t2_,[a0]⟩] K=loopN (LB1 g0_ g1_ fuel (C1 g0_ g1_ K fuel)) fuel (emb1 e0 a0 (0:Int)):=by kernel_rfl
theorem red:run TT small (tab g0_ g1_) Try.f82 ann [] fuel [.obj true ⟨e0,t2_,[a0]⟩] K=pf g0_ g1_ fuel a0 (fun r=>K (enc 0 r)):=by
 rw[red_raw]
 simp only[loop1,tail1,tail2]
 all_goals kernel_rfl
end
theorem of_cl{g0_ g1_}(h0_:Fz59.S g0_)(h1_:Fz56.S g1_){P:A→Prop}{v:A→B}(hp:∀x,P x→∀k:B→Option Res,pf g0_ g1_ BIG x k=k (v x)):S (cl P v):=cl_snd (fn:=Try.f82) hmx_ (ttok _) (aC h0_ (aC h1_ aN)) ann [] [] (by kernel_rfl) (by decide) (by decide) (by kernel_rfl) fun x h e=>(red _ _ some BIG (e 0) x).trans (hp x h _)
end Fz60
namespace Fz63
section
variable {α:Type} (g0_:Fz60.F) (K:Res→Option α) (fuel:Nat) (cont:Ex→St→Option α) (rec:St→Option α) (e0:TypeId) (p1_0:(List (List Zb))) (x1:Int) (a0:(List (List Zb))) (r1001:Bool)
noncomputable def tab:=tabOf [(82,Fz60.sig g0_)]
noncomputable def E:Env:=⟨TT,small,(tab g0_),1,18⟩
def ann:Ann:=.two .nil (.two (.two .nil (.one (.loop [0,3] .nil))) .nil)
noncomputable def emb1(e0:TypeId)(p1_0:(List (List Zb)))(x1:Int):St:=mkS 18 [qL 0 0,qI 3 .i64 x1] 37 [oA 0 e0 t2_ p1_0]
noncomputable def LB1:(St→Option α)→St→Option α:=roundV (E g0_) fuel [true,false,true,false] (bodyOf Try.f67) ann cont
noncomputable def C1:Ex→St→Option α:=contAt (E g0_) fuel [true,false,true,false] (bodyOf Try.f67) ann [] (finK TT 1 [some 0] Try.f67 [] K)
noncomputable def ex1_0(e0:TypeId)(p1_0:(List (List Zb)))(x1:Int)(r1001:Bool):St:=mkS 18 [qL 0 0,qB 2 false,qI 3 .i64 x1,qI 4 .i64 x1,qL 5 0,qI 6 .i64 (((List.length p1_0):Nat):Int),qB 7 ((decide (x1<(((List.length p1_0):Nat):Int)))),qL 10 0,qI 11 .i64 x1,(12,.ptr 0 [.idx (x1:Int).toNat] false),qB 13 r1001,qB 14 (!r1001)] 37 [oA 0 e0 t2_ p1_0]
noncomputable def ex1_1(e0:TypeId)(p1_0:(List (List Zb)))(x1:Int):St:=mkS 18 [qL 0 0,qI 3 .i64 x1,qI 4 .i64 x1,qL 5 0,qI 6 .i64 (((List.length p1_0):Nat):Int),qB 7 ((decide (x1<(((List.length p1_0):Nat):Int))))] 37 [oA 0 e0 t2_ p1_0]
noncomputable def B1(p1_0:(List (List Zb)))(K0:Int→Bool→Option α)(K1:Int→Option α)(rec:Int→Option α)(x1:Int):Option α:=
 cond (decide (x1<(((List.length p1_0):Nat):Int))) (cond (inB x1 (List.length p1_0)) ((g0_ (List.getD p1_0 (x1:Int).toNat (List.replicate 12 ((0:Int),(0:Int))))).bind fun r1001=>cond (!r1001) (K0 x1 r1001) (rec (IntKind.i64.wrap (x1+(1:Int))))) none) (K1 x1)
theorem step1:LB1 g0_ fuel cont rec (emb1 e0 p1_0 x1)=B1 g0_ p1_0 (fun x1 r1001=>cont .ret (ex1_0 e0 p1_0 x1 r1001)) (fun x1=>cont (.exit 0) (ex1_1 e0 p1_0 x1)) (fun y=>rec (emb1 e0 p1_0 y)) x1:=by kernel_rfl
theorem loop1:loopN (LB1 g0_ fuel cont) fuel (emb1 e0 p1_0 x1)=iter (B1 g0_ p1_0 (fun x1 r1001=>cont .ret (ex1_0 e0 p1_0 x1 r1001)) (fun x1=>cont (.exit 0) (ex1_1 e0 p1_0 x1))) fuel x1:=loop_sim (fun rec x=>step1 ..) fuel x1
noncomputable def pf(fuel:Nat)(a0:(List (List Zb)))(k:B→Option α):Option α:=
 iter (B1 g0_ a0 (fun (x1:Int) (r1001:Bool)=>k false) (fun (x1:Int)=>k (decide ((((List.length a0):Nat):Int)≤(12:Int))))) fuel (0:Int)
theorem tail1:C1 g0_ K fuel .ret (ex1_0 e0 a0 x1 r1001)=((fun (k:B→Option α)=>k false) (fun r=>K (enc 0 r))):=by kernel_rfl
theorem tail2:C1 g0_ K fuel (.exit 0) (ex1_1 e0 a0 x1)=((fun (k:B→Option α)=>k (decide ((((List.length a0):Nat):Int)≤(12:Int)))) (fun r=>K (enc 0 r))):=by kernel_rfl
theorem red_raw:run TT small (tab g0_) Try.f67 ann [] fuel [.obj false ⟨e0,t2_,a0⟩] K=loopN (LB1 g0_ fuel (C1 g0_ K fuel)) fuel (emb1 e0 a0 (0:Int)):=by kernel_rfl
theorem red:run TT small (tab g0_) Try.f67 ann [] fuel [.obj false ⟨e0,t2_,a0⟩] K=pf g0_ fuel a0 (fun r=>K (enc 0 r)):=by
 rw[red_raw]
 simp only[loop1,tail1,tail2]
 all_goals kernel_rfl
end
theorem of_cl{g0_}(h0_:Fz60.S g0_){P:A→Prop}{v:A→B}(hp:∀x,P x→∀k:B→Option Res,pf g0_ BIG x k=k (v x)):S (cl P v):=cl_snd (fn:=Try.f67) hmx_ (ttok _) (aC h0_ aN) ann [] [] (by kernel_rfl) (by decide) (by decide) (by kernel_rfl) fun x h e=>(red _ some BIG (e 0) x).trans (hp x h _)
end Fz63
namespace Fz55
section
variable {α:Type} (g0_:Fz59.F) (K:Res→Option α) (fuel:Nat) (cont:Ex→St→Option α) (rec:St→Option α) (e0:TypeId) (p1_0:(List Zb)) (x1:(Int×(List Zb))) (a0:(List Zb))
noncomputable def tab:=tabOf [(118,Fz59.sig g0_)]
noncomputable def E:Env:=⟨TT,small,(tab g0_),1,26⟩
def ann:Ann:=.two .nil (.two .nil (.two (.two .nil (.one (.loop [0,3,4] .nil))) .nil))
noncomputable def emb1(e0:TypeId)(p1_0:(List Zb))(x1:(Int×(List Zb))):St:=mkS 26 [qP 0 0,qL 3 53,qI 4 .i64 x1.1] 54 [oA 0 e0 t2_ [p1_0],oN 53 29 t1_ x1.2]
noncomputable def LB1:(St→Option α)→St→Option α:=roundV (E g0_) fuel [true,true,false,true,false] (bodyOf Try.f102) ann cont
noncomputable def C1:Ex→St→Option α:=contAt (E g0_) fuel [true,true,false,true,false] (bodyOf Try.f102) ann [] (finK TT 1 [some 0] Try.f102 [] K)
noncomputable def ex1_0(e0:TypeId)(p1_0:(List Zb))(x1:(Int×(List Zb))):St:=mkS 26 [qP 0 0,qL 3 53,qI 4 .i64 x1.1,qI 6 .i64 x1.1,qB 7 (decide (x1.1<(12:Int)))] 54 [oA 0 e0 t2_ [p1_0],oN 53 29 t1_ x1.2]
noncomputable def B1(p1_0:(List Zb))(K0:(Int×(List Zb))→Option α)(rec:(Int×(List Zb))→Option α)(x1:(Int×(List Zb))):Option α:=
 cond (decide (x1.1<(12:Int))) (cond (inB x1.1 12) ((g0_ (List.getD p1_0 (x1.1:Int).toNat ((0:Int),(0:Int)))).bind fun r1001=>cond (!r1001) (cond (inB x1.1 12) (cond (okL (List.length x1.2+List.length [(List.getD p1_0 (x1.1:Int).toNat ((0:Int),(0:Int)))])) (rec (((IntKind.i64.wrap (x1.1+(1:Int))),(x1.2++[(List.getD p1_0 (x1.1:Int).toNat ((0:Int),(0:Int)))])))) none) none) (rec (((IntKind.i64.wrap (x1.1+(1:Int))),x1.2)))) none) (K0 x1)
theorem step1:LB1 g0_ fuel cont rec (emb1 e0 p1_0 x1)=B1 g0_ p1_0 (fun x1=>cont (.exit 0) (ex1_0 e0 p1_0 x1)) (fun y=>rec (emb1 e0 p1_0 y)) x1:=by kernel_rfl
theorem loop1:loopN (LB1 g0_ fuel cont) fuel (emb1 e0 p1_0 x1)=iter (B1 g0_ p1_0 (fun x1=>cont (.exit 0) (ex1_0 e0 p1_0 x1))) fuel x1:=loop_sim (fun rec x=>step1 ..) fuel x1
noncomputable def pf(fuel:Nat)(a0:(List Zb))(k:B→Option α):Option α:=
 iter (B1 g0_ a0 (fun (x1:(Int×(List Zb)))=>k x1.2)) fuel ((0:Int),([]:List Zb))
theorem tail1:C1 g0_ K fuel (.exit 0) (ex1_0 e0 a0 x1)=((fun (k:B→Option α)=>k x1.2) (fun r=>K (enc 0 r))):=by kernel_rfl
theorem red_raw:run TT small (tab g0_) Try.f102 ann [] fuel [.obj true ⟨e0,t2_,[a0]⟩] K=loopN (LB1 g0_ fuel (C1 g0_ K fuel)) fuel (emb1 e0 a0 ((0:Int),([]:List Zb))):=by kernel_rfl
theorem red:run TT small (tab g0_) Try.f102 ann [] fuel [.obj true ⟨e0,t2_,[a0]⟩] K=pf g0_ fuel a0 (fun r=>K (enc 0 r)):=by
 rw[red_raw]
 simp only[loop1,tail1]
 all_goals kernel_rfl
end
theorem of_cl{g0_}(h0_:Fz59.S g0_){P:A→Prop}{v:A→B}(hp:∀x,P x→∀k:B→Option Res,pf g0_ BIG x k=k (v x)):S (cl P v):=cl_snd (fn:=Try.f102) hmx_ (ttok _) (aC h0_ aN) ann [] [] (by kernel_rfl) (by decide) (by decide) (by kernel_rfl) fun x h e=>(red _ some BIG (e 0) x).trans (hp x h _)
end Fz55
namespace Fz45
section
variable {α:Type} (K:Res→Option α) (fuel:Nat) (cont:Ex→St→Option α) (rec:St→Option α) (a0 a1:Zb)
noncomputable def pf(fuel:Nat)(a0 a1:Zb)(k:B→Option α):Option α:=
 cond (decide (a0.1<a1.1)) (k (-1:Int)) (cond (decide (a0.1>a1.1)) (k (1:Int)) (cond (decide (a0.2<a1.2)) (k (-1:Int)) (cond (decide (a0.2>a1.2)) (k (1:Int)) (k (0:Int)))))
theorem red:run TT small (tabOf []) Try.f129 .nil [] fuel [.val t1_ a0,.val t1_ a1] K=pf fuel a0 a1 (fun r=>K (enc 0 r)):=by kernel_rfl
end
theorem of_tot{v:A→B}(hp:∀x,∀k:B→Option Res,pf BIG x.1 x.2 k=k (v x)):S (tot v):=tot_snd (fn:=Try.f129) hmx_ (ttok _) aN .nil [] [] (by kernel_rfl) (by decide) (by decide) (by kernel_rfl) fun x e=>(red some BIG x.1 x.2).trans (hp x _)
end Fz45
namespace Fz62
section
variable {α:Type} (g0_:Fz45.F) (K:Res→Option α) (fuel:Nat) (cont:Ex→St→Option α) (rec:St→Option α) (e0:TypeId) (p2_0:Int) (p2_1:(List Zb)) (p2_2:Zb) (x2:(Int×(List Zb))) (p1_0:(List Zb)) (x1:(Int×(List Zb))) (r2001:Int) (a0:(List Zb))
noncomputable def tab:=tabOf [(129,Fz45.sig g0_)]
noncomputable def E:Env:=⟨TT,small,(tab g0_),1,48⟩
def ann:Ann:=.two .nil (.two .nil (.two (.two .nil (.one (.loop [3,4] (.two .nil (.two (.one (.two .nil (.two .nil (.two (.one (.loop [3,4,5,6] .nil)) .nil)))) .nil))))) .nil))
noncomputable def emb2(e0:TypeId)(p2_0:Int)(p2_1:(List Zb))(p2_2:Zb)(x2:(Int×(List Zb))):St:=mkS 48 [qL 3 97,qI 4 .i64 p2_0,qP 5 98,qI 6 .i64 x2.1] 99 [oA 0 e0 t1_ p2_1,oN 97 29 t1_ x2.2,oN 98 29 t1_ [p2_2]]
noncomputable def LB2:(St→Option α)→St→Option α:=roundV (E g0_) fuel [true,true,false,true,false,false,true,false,false,true,true,false,false] (bodyOf Try.f101) ann cont
noncomputable def C2:Ex→St→Option α:=contAt (E g0_) fuel [true,false,false,true,true,false,false] (codeAt [true,true,false,true,false,false] (bodyOf Try.f101)) (annAt [true,true,false,true,false,false] ann) [] (loopK (E g0_) (annAt [true,true,false,true,false] ann).live rec cont)
noncomputable def ex2_0(e0:TypeId)(p2_0:Int)(p2_1:(List Zb))(p2_2:Zb)(x2:(Int×(List Zb)))(r2001:Int):St:=mkS 48 [qL 3 97,qI 4 .i64 p2_0,qP 5 98,qI 6 .i64 x2.1,qI 21 .i64 x2.1,qB 22 (decide (x2.1>(0:Int))),qB 23 true,qV 24 t1_ p2_2,qL 25 97,qI 26 .i64 x2.1,qI 27 .i64 (IntKind.i64.wrap (x2.1-(1:Int))),(28,.ptr 97 [.idx (IntKind.i64.wrap (x2.1-(1:Int))).toNat] false),qV 29 t1_ ((List.getD x2.2 (IntKind.i64.wrap (x2.1-(1:Int))).toNat ((0:Int),(0:Int)))),qI 30 .i64 r2001,qB 31 (decide (r2001<(0:Int))),qB 32 (decide (r2001<(0:Int)))] 99 [oA 0 e0 t1_ p2_1,oN 97 29 t1_ x2.2,oN 98 29 t1_ [p2_2]]
noncomputable def ex2_1(e0:TypeId)(p2_0:Int)(p2_1:(List Zb))(p2_2:Zb)(x2:(Int×(List Zb))):St:=mkS 48 [qL 3 97,qI 4 .i64 p2_0,qP 5 98,qI 6 .i64 x2.1,qI 21 .i64 x2.1,qB 22 (decide (x2.1>(0:Int))),qB 23 false,(24,.tup []),(25,.tup []),(26,.tup []),(27,.tup []),(28,.tup []),(29,.tup []),(30,.tup []),(31,.tup []),qB 32 false] 99 [oA 0 e0 t1_ p2_1,oN 97 29 t1_ x2.2,oN 98 29 t1_ [p2_2]]
noncomputable def B2(p2_0:Int)(p2_1:(List Zb))(p2_2:Zb)(K0:(Int×(List Zb))→Int→Option α)(K1:(Int×(List Zb))→Option α)(rec:(Int×(List Zb))→Option α)(x2:(Int×(List Zb))):Option α:=
 cond (decide (x2.1>(0:Int))) (cond (inB (IntKind.i64.wrap (x2.1-(1:Int))) (List.length x2.2)) ((g0_ (p2_2,(List.getD x2.2 (IntKind.i64.wrap (x2.1-(1:Int))).toNat ((0:Int),(0:Int))))).bind fun r2001=>cond (decide (r2001<(0:Int))) (cond (inB (IntKind.i64.wrap (x2.1-(1:Int))) (List.length x2.2)) (cond (inB x2.1 (List.length x2.2)) (rec (((IntKind.i64.wrap (x2.1-(1:Int))),(List.set x2.2 (x2.1:Int).toNat (List.getD x2.2 (IntKind.i64.wrap (x2.1-(1:Int))).toNat ((0:Int),(0:Int))))))) none) none) (K0 x2 r2001)) none) (K1 x2)
theorem step2:LB2 g0_ fuel cont rec (emb2 e0 p2_0 p2_1 p2_2 x2)=B2 g0_ p2_0 p2_1 p2_2 (fun x2 r2001=>cont (.exit 2) (ex2_0 e0 p2_0 p2_1 p2_2 x2 r2001)) (fun x2=>cont (.exit 2) (ex2_1 e0 p2_0 p2_1 p2_2 x2)) (fun y=>rec (emb2 e0 p2_0 p2_1 p2_2 y)) x2:=by kernel_rfl
theorem loop2:loopN (LB2 g0_ fuel cont) fuel (emb2 e0 p2_0 p2_1 p2_2 x2)=iter (B2 g0_ p2_0 p2_1 p2_2 (fun x2 r2001=>cont (.exit 2) (ex2_0 e0 p2_0 p2_1 p2_2 x2 r2001)) (fun x2=>cont (.exit 2) (ex2_1 e0 p2_0 p2_1 p2_2 x2))) fuel x2:=loop_sim (fun rec x=>step2 ..) fuel x2
noncomputable def emb1(e0:TypeId)(p1_0:(List Zb))(x1:(Int×(List Zb))):St:=mkS 48 [qL 3 97,qI 4 .i64 x1.1] 98 [oA 0 e0 t1_ p1_0,oN 97 29 t1_ x1.2]
noncomputable def LB1:(St→Option α)→St→Option α:=roundV (E g0_) fuel [true,true,false,true,false] (bodyOf Try.f101) ann cont
noncomputable def C1:Ex→St→Option α:=contAt (E g0_) fuel [true,true,false,true,false] (bodyOf Try.f101) ann [] (finK TT 1 [some 0] Try.f101 [] K)
noncomputable def ex1_0(e0:TypeId)(p1_0:(List Zb))(x1:(Int×(List Zb))):St:=mkS 48 [qL 3 97,qI 4 .i64 x1.1,qI 10 .i64 x1.1,qL 11 97,qI 12 .i64 (((List.length x1.2):Nat):Int),qB 13 ((decide (x1.1<(((List.length x1.2):Nat):Int))))] 98 [oA 0 e0 t1_ p1_0,oN 97 29 t1_ x1.2]
noncomputable def B1(p1_0:(List Zb))(K0:(Int×(List Zb))→Option α)(rec:(Int×(List Zb))→Option α)(x1:(Int×(List Zb))):Option α:=
 cond (decide (x1.1<(((List.length x1.2):Nat):Int))) (cond (inB x1.1 (List.length x1.2)) (iter (B2 g0_ x1.1 p1_0 (List.getD x1.2 (x1.1:Int).toNat ((0:Int),(0:Int))) (fun (x2:(Int×(List Zb))) (r2001:Int)=>cond (inB x2.1 (List.length x2.2)) (rec (((IntKind.i64.wrap (x1.1+(1:Int))),(List.set x2.2 (x2.1:Int).toNat (List.getD x1.2 (x1.1:Int).toNat ((0:Int),(0:Int))))))) none) (fun (x2:(Int×(List Zb)))=>cond (inB x2.1 (List.length x2.2)) (rec (((IntKind.i64.wrap (x1.1+(1:Int))),(List.set x2.2 (x2.1:Int).toNat (List.getD x1.2 (x1.1:Int).toNat ((0:Int),(0:Int))))))) none)) fuel (x1.1,x1.2)) none) (K0 x1)
theorem tail1:C2 g0_ fuel cont rec (.exit 2) (ex2_0 e0 x1.1 p1_0 (List.getD x1.2 (x1.1:Int).toNat ((0:Int),(0:Int))) x2 r2001)=((fun (rec:(Int×(List Zb))→Option α)=>cond (inB x2.1 (List.length x2.2)) (rec (((IntKind.i64.wrap (x1.1+(1:Int))),(List.set x2.2 (x2.1:Int).toNat (List.getD x1.2 (x1.1:Int).toNat ((0:Int),(0:Int))))))) none) (fun y=>rec (emb1 e0 p1_0 y))):=by kernel_rfl
theorem tail2:C2 g0_ fuel cont rec (.exit 2) (ex2_1 e0 x1.1 p1_0 (List.getD x1.2 (x1.1:Int).toNat ((0:Int),(0:Int))) x2)=((fun (rec:(Int×(List Zb))→Option α)=>cond (inB x2.1 (List.length x2.2)) (rec (((IntKind.i64.wrap (x1.1+(1:Int))),(List.set x2.2 (x2.1:Int).toNat (List.getD x1.2 (x1.1:Int).toNat ((0:Int),(0:Int))))))) none) (fun y=>rec (emb1 e0 p1_0 y))):=by kernel_rfl
theorem step1_raw:LB1 g0_ fuel cont rec (emb1 e0 p1_0 x1)=cond (decide (x1.1<(((List.length x1.2):Nat):Int))) (cond (inB x1.1 (List.length x1.2)) (loopN (LB2 g0_ fuel (C2 g0_ fuel cont rec)) fuel (emb2 e0 x1.1 p1_0 (List.getD x1.2 (x1.1:Int).toNat ((0:Int),(0:Int))) (x1.1,x1.2))) none) (cont (.exit 0) (ex1_0 e0 p1_0 x1)):=by kernel_rfl
theorem step1:LB1 g0_ fuel cont rec (emb1 e0 p1_0 x1)=B1 g0_ fuel p1_0 (fun x1=>cont (.exit 0) (ex1_0 e0 p1_0 x1)) (fun y=>rec (emb1 e0 p1_0 y)) x1:=by
 rw[step1_raw]
 simp only[loop2,tail1,tail2]
 all_goals kernel_rfl
theorem loop1:loopN (LB1 g0_ fuel cont) fuel (emb1 e0 p1_0 x1)=iter (B1 g0_ fuel p1_0 (fun x1=>cont (.exit 0) (ex1_0 e0 p1_0 x1))) fuel x1:=loop_sim (fun rec x=>step1 ..) fuel x1
noncomputable def pf(fuel:Nat)(a0:(List Zb))(k:B→Option α):Option α:=
 cond (okL (List.length ([]:List Zb)+List.length a0)) (iter (B1 g0_ fuel a0 (fun (x1:(Int×(List Zb)))=>k x1.2)) fuel (((1:Int),(([]:List Zb)++a0)))) none
theorem tail3:C1 g0_ K fuel (.exit 0) (ex1_0 e0 a0 x1)=((fun (k:B→Option α)=>k x1.2) (fun r=>K (enc 0 r))):=by kernel_rfl
theorem red_raw:run TT small (tab g0_) Try.f101 ann [] fuel [.obj false ⟨e0,t1_,a0⟩] K=cond (okL (List.length ([]:List Zb)+List.length a0)) (loopN (LB1 g0_ fuel (C1 g0_ K fuel)) fuel (emb1 e0 a0 (((1:Int),(([]:List Zb)++a0))))) none:=by kernel_rfl
theorem red:run TT small (tab g0_) Try.f101 ann [] fuel [.obj false ⟨e0,t1_,a0⟩] K=pf g0_ fuel a0 (fun r=>K (enc 0 r)):=by
 rw[red_raw]
 simp only[loop1,tail3]
 all_goals kernel_rfl
end
theorem of_cl{g0_}(h0_:Fz45.S g0_){P:A→Prop}{v:A→B}(hp:∀x,P x→∀k:B→Option Res,pf g0_ BIG x k=k (v x)):S (cl P v):=cl_snd (fn:=Try.f101) hmx_ (ttok _) (aC h0_ aN) ann [] [] (by kernel_rfl) (by decide) (by decide) (by kernel_rfl) fun x h e=>(red _ some BIG (e 0) x).trans (hp x h _)
end Fz62
namespace Fz65
section
variable {α:Type} (g0_:Fz55.F) (g1_:Fz62.F) (K:Res→Option α) (fuel:Nat) (cont:Ex→St→Option α) (rec:St→Option α) (e0:TypeId) (p1_0:(List (List Zb))) (x1:(Int×(List Zb))) (a0:(List (List Zb)))
noncomputable def tab:=tabOf [(102,Fz55.sig g0_),(101,Fz62.sig g1_)]
noncomputable def E:Env:=⟨TT,small,(tab g0_ g1_),1,20⟩
def ann:Ann:=.two .nil (.two .nil (.two (.two .nil (.one (.loop [0,3,4] .nil))) .nil))
noncomputable def emb1(e0:TypeId)(p1_0:(List (List Zb)))(x1:(Int×(List Zb))):St:=mkS 20 [qL 0 0,qL 3 41,qI 4 .i64 x1.1] 42 [oA 0 e0 t2_ p1_0,oN 41 29 t1_ x1.2]
noncomputable def LB1:(St→Option α)→St→Option α:=roundV (E g0_ g1_) fuel [true,true,false,true,false] (bodyOf Try.f69) ann cont
noncomputable def C1:Ex→St→Option α:=contAt (E g0_ g1_) fuel [true,true,false,true,false] (bodyOf Try.f69) ann [] (finK TT 1 [some 0] Try.f69 [] K)
noncomputable def ex1_0(e0:TypeId)(p1_0:(List (List Zb)))(x1:(Int×(List Zb))):St:=mkS 20 [qL 0 0,qL 3 41,qI 4 .i64 x1.1,qI 6 .i64 x1.1,qL 7 0,qI 8 .i64 (((List.length p1_0):Nat):Int),qB 9 ((decide (x1.1<(((List.length p1_0):Nat):Int))))] 42 [oA 0 e0 t2_ p1_0,oN 41 29 t1_ x1.2]
noncomputable def B1(p1_0:(List (List Zb)))(K0:(Int×(List Zb))→Option α)(rec:(Int×(List Zb))→Option α)(x1:(Int×(List Zb))):Option α:=
 cond (decide (x1.1<(((List.length p1_0):Nat):Int))) (cond (inB x1.1 (List.length p1_0)) ((g0_ (List.getD p1_0 (x1.1:Int).toNat (List.replicate 12 ((0:Int),(0:Int))))).bind fun r1001=>cond (okL (List.length x1.2+List.length r1001)) (rec (((IntKind.i64.wrap (x1.1+(1:Int))),(x1.2++r1001)))) none) none) (K0 x1)
theorem step1:LB1 g0_ g1_ fuel cont rec (emb1 e0 p1_0 x1)=B1 g0_ p1_0 (fun x1=>cont (.exit 0) (ex1_0 e0 p1_0 x1)) (fun y=>rec (emb1 e0 p1_0 y)) x1:=by kernel_rfl
theorem loop1:loopN (LB1 g0_ g1_ fuel cont) fuel (emb1 e0 p1_0 x1)=iter (B1 g0_ p1_0 (fun x1=>cont (.exit 0) (ex1_0 e0 p1_0 x1))) fuel x1:=loop_sim (fun rec x=>step1 ..) fuel x1
noncomputable def pf(fuel:Nat)(a0:(List (List Zb)))(k:B→Option α):Option α:=
 iter (B1 g0_ a0 (fun (x1:(Int×(List Zb)))=>(g1_ x1.2).bind fun r1=>k r1)) fuel ((0:Int),([]:List Zb))
theorem tail1:C1 g0_ g1_ K fuel (.exit 0) (ex1_0 e0 a0 x1)=((fun (k:B→Option α)=>(g1_ x1.2).bind fun r1=>k r1) (fun r=>K (enc 0 r))):=by kernel_rfl
theorem red_raw:run TT small (tab g0_ g1_) Try.f69 ann [] fuel [.obj false ⟨e0,t2_,a0⟩] K=loopN (LB1 g0_ g1_ fuel (C1 g0_ g1_ K fuel)) fuel (emb1 e0 a0 ((0:Int),([]:List Zb))):=by kernel_rfl
theorem red:run TT small (tab g0_ g1_) Try.f69 ann [] fuel [.obj false ⟨e0,t2_,a0⟩] K=pf g0_ g1_ fuel a0 (fun r=>K (enc 0 r)):=by
 rw[red_raw]
 simp only[loop1,tail1]
 all_goals kernel_rfl
end
theorem of_cl{g0_ g1_}(h0_:Fz55.S g0_)(h1_:Fz62.S g1_){P:A→Prop}{v:A→B}(hp:∀x,P x→∀k:B→Option Res,pf g0_ g1_ BIG x k=k (v x)):S (cl P v):=cl_snd (fn:=Try.f69) hmx_ (ttok _) (aC h0_ (aC h1_ aN)) ann [] [] (by kernel_rfl) (by decide) (by decide) (by kernel_rfl) fun x h e=>(red _ _ some BIG (e 0) x).trans (hp x h _)
end Fz65
namespace Fz61
section
variable {α:Type} (K:Res→Option α) (fuel:Nat) (cont:Ex→St→Option α) (rec:St→Option α) (e0:TypeId) (p1_0:(List Zb)) (x1:(Int×(List (List Zb)))) (a0:(List Zb))
noncomputable def E:Env:=⟨TT,small,(tabOf []),1,32⟩
def ann:Ann:=.two .nil (.two .nil (.two (.two .nil (.one (.loop [0,3,4] .nil))) .nil))
noncomputable def emb1(e0:TypeId)(p1_0:(List Zb))(x1:(Int×(List (List Zb)))):St:=mkS 32 [qL 0 0,qL 3 65,qI 4 .i64 x1.1] 66 [oA 0 e0 t1_ p1_0,oN 65 31 t2_ x1.2]
noncomputable def LB1:(St→Option α)→St→Option α:=roundV E fuel [true,true,false,true,false] (bodyOf Try.f68) ann cont
noncomputable def C1:Ex→St→Option α:=contAt E fuel [true,true,false,true,false] (bodyOf Try.f68) ann [] (finK TT 1 [some 0] Try.f68 [] K)
noncomputable def ex1_0(e0:TypeId)(p1_0:(List Zb))(x1:(Int×(List (List Zb)))):St:=mkS 32 [qL 0 0,qL 3 65,qI 4 .i64 x1.1,qI 6 .i64 x1.1,qL 7 0,qI 8 .i64 (((List.length p1_0):Nat):Int),qB 9 ((decide (x1.1<(((List.length p1_0):Nat):Int))))] 66 [oA 0 e0 t1_ p1_0,oN 65 31 t2_ x1.2]
noncomputable def B1(p1_0:(List Zb))(K0:(Int×(List (List Zb)))→Option α)(rec:(Int×(List (List Zb)))→Option α)(x1:(Int×(List (List Zb)))):Option α:=
 cond (decide (x1.1<(((List.length p1_0):Nat):Int))) (cond ((12:Int)==0) none (cond ((Int.tmod x1.1 (12:Int))==(0:Int)) (cond (okL (List.length x1.2+List.length [(List.replicate 12 ((0:Int),(0:Int)))])) (cond ((12:Int)==0) none (cond (inB x1.1 (List.length p1_0)) (cond (inB (IntKind.i64.wrap ((((List.length (x1.2++[(List.replicate 12 ((0:Int),(0:Int)))])):Nat):Int)-(1:Int))) (List.length (x1.2++[(List.replicate 12 ((0:Int),(0:Int)))]))) (cond (inB (Int.tmod x1.1 (12:Int)) 12) (rec (((IntKind.i64.wrap (x1.1+(1:Int))),(List.set (x1.2++[(List.replicate 12 ((0:Int),(0:Int)))]) (IntKind.i64.wrap ((((List.length (x1.2++[(List.replicate 12 ((0:Int),(0:Int)))])):Nat):Int)-(1:Int))).toNat (List.set (List.getD (x1.2++[(List.replicate 12 ((0:Int),(0:Int)))]) (IntKind.i64.wrap ((((List.length (x1.2++[(List.replicate 12 ((0:Int),(0:Int)))])):Nat):Int)-(1:Int))).toNat (List.replicate 12 ((0:Int),(0:Int)))) (Int.tmod x1.1 (12:Int)).toNat (List.getD p1_0 (x1.1:Int).toNat ((0:Int),(0:Int)))))))) none) none) none)) none) (cond ((12:Int)==0) none (cond (inB x1.1 (List.length p1_0)) (cond (inB (IntKind.i64.wrap ((((List.length x1.2):Nat):Int)-(1:Int))) (List.length x1.2)) (cond (inB (Int.tmod x1.1 (12:Int)) 12) (rec (((IntKind.i64.wrap (x1.1+(1:Int))),(List.set x1.2 (IntKind.i64.wrap ((((List.length x1.2):Nat):Int)-(1:Int))).toNat (List.set (List.getD x1.2 (IntKind.i64.wrap ((((List.length x1.2):Nat):Int)-(1:Int))).toNat (List.replicate 12 ((0:Int),(0:Int)))) (Int.tmod x1.1 (12:Int)).toNat (List.getD p1_0 (x1.1:Int).toNat ((0:Int),(0:Int)))))))) none) none) none)))) (K0 x1)
theorem step1:LB1 fuel cont rec (emb1 e0 p1_0 x1)=B1 p1_0 (fun x1=>cont (.exit 0) (ex1_0 e0 p1_0 x1)) (fun y=>rec (emb1 e0 p1_0 y)) x1:=by kernel_rfl
theorem loop1:loopN (LB1 fuel cont) fuel (emb1 e0 p1_0 x1)=iter (B1 p1_0 (fun x1=>cont (.exit 0) (ex1_0 e0 p1_0 x1))) fuel x1:=loop_sim (fun rec x=>step1 ..) fuel x1
noncomputable def pf(fuel:Nat)(a0:(List Zb))(k:B→Option α):Option α:=
 iter (B1 a0 (fun (x1:(Int×(List (List Zb))))=>k x1.2)) fuel (((0:Int),([]:List (List Zb))))
theorem tail1:C1 K fuel (.exit 0) (ex1_0 e0 a0 x1)=((fun (k:B→Option α)=>k x1.2) (fun r=>K (enc 0 r))):=by kernel_rfl
theorem red_raw:run TT small (tabOf []) Try.f68 ann [] fuel [.obj false ⟨e0,t1_,a0⟩] K=loopN (LB1 fuel (C1 K fuel)) fuel (emb1 e0 a0 (((0:Int),([]:List (List Zb))))):=by kernel_rfl
theorem red:run TT small (tabOf []) Try.f68 ann [] fuel [.obj false ⟨e0,t1_,a0⟩] K=pf fuel a0 (fun r=>K (enc 0 r)):=by
 rw[red_raw]
 simp only[loop1,tail1]
 all_goals kernel_rfl
end
theorem of_cl{P:A→Prop}{v:A→B}(hp:∀x,P x→∀k:B→Option Res,pf BIG x k=k (v x)):S (cl P v):=cl_snd (fn:=Try.f68) hmx_ (ttok _) aN ann [] [] (by kernel_rfl) (by decide) (by decide) (by kernel_rfl) fun x h e=>(red some BIG (e 0) x).trans (hp x h _)
end Fz61
namespace Fz50
section
variable {α:Type} (g0_:Fz63.F) (g1_:Fz65.F) (g2_:Fz61.F) (K:Res→Option α) (fuel:Nat) (cont:Ex→St→Option α) (rec:St→Option α) (e0:TypeId) (a0:(List (List Zb)))
noncomputable def tab:=tabOf [(67,Fz63.sig g0_),(69,Fz65.sig g1_),(68,Fz61.sig g2_)]
noncomputable def pf(fuel:Nat)(a0:(List (List Zb)))(k:B→Option α):Option α:=
 (g0_ a0).bind fun r1=>cond (!r1) (k (([]:List (List Zb)),(1:Int))) ((g1_ a0).bind fun r2=>(g2_ r2).bind fun r3=>k (r3,(0:Int)))
theorem red:run TT small (tab g0_ g1_ g2_) Try.f16 .nil [] fuel [.obj false ⟨e0,t2_,a0⟩] K=pf g0_ g1_ g2_ fuel a0 (fun r=>K (enc 0 r)):=by kernel_rfl
end
theorem of_cl{g0_ g1_ g2_}(h0_:Fz63.S g0_)(h1_:Fz65.S g1_)(h2_:Fz61.S g2_){P:A→Prop}{v:A→B}(hp:∀x,P x→∀k:B→Option Res,pf g0_ g1_ g2_ BIG x k=k (v x)):S (cl P v):=cl_snd (fn:=Try.f16) hmx_ (ttok _) (aC h0_ (aC h1_ (aC h2_ aN))) .nil [] [] (by kernel_rfl) (by decide) (by decide) (by kernel_rfl) fun x h e=>(red _ _ _ some BIG (e 0) x).trans (hp x h _)
end Fz50
namespace Fz8
section
variable {α:Type} (g0_:Fz26.F) (g1_:Fz28.F) (K:Res→Option α) (fuel:Nat) (cont:Ex→St→Option α) (rec:St→Option α) (e0:TypeId) (p1_0:Int) (p1_1:(List (List Zb))) (p1_2:(List Zb)) (x1:(Int×(List Zs))) (a0:(List (List Zb))) (r1:Bool) (r2:(List Zb))
noncomputable def tab:=tabOf [(21,Fz26.sig g0_),(66,Fz28.sig g1_)]
noncomputable def E:Env:=⟨TT,small,(tab g0_ g1_),1,49⟩
def ann:Ann:=.two .nil (.two .nil (.two .nil (.two (.two .nil (.one (.loop [4,13,14,15] .nil))) .nil)))
noncomputable def emb1(e0:TypeId)(p1_0:Int)(p1_1:(List (List Zb)))(p1_2:(List Zb))(x1:(Int×(List Zs))):St:=mkS 49 [qL 4 99,qL 13 100,qI 14 .i64 p1_0,qI 15 .i64 x1.1] 101 [oA 0 e0 t2_ p1_1,oN 99 51 t7_ x1.2,oN 100 29 t1_ p1_2]
noncomputable def LB1:(St→Option α)→St→Option α:=roundV (E g0_ g1_) fuel [true,true,true,false,true,false] (bodyOf Try.f17) ann cont
noncomputable def C1:Ex→St→Option α:=contAt (E g0_ g1_) fuel [true,true,true,false,true,false] (bodyOf Try.f17) ann [] (finK TT 1 [some 0] Try.f17 [] K)
noncomputable def ex1_0(e0:TypeId)(p1_0:Int)(p1_1:(List (List Zb)))(p1_2:(List Zb))(x1:(Int×(List Zs))):St:=mkS 49 [qL 4 99,qL 13 100,qI 14 .i64 p1_0,qI 15 .i64 x1.1,qB 16 (decide (x1.1<p1_0))] 101 [oA 0 e0 t2_ p1_1,oN 99 51 t7_ x1.2,oN 100 29 t1_ p1_2]
noncomputable def B1(p1_0:Int)(p1_1:(List (List Zb)))(p1_2:(List Zb))(K0:(Int×(List Zs))→Option α)(rec:(Int×(List Zs))→Option α)(x1:(Int×(List Zs))):Option α:=
 cond (decide (x1.1<p1_0)) (cond (inB x1.1 (List.length p1_2)) (cond (decide ((((List.length x1.2):Nat):Int)>(0:Int))) (cond (inB (IntKind.i64.wrap ((((List.length x1.2):Nat):Int)-(1:Int))) (List.length x1.2)) (cond (eqV (.st (.pair (.int .u8) (.int .i16))) (List.getD x1.2 (IntKind.i64.wrap ((((List.length x1.2):Nat):Int)-(1:Int))).toNat (((0:Int),(0:Int)),(0:Int))).1 (List.getD p1_2 (x1.1:Int).toNat ((0:Int),(0:Int)))) (cond (inB (IntKind.i64.wrap ((((List.length x1.2):Nat):Int)-(1:Int))) (List.length x1.2)) (cond (inB (IntKind.i64.wrap ((((List.length x1.2):Nat):Int)-(1:Int))) (List.length x1.2)) (rec (((IntKind.i64.wrap (x1.1+(1:Int))),(List.set x1.2 (IntKind.i64.wrap ((((List.length x1.2):Nat):Int)-(1:Int))).toNat ((List.getD x1.2 (IntKind.i64.wrap ((((List.length x1.2):Nat):Int)-(1:Int))).toNat (((0:Int),(0:Int)),(0:Int))).1,(IntKind.i64.wrap ((List.getD x1.2 (IntKind.i64.wrap ((((List.length x1.2):Nat):Int)-(1:Int))).toNat (((0:Int),(0:Int)),(0:Int))).2+(1:Int)))))))) none) none) (cond (okL (List.length x1.2+List.length [((List.getD p1_2 (x1.1:Int).toNat ((0:Int),(0:Int))),(1:Int))])) (rec (((IntKind.i64.wrap (x1.1+(1:Int))),(x1.2++[((List.getD p1_2 (x1.1:Int).toNat ((0:Int),(0:Int))),(1:Int))])))) none)) none) (cond (okL (List.length x1.2+List.length [((List.getD p1_2 (x1.1:Int).toNat ((0:Int),(0:Int))),(1:Int))])) (rec (((IntKind.i64.wrap (x1.1+(1:Int))),(x1.2++[((List.getD p1_2 (x1.1:Int).toNat ((0:Int),(0:Int))),(1:Int))])))) none)) none) (K0 x1)
theorem step1:LB1 g0_ g1_ fuel cont rec (emb1 e0 p1_0 p1_1 p1_2 x1)=B1 p1_0 p1_1 p1_2 (fun x1=>cont (.exit 0) (ex1_0 e0 p1_0 p1_1 p1_2 x1)) (fun y=>rec (emb1 e0 p1_0 p1_1 p1_2 y)) x1:=by kernel_rfl
theorem loop1:loopN (LB1 g0_ g1_ fuel cont) fuel (emb1 e0 p1_0 p1_1 p1_2 x1)=iter (B1 p1_0 p1_1 p1_2 (fun x1=>cont (.exit 0) (ex1_0 e0 p1_0 p1_1 p1_2 x1))) fuel x1:=loop_sim (fun rec x=>step1 ..) fuel x1
noncomputable def pf(fuel:Nat)(a0:(List (List Zb)))(k:B→Option α):Option α:=
 (g0_ a0).bind fun r1=>cond (!r1) (k (([]:List Zs),(1:Int))) ((g1_ a0).bind fun r2=>iter (B1 (((List.length r2):Nat):Int) a0 r2 (fun (x1:(Int×(List Zs)))=>k (x1.2,(0:Int)))) fuel (((0:Int),([]:List Zs))))
theorem tail1:C1 g0_ g1_ K fuel (.exit 0) (ex1_0 e0 (((List.length r2):Nat):Int) a0 r2 x1)=((fun (k:B→Option α)=>k (x1.2,(0:Int))) (fun r=>K (enc 0 r))):=by kernel_rfl
theorem red_raw:run TT small (tab g0_ g1_) Try.f17 ann [] fuel [.obj false ⟨e0,t2_,a0⟩] K=(g0_ a0).bind fun r1=>cond (!r1) (K ⟨[.own ⟨51,t7_,([]:List Zs)⟩,.val (.int .i64) (1:Int)],[]⟩) ((g1_ a0).bind fun r2=>loopN (LB1 g0_ g1_ fuel (C1 g0_ g1_ K fuel)) fuel (emb1 e0 (((List.length r2):Nat):Int) a0 r2 (((0:Int),([]:List Zs))))):=by kernel_rfl
theorem red:run TT small (tab g0_ g1_) Try.f17 ann [] fuel [.obj false ⟨e0,t2_,a0⟩] K=pf g0_ g1_ fuel a0 (fun r=>K (enc 0 r)):=by
 rw[red_raw]
 simp only[loop1,tail1]
 all_goals kernel_rfl
end
theorem of_cl{g0_ g1_}(h0_:Fz26.S g0_)(h1_:Fz28.S g1_){P:A→Prop}{v:A→B}(hp:∀x,P x→∀k:B→Option Res,pf g0_ g1_ BIG x k=k (v x)):S (cl P v):=cl_snd (fn:=Try.f17) hmx_ (ttok _) (aC h0_ (aC h1_ aN)) ann [] [] (by kernel_rfl) (by decide) (by decide) (by kernel_rfl) fun x h e=>(red _ _ some BIG (e 0) x).trans (hp x h _)
end Fz8
end Go.Proofs.Ytlipfbihlmlplaa.G
