import Derived.Test.YtlipfbihlmlplaaSg
namespace Go.Proofs.Ytlipfbihlmlplaa.G
open Go Go.Proofs
set_option linter.unusedVariables false
set_option linter.unusedSimpArgs false
set_option maxRecDepth 100000
namespace Fz57
section
variable {α:Type} (K:Res→Option α) (fuel:Nat) (cont:Ex→St→Option α) (rec:St→Option α) (e0:TypeId) (p1_0:(List Zb)) (x1:(Int×(List Zs))) (a0:(List Zb))
noncomputable def E:Env:=⟨TT,small,(tabOf []),1,45⟩
def ann:Ann:=.two .nil (.two .nil (.two (.two .nil (.one (.loop [0,3,4] .nil))) .nil))
noncomputable def emb1(e0:TypeId)(p1_0:(List Zb))(x1:(Int×(List Zs))):St:=mkS 45 [qL 0 0,qL 3 91,qI 4 .i64 x1.1] 92 [oA 0 e0 t1_ p1_0,oN 91 51 t7_ x1.2]
noncomputable def LB1:(St→Option α)→St→Option α:=roundV E fuel [true,true,false,true,false] (bodyOf Try.f70) ann cont
noncomputable def C1:Ex→St→Option α:=contAt E fuel [true,true,false,true,false] (bodyOf Try.f70) ann [] (finK TT 1 [some 0] Try.f70 [] K)
noncomputable def ex1_0(e0:TypeId)(p1_0:(List Zb))(x1:(Int×(List Zs))):St:=mkS 45 [qL 0 0,qL 3 91,qI 4 .i64 x1.1,qI 6 .i64 x1.1,qL 7 0,qI 8 .i64 (((List.length p1_0):Nat):Int),qB 9 ((decide (x1.1<(((List.length p1_0):Nat):Int))))] 92 [oA 0 e0 t1_ p1_0,oN 91 51 t7_ x1.2]
noncomputable def B1(p1_0:(List Zb))(K0:(Int×(List Zs))→Option α)(rec:(Int×(List Zs))→Option α)(x1:(Int×(List Zs))):Option α:=
 cond (decide (x1.1<(((List.length p1_0):Nat):Int))) (cond (x1.1==(0:Int)) (cond (inB x1.1 (List.length p1_0)) (cond (okL (List.length x1.2+List.length [((List.getD p1_0 (x1.1:Int).toNat ((0:Int),(0:Int))),(0:Int))])) (cond (inB (IntKind.i64.wrap ((((List.length (x1.2++[((List.getD p1_0 (x1.1:Int).toNat ((0:Int),(0:Int))),(0:Int))])):Nat):Int)-(1:Int))) (List.length (x1.2++[((List.getD p1_0 (x1.1:Int).toNat ((0:Int),(0:Int))),(0:Int))]))) (cond (inB (IntKind.i64.wrap ((((List.length (x1.2++[((List.getD p1_0 (x1.1:Int).toNat ((0:Int),(0:Int))),(0:Int))])):Nat):Int)-(1:Int))) (List.length (x1.2++[((List.getD p1_0 (x1.1:Int).toNat ((0:Int),(0:Int))),(0:Int))]))) (rec (((IntKind.i64.wrap (x1.1+(1:Int))),(List.set (x1.2++[((List.getD p1_0 (x1.1:Int).toNat ((0:Int),(0:Int))),(0:Int))]) (IntKind.i64.wrap ((((List.length (x1.2++[((List.getD p1_0 (x1.1:Int).toNat ((0:Int),(0:Int))),(0:Int))])):Nat):Int)-(1:Int))).toNat ((List.getD (x1.2++[((List.getD p1_0 (x1.1:Int).toNat ((0:Int),(0:Int))),(0:Int))]) (IntKind.i64.wrap ((((List.length (x1.2++[((List.getD p1_0 (x1.1:Int).toNat ((0:Int),(0:Int))),(0:Int))])):Nat):Int)-(1:Int))).toNat (((0:Int),(0:Int)),(0:Int))).1,(IntKind.i64.wrap ((List.getD (x1.2++[((List.getD p1_0 (x1.1:Int).toNat ((0:Int),(0:Int))),(0:Int))]) (IntKind.i64.wrap ((((List.length (x1.2++[((List.getD p1_0 (x1.1:Int).toNat ((0:Int),(0:Int))),(0:Int))])):Nat):Int)-(1:Int))).toNat (((0:Int),(0:Int)),(0:Int))).2+(1:Int)))))))) none) none) none) none) (cond (inB x1.1 (List.length p1_0)) (cond (inB (IntKind.i64.wrap (x1.1-(1:Int))) (List.length p1_0)) (cond (!(eqV (.st (.pair (.int .u8) (.int .i16))) (List.getD p1_0 (x1.1:Int).toNat ((0:Int),(0:Int))) (List.getD p1_0 (IntKind.i64.wrap (x1.1-(1:Int))).toNat ((0:Int),(0:Int))))) (cond (inB x1.1 (List.length p1_0)) (cond (okL (List.length x1.2+List.length [((List.getD p1_0 (x1.1:Int).toNat ((0:Int),(0:Int))),(0:Int))])) (cond (inB (IntKind.i64.wrap ((((List.length (x1.2++[((List.getD p1_0 (x1.1:Int).toNat ((0:Int),(0:Int))),(0:Int))])):Nat):Int)-(1:Int))) (List.length (x1.2++[((List.getD p1_0 (x1.1:Int).toNat ((0:Int),(0:Int))),(0:Int))]))) (cond (inB (IntKind.i64.wrap ((((List.length (x1.2++[((List.getD p1_0 (x1.1:Int).toNat ((0:Int),(0:Int))),(0:Int))])):Nat):Int)-(1:Int))) (List.length (x1.2++[((List.getD p1_0 (x1.1:Int).toNat ((0:Int),(0:Int))),(0:Int))]))) (rec (((IntKind.i64.wrap (x1.1+(1:Int))),(List.set (x1.2++[((List.getD p1_0 (x1.1:Int).toNat ((0:Int),(0:Int))),(0:Int))]) (IntKind.i64.wrap ((((List.length (x1.2++[((List.getD p1_0 (x1.1:Int).toNat ((0:Int),(0:Int))),(0:Int))])):Nat):Int)-(1:Int))).toNat ((List.getD (x1.2++[((List.getD p1_0 (x1.1:Int).toNat ((0:Int),(0:Int))),(0:Int))]) (IntKind.i64.wrap ((((List.length (x1.2++[((List.getD p1_0 (x1.1:Int).toNat ((0:Int),(0:Int))),(0:Int))])):Nat):Int)-(1:Int))).toNat (((0:Int),(0:Int)),(0:Int))).1,(IntKind.i64.wrap ((List.getD (x1.2++[((List.getD p1_0 (x1.1:Int).toNat ((0:Int),(0:Int))),(0:Int))]) (IntKind.i64.wrap ((((List.length (x1.2++[((List.getD p1_0 (x1.1:Int).toNat ((0:Int),(0:Int))),(0:Int))])):Nat):Int)-(1:Int))).toNat (((0:Int),(0:Int)),(0:Int))).2+(1:Int)))))))) none) none) none) none) (cond (inB (IntKind.i64.wrap ((((List.length x1.2):Nat):Int)-(1:Int))) (List.length x1.2)) (cond (inB (IntKind.i64.wrap ((((List.length x1.2):Nat):Int)-(1:Int))) (List.length x1.2)) (rec (((IntKind.i64.wrap (x1.1+(1:Int))),(List.set x1.2 (IntKind.i64.wrap ((((List.length x1.2):Nat):Int)-(1:Int))).toNat ((List.getD x1.2 (IntKind.i64.wrap ((((List.length x1.2):Nat):Int)-(1:Int))).toNat (((0:Int),(0:Int)),(0:Int))).1,(IntKind.i64.wrap ((List.getD x1.2 (IntKind.i64.wrap ((((List.length x1.2):Nat):Int)-(1:Int))).toNat (((0:Int),(0:Int)),(0:Int))).2+(1:Int)))))))) none) none)) none) none)) (K0 x1)
theorem step1:LB1 fuel cont rec (emb1 e0 p1_0 x1)=B1 p1_0 (fun x1=>cont (.exit 0) (ex1_0 e0 p1_0 x1)) (fun y=>rec (emb1 e0 p1_0 y)) x1:=by kernel_rfl
theorem loop1:loopN (LB1 fuel cont) fuel (emb1 e0 p1_0 x1)=iter (B1 p1_0 (fun x1=>cont (.exit 0) (ex1_0 e0 p1_0 x1))) fuel x1:=loop_sim (fun rec x=>step1 ..) fuel x1
noncomputable def pf(fuel:Nat)(a0:(List Zb))(k:B→Option α):Option α:=
 iter (B1 a0 (fun (x1:(Int×(List Zs)))=>k x1.2)) fuel (((0:Int),([]:List Zs)))
theorem tail1:C1 K fuel (.exit 0) (ex1_0 e0 a0 x1)=((fun (k:B→Option α)=>k x1.2) (fun r=>K (enc 0 r))):=by kernel_rfl
theorem red_raw:run TT small (tabOf []) Try.f70 ann [] fuel [.obj false ⟨e0,t1_,a0⟩] K=loopN (LB1 fuel (C1 K fuel)) fuel (emb1 e0 a0 (((0:Int),([]:List Zs)))):=by kernel_rfl
theorem red:run TT small (tabOf []) Try.f70 ann [] fuel [.obj false ⟨e0,t1_,a0⟩] K=pf fuel a0 (fun r=>K (enc 0 r)):=by
 rw[red_raw]
 simp only[loop1,tail1]
 all_goals kernel_rfl
end
theorem of_cl{P:A→Prop}{v:A→B}(hp:∀x,P x→∀k:B→Option Res,pf BIG x k=k (v x)):S (cl P v):=cl_snd (fn:=Try.f70) hmx_ (ttok _) aN ann [] [] (by kernel_rfl) (by decide) (by decide) (by kernel_rfl) fun x h e=>(red some BIG (e 0) x).trans (hp x h _)
end Fz57
namespace Fz46
section
variable {α:Type} (g0_:Fz63.F) (g1_:Fz65.F) (g2_:Fz57.F) (K:Res→Option α) (fuel:Nat) (cont:Ex→St→Option α) (rec:St→Option α) (e0:TypeId) (a0:(List (List Zb)))
noncomputable def tab:=tabOf [(67,Fz63.sig g0_),(69,Fz65.sig g1_),(70,Fz57.sig g2_)]
noncomputable def pf(fuel:Nat)(a0:(List (List Zb)))(k:B→Option α):Option α:=
 (g0_ a0).bind fun r1=>cond (!r1) (k (([]:List Zs),(1:Int))) ((g1_ a0).bind fun r2=>(g2_ r2).bind fun r3=>k (r3,(0:Int)))
theorem red:run TT small (tab g0_ g1_ g2_) Try.f18 .nil [] fuel [.obj false ⟨e0,t2_,a0⟩] K=pf g0_ g1_ g2_ fuel a0 (fun r=>K (enc 0 r)):=by kernel_rfl
end
theorem of_cl{g0_ g1_ g2_}(h0_:Fz63.S g0_)(h1_:Fz65.S g1_)(h2_:Fz57.S g2_){P:A→Prop}{v:A→B}(hp:∀x,P x→∀k:B→Option Res,pf g0_ g1_ g2_ BIG x k=k (v x)):S (cl P v):=cl_snd (fn:=Try.f18) hmx_ (ttok _) (aC h0_ (aC h1_ (aC h2_ aN))) .nil [] [] (by kernel_rfl) (by decide) (by decide) (by kernel_rfl) fun x h e=>(red _ _ _ some BIG (e 0) x).trans (hp x h _)
end Fz46
namespace Fz53
section
variable {α:Type} (K:Res→Option α) (fuel:Nat) (cont:Ex→St→Option α) (rec:St→Option α) (e0 e1:TypeId) (p1_0 p1_1:(List (List Zb))) (x1:Int) (a0 a1:(List (List Zb)))
noncomputable def E:Env:=⟨TT,small,(tabOf []),2,26⟩
def ann:Ann:=.two .nil (.two .nil (.two (.two .nil (.one (.loop [0,1,5] .nil))) .nil))
noncomputable def emb1(e0 e1:TypeId)(p1_0 p1_1:(List (List Zb)))(x1:Int):St:=mkS 26 [qL 0 0,qL 1 1,qI 5 .i64 x1] 54 [oA 0 e0 t2_ p1_0,oA 1 e1 t2_ p1_1]
noncomputable def LB1:(St→Option α)→St→Option α:=roundV E fuel [true,true,false,true,false] (bodyOf Try.f19) ann cont
noncomputable def C1:Ex→St→Option α:=contAt E fuel [true,true,false,true,false] (bodyOf Try.f19) ann [] (finK TT 2 [some 0,some 1] Try.f19 [] K)
noncomputable def ex1_0(e0 e1:TypeId)(p1_0 p1_1:(List (List Zb)))(x1:Int):St:=mkS 26 [qL 0 0,qL 1 1,qB 4 false,qI 5 .i64 x1,qI 11 .i64 x1,qL 12 0,qI 13 .i64 (((List.length p1_0):Nat):Int),qB 14 ((decide (x1<(((List.length p1_0):Nat):Int)))),qL 17 0,qI 18 .i64 x1,(19,.ptr 0 [.idx (x1:Int).toNat] false),qV 20 t2_ ((List.getD p1_0 (x1:Int).toNat (List.replicate 12 ((0:Int),(0:Int))))),qL 21 1,qI 22 .i64 x1,(23,.ptr 1 [.idx (x1:Int).toNat] false),qV 24 t2_ ((List.getD p1_1 (x1:Int).toNat (List.replicate 12 ((0:Int),(0:Int))))),qB 25 ((!(eqV t2_ (List.getD p1_0 (x1:Int).toNat (List.replicate 12 ((0:Int),(0:Int)))) (List.getD p1_1 (x1:Int).toNat (List.replicate 12 ((0:Int),(0:Int)))))))] 54 [oA 0 e0 t2_ p1_0,oA 1 e1 t2_ p1_1]
noncomputable def ex1_1(e0 e1:TypeId)(p1_0 p1_1:(List (List Zb)))(x1:Int):St:=mkS 26 [qL 0 0,qL 1 1,qI 5 .i64 x1,qI 11 .i64 x1,qL 12 0,qI 13 .i64 (((List.length p1_0):Nat):Int),qB 14 ((decide (x1<(((List.length p1_0):Nat):Int))))] 54 [oA 0 e0 t2_ p1_0,oA 1 e1 t2_ p1_1]
noncomputable def B1(p1_0 p1_1:(List (List Zb)))(K0 K1:Int→Option α)(rec:Int→Option α)(x1:Int):Option α:=
 cond (decide (x1<(((List.length p1_0):Nat):Int))) (cond (inB x1 (List.length p1_0)) (cond (inB x1 (List.length p1_1)) (cond (!(eqV (.arr 12 (.st (.pair (.int .u8) (.int .i16)))) (List.getD p1_0 (x1:Int).toNat (List.replicate 12 ((0:Int),(0:Int)))) (List.getD p1_1 (x1:Int).toNat (List.replicate 12 ((0:Int),(0:Int)))))) (K0 x1) (rec (IntKind.i64.wrap (x1+(1:Int))))) none) none) (K1 x1)
theorem step1:LB1 fuel cont rec (emb1 e0 e1 p1_0 p1_1 x1)=B1 p1_0 p1_1 (fun x1=>cont .ret (ex1_0 e0 e1 p1_0 p1_1 x1)) (fun x1=>cont (.exit 0) (ex1_1 e0 e1 p1_0 p1_1 x1)) (fun y=>rec (emb1 e0 e1 p1_0 p1_1 y)) x1:=by kernel_rfl
theorem loop1:loopN (LB1 fuel cont) fuel (emb1 e0 e1 p1_0 p1_1 x1)=iter (B1 p1_0 p1_1 (fun x1=>cont .ret (ex1_0 e0 e1 p1_0 p1_1 x1)) (fun x1=>cont (.exit 0) (ex1_1 e0 e1 p1_0 p1_1 x1))) fuel x1:=loop_sim (fun rec x=>step1 ..) fuel x1
noncomputable def pf(fuel:Nat)(a0 a1:(List (List Zb)))(k:B→Option α):Option α:=
 cond ((((List.length a0):Nat):Int)!=(((List.length a1):Nat):Int)) (k false) (iter (B1 a0 a1 (fun (x1:Int)=>k false) (fun (x1:Int)=>k true)) fuel (0:Int))
theorem tail1:C1 K fuel .ret (ex1_0 e0 e1 a0 a1 x1)=((fun (k:B→Option α)=>k false) (fun r=>K (enc 0 r))):=by kernel_rfl
theorem tail2:C1 K fuel (.exit 0) (ex1_1 e0 e1 a0 a1 x1)=((fun (k:B→Option α)=>k true) (fun r=>K (enc 0 r))):=by kernel_rfl
theorem red_raw:run TT small (tabOf []) Try.f19 ann [] fuel [.obj false ⟨e0,t2_,a0⟩,.obj false ⟨e1,t2_,a1⟩] K=cond ((((List.length a0):Nat):Int)!=(((List.length a1):Nat):Int)) (K ⟨[.val .bool false],[]⟩) (loopN (LB1 fuel (C1 K fuel)) fuel (emb1 e0 e1 a0 a1 (0:Int))):=by kernel_rfl
theorem red:run TT small (tabOf []) Try.f19 ann [] fuel [.obj false ⟨e0,t2_,a0⟩,.obj false ⟨e1,t2_,a1⟩] K=pf fuel a0 a1 (fun r=>K (enc 0 r)):=by
 rw[red_raw]
 simp only[loop1,tail1,tail2]
 all_goals kernel_rfl
end
theorem of_cl{P:A→Prop}{v:A→B}(hp:∀x,P x→∀k:B→Option Res,pf BIG x.1 x.2 k=k (v x)):S (cl P v):=cl_snd (fn:=Try.f19) hmx_ (ttok _) aN ann [] [] (by kernel_rfl) (by decide) (by decide) (by kernel_rfl) fun x h e=>(red some BIG (e 0) (e 2) x.1 x.2).trans (hp x h _)
end Fz53
namespace Fz40
section
variable {α:Type} (K:Res→Option α) (fuel:Nat) (cont:Ex→St→Option α) (rec:St→Option α) (e0 e1:TypeId) (p1_0:Int) (p1_1 p1_2:(List (List Zb))) (x1:Int) (a0 a1:(List (List Zb)))
noncomputable def E:Env:=⟨TT,small,(tabOf []),2,26⟩
def ann:Ann:=.two .nil (.two .nil (.two (.two .nil (.one (.loop [0,1,12,13] .nil))) .nil))
noncomputable def emb1(e0 e1:TypeId)(p1_0:Int)(p1_1 p1_2:(List (List Zb)))(x1:Int):St:=mkS 26 [qL 0 0,qL 1 1,qI 12 .i64 p1_0,qI 13 .i64 x1] 54 [oA 0 e0 t2_ p1_1,oA 1 e1 t2_ p1_2]
noncomputable def LB1:(St→Option α)→St→Option α:=roundV E fuel [true,true,false,true,false] (bodyOf Try.f71) ann cont
noncomputable def C1:Ex→St→Option α:=contAt E fuel [true,true,false,true,false] (bodyOf Try.f71) ann [] (finK TT 2 [some 0,some 1] Try.f71 [] K)
noncomputable def ex1_0(e0 e1:TypeId)(p1_0:Int)(p1_1 p1_2:(List (List Zb)))(x1:Int):St:=mkS 26 [qL 0 0,qL 1 1,qB 4 false,qI 5 .i64 x1,qI 12 .i64 p1_0,qI 13 .i64 x1,qB 14 (decide (x1<p1_0)),qI 15 .i64 x1,qL 16 0,qI 17 .i64 x1,(18,.ptr 0 [.idx (x1:Int).toNat] false),qV 19 t2_ ((List.getD p1_1 (x1:Int).toNat (List.replicate 12 ((0:Int),(0:Int))))),qL 20 1,qI 21 .i64 x1,(22,.ptr 1 [.idx (x1:Int).toNat] false),qV 23 t2_ ((List.getD p1_2 (x1:Int).toNat (List.replicate 12 ((0:Int),(0:Int))))),qB 24 ((!(eqV t2_ (List.getD p1_1 (x1:Int).toNat (List.replicate 12 ((0:Int),(0:Int)))) (List.getD p1_2 (x1:Int).toNat (List.replicate 12 ((0:Int),(0:Int)))))))] 54 [oA 0 e0 t2_ p1_1,oA 1 e1 t2_ p1_2]
noncomputable def ex1_1(e0 e1:TypeId)(p1_0:Int)(p1_1 p1_2:(List (List Zb)))(x1:Int):St:=mkS 26 [qL 0 0,qL 1 1,qI 12 .i64 p1_0,qI 13 .i64 x1,qB 14 (decide (x1<p1_0))] 54 [oA 0 e0 t2_ p1_1,oA 1 e1 t2_ p1_2]
noncomputable def B1(p1_0:Int)(p1_1 p1_2:(List (List Zb)))(K0 K1:Int→Option α)(rec:Int→Option α)(x1:Int):Option α:=
 cond (decide (x1<p1_0)) (cond (inB x1 (List.length p1_1)) (cond (inB x1 (List.length p1_2)) (cond (!(eqV (.arr 12 (.st (.pair (.int .u8) (.int .i16)))) (List.getD p1_1 (x1:Int).toNat (List.replicate 12 ((0:Int),(0:Int)))) (List.getD p1_2 (x1:Int).toNat (List.replicate 12 ((0:Int),(0:Int)))))) (K0 x1) (rec (IntKind.i64.wrap (x1+(1:Int))))) none) none) (K1 x1)
theorem step1:LB1 fuel cont rec (emb1 e0 e1 p1_0 p1_1 p1_2 x1)=B1 p1_0 p1_1 p1_2 (fun x1=>cont .ret (ex1_0 e0 e1 p1_0 p1_1 p1_2 x1)) (fun x1=>cont (.exit 0) (ex1_1 e0 e1 p1_0 p1_1 p1_2 x1)) (fun y=>rec (emb1 e0 e1 p1_0 p1_1 p1_2 y)) x1:=by kernel_rfl
theorem loop1:loopN (LB1 fuel cont) fuel (emb1 e0 e1 p1_0 p1_1 p1_2 x1)=iter (B1 p1_0 p1_1 p1_2 (fun x1=>cont .ret (ex1_0 e0 e1 p1_0 p1_1 p1_2 x1)) (fun x1=>cont (.exit 0) (ex1_1 e0 e1 p1_0 p1_1 p1_2 x1))) fuel x1:=loop_sim (fun rec x=>step1 ..) fuel x1
noncomputable def pf(fuel:Nat)(a0 a1:(List (List Zb)))(k:B→Option α):Option α:=
 cond ((((List.length a0):Nat):Int)!=(((List.length a1):Nat):Int)) (k false) (iter (B1 (((List.length a0):Nat):Int) a0 a1 (fun (x1:Int)=>k false) (fun (x1:Int)=>k true)) fuel (0:Int))
theorem tail1:C1 K fuel .ret (ex1_0 e0 e1 (((List.length a0):Nat):Int) a0 a1 x1)=((fun (k:B→Option α)=>k false) (fun r=>K (enc 0 r))):=by kernel_rfl
theorem tail2:C1 K fuel (.exit 0) (ex1_1 e0 e1 (((List.length a0):Nat):Int) a0 a1 x1)=((fun (k:B→Option α)=>k true) (fun r=>K (enc 0 r))):=by kernel_rfl
theorem red_raw:run TT small (tabOf []) Try.f71 ann [] fuel [.obj false ⟨e0,t2_,a0⟩,.obj false ⟨e1,t2_,a1⟩] K=cond ((((List.length a0):Nat):Int)!=(((List.length a1):Nat):Int)) (K ⟨[.val .bool false],[]⟩) (loopN (LB1 fuel (C1 K fuel)) fuel (emb1 e0 e1 (((List.length a0):Nat):Int) a0 a1 (0:Int))):=by kernel_rfl
theorem red:run TT small (tabOf []) Try.f71 ann [] fuel [.obj false ⟨e0,t2_,a0⟩,.obj false ⟨e1,t2_,a1⟩] K=pf fuel a0 a1 (fun r=>K (enc 0 r)):=by
 rw[red_raw]
 simp only[loop1,tail1,tail2]
 all_goals kernel_rfl
end
theorem of_cl{P:A→Prop}{v:A→B}(hp:∀x,P x→∀k:B→Option Res,pf BIG x.1 x.2 k=k (v x)):S (cl P v):=cl_snd (fn:=Try.f71) hmx_ (ttok _) aN ann [] [] (by kernel_rfl) (by decide) (by decide) (by kernel_rfl) fun x h e=>(red some BIG (e 0) (e 2) x.1 x.2).trans (hp x h _)
end Fz40
namespace Fz22
section
variable {α:Type} (g0_:Fz40.F) (K:Res→Option α) (fuel:Nat) (cont:Ex→St→Option α) (rec:St→Option α) (e0 e1:TypeId) (a0 a1:(List (List Zb)))
noncomputable def tab:=tabOf [(71,Fz40.sig g0_)]
noncomputable def pf(fuel:Nat)(a0 a1:(List (List Zb)))(k:B→Option α):Option α:=
 (g0_ (a0,a1)).bind fun r1=>k r1
theorem red:run TT small (tab g0_) Try.f20 .nil [] fuel [.obj false ⟨e0,t2_,a0⟩,.obj false ⟨e1,t2_,a1⟩] K=pf g0_ fuel a0 a1 (fun r=>K (enc 0 r)):=by kernel_rfl
end
theorem of_cl{g0_}(h0_:Fz40.S g0_){P:A→Prop}{v:A→B}(hp:∀x,P x→∀k:B→Option Res,pf g0_ BIG x.1 x.2 k=k (v x)):S (cl P v):=cl_snd (fn:=Try.f20) hmx_ (ttok _) (aC h0_ aN) .nil [] [] (by kernel_rfl) (by decide) (by decide) (by kernel_rfl) fun x h e=>(red _ some BIG (e 0) (e 2) x.1 x.2).trans (hp x h _)
end Fz22
namespace Fz52
section
variable {α:Type} (K:Res→Option α) (fuel:Nat) (cont:Ex→St→Option α) (rec:St→Option α) (e0 e1:TypeId) (p1_0 p1_1:(List Zs)) (x1:Int) (a0 a1:(List Zs))
noncomputable def E:Env:=⟨TT,small,(tabOf []),2,26⟩
def ann:Ann:=.two .nil (.two .nil (.two (.two .nil (.one (.loop [0,1,5] .nil))) .nil))
noncomputable def emb1(e0 e1:TypeId)(p1_0 p1_1:(List Zs))(x1:Int):St:=mkS 26 [qL 0 0,qL 1 1,qI 5 .i64 x1] 54 [oA 0 e0 t7_ p1_0,oA 1 e1 t7_ p1_1]
noncomputable def LB1:(St→Option α)→St→Option α:=roundV E fuel [true,true,false,true,false] (bodyOf Try.f22) ann cont
noncomputable def C1:Ex→St→Option α:=contAt E fuel [true,true,false,true,false] (bodyOf Try.f22) ann [] (finK TT 2 [some 0,some 1] Try.f22 [] K)
noncomputable def ex1_0(e0 e1:TypeId)(p1_0 p1_1:(List Zs))(x1:Int):St:=mkS 26 [qL 0 0,qL 1 1,qB 4 false,qI 5 .i64 x1,qI 11 .i64 x1,qL 12 0,qI 13 .i64 (((List.length p1_0):Nat):Int),qB 14 ((decide (x1<(((List.length p1_0):Nat):Int)))),qL 17 0,qI 18 .i64 x1,(19,.ptr 0 [.idx (x1:Int).toNat] false),qV 20 t7_ ((List.getD p1_0 (x1:Int).toNat (((0:Int),(0:Int)),(0:Int)))),qL 21 1,qI 22 .i64 x1,(23,.ptr 1 [.idx (x1:Int).toNat] false),qV 24 t7_ ((List.getD p1_1 (x1:Int).toNat (((0:Int),(0:Int)),(0:Int)))),qB 25 ((!(eqV t7_ (List.getD p1_0 (x1:Int).toNat (((0:Int),(0:Int)),(0:Int))) (List.getD p1_1 (x1:Int).toNat (((0:Int),(0:Int)),(0:Int))))))] 54 [oA 0 e0 t7_ p1_0,oA 1 e1 t7_ p1_1]
noncomputable def ex1_1(e0 e1:TypeId)(p1_0 p1_1:(List Zs))(x1:Int):St:=mkS 26 [qL 0 0,qL 1 1,qI 5 .i64 x1,qI 11 .i64 x1,qL 12 0,qI 13 .i64 (((List.length p1_0):Nat):Int),qB 14 ((decide (x1<(((List.length p1_0):Nat):Int))))] 54 [oA 0 e0 t7_ p1_0,oA 1 e1 t7_ p1_1]
noncomputable def B1(p1_0 p1_1:(List Zs))(K0 K1:Int→Option α)(rec:Int→Option α)(x1:Int):Option α:=
 cond (decide (x1<(((List.length p1_0):Nat):Int))) (cond (inB x1 (List.length p1_0)) (cond (inB x1 (List.length p1_1)) (cond (!(eqV (.st (.pair (.st (.pair (.int .u8) (.int .i16))) (.int .i64))) (List.getD p1_0 (x1:Int).toNat (((0:Int),(0:Int)),(0:Int))) (List.getD p1_1 (x1:Int).toNat (((0:Int),(0:Int)),(0:Int))))) (K0 x1) (rec (IntKind.i64.wrap (x1+(1:Int))))) none) none) (K1 x1)
theorem step1:LB1 fuel cont rec (emb1 e0 e1 p1_0 p1_1 x1)=B1 p1_0 p1_1 (fun x1=>cont .ret (ex1_0 e0 e1 p1_0 p1_1 x1)) (fun x1=>cont (.exit 0) (ex1_1 e0 e1 p1_0 p1_1 x1)) (fun y=>rec (emb1 e0 e1 p1_0 p1_1 y)) x1:=by kernel_rfl
theorem loop1:loopN (LB1 fuel cont) fuel (emb1 e0 e1 p1_0 p1_1 x1)=iter (B1 p1_0 p1_1 (fun x1=>cont .ret (ex1_0 e0 e1 p1_0 p1_1 x1)) (fun x1=>cont (.exit 0) (ex1_1 e0 e1 p1_0 p1_1 x1))) fuel x1:=loop_sim (fun rec x=>step1 ..) fuel x1
noncomputable def pf(fuel:Nat)(a0 a1:(List Zs))(k:B→Option α):Option α:=
 cond ((((List.length a0):Nat):Int)!=(((List.length a1):Nat):Int)) (k false) (iter (B1 a0 a1 (fun (x1:Int)=>k false) (fun (x1:Int)=>k true)) fuel (0:Int))
theorem tail1:C1 K fuel .ret (ex1_0 e0 e1 a0 a1 x1)=((fun (k:B→Option α)=>k false) (fun r=>K (enc 0 r))):=by kernel_rfl
theorem tail2:C1 K fuel (.exit 0) (ex1_1 e0 e1 a0 a1 x1)=((fun (k:B→Option α)=>k true) (fun r=>K (enc 0 r))):=by kernel_rfl
theorem red_raw:run TT small (tabOf []) Try.f22 ann [] fuel [.obj false ⟨e0,t7_,a0⟩,.obj false ⟨e1,t7_,a1⟩] K=cond ((((List.length a0):Nat):Int)!=(((List.length a1):Nat):Int)) (K ⟨[.val .bool false],[]⟩) (loopN (LB1 fuel (C1 K fuel)) fuel (emb1 e0 e1 a0 a1 (0:Int))):=by kernel_rfl
theorem red:run TT small (tabOf []) Try.f22 ann [] fuel [.obj false ⟨e0,t7_,a0⟩,.obj false ⟨e1,t7_,a1⟩] K=pf fuel a0 a1 (fun r=>K (enc 0 r)):=by
 rw[red_raw]
 simp only[loop1,tail1,tail2]
 all_goals kernel_rfl
end
theorem of_cl{P:A→Prop}{v:A→B}(hp:∀x,P x→∀k:B→Option Res,pf BIG x.1 x.2 k=k (v x)):S (cl P v):=cl_snd (fn:=Try.f22) hmx_ (ttok _) aN ann [] [] (by kernel_rfl) (by decide) (by decide) (by kernel_rfl) fun x h e=>(red some BIG (e 0) (e 2) x.1 x.2).trans (hp x h _)
end Fz52
namespace Fz30
section
variable {α:Type} (K:Res→Option α) (fuel:Nat) (cont:Ex→St→Option α) (rec:St→Option α) (e0:TypeId) (p2_0 p2_1:Int) (p2_2:(List Zb)) (p2_3:(List (List Zb))) (p2_4 x2:Zb) (p1_0:Int) (p1_1:(List (List Zb))) (p1_2 x1:Zb) (a0:(List (List Zb))) (a1:Zb)
noncomputable def E:Env:=⟨TT,small,(tabOf []),1,28⟩
def ann:Ann:=.two .nil (.two .nil (.two (.two .nil (.one (.loop [3,5,10,11,12] (.two .nil (.two .nil (.two (.one (.two .nil (.two .nil (.one (.loop [3,5,10,11,12,16,17] .nil))))) .nil)))))) .nil))
noncomputable def emb2(e0:TypeId)(p2_0 p2_1:Int)(p2_2:(List Zb))(p2_3:(List (List Zb)))(p2_4:Zb)(x2:Zb):St:=mkS 28 [qP 3 57,qI 5 .i64 x2.1,qL 10 0,qI 11 .i64 p2_0,qI 12 .i64 p2_1,qV 16 t2_ p2_2,qI 17 .i64 x2.2] 58 [oA 0 e0 t2_ p2_3,oN 57 29 t1_ [p2_4]]
noncomputable def LB2:(St→Option α)→St→Option α:=roundV E fuel [true,true,false,true,false,false,true,true,false,false,true,true,false] (bodyOf Try.f76) ann cont
noncomputable def C2:Ex→St→Option α:=contAt E fuel [true,true,false,false,true,true,false] (codeAt [true,true,false,true,false,false] (bodyOf Try.f76)) (annAt [true,true,false,true,false,false] ann) [] (loopK E (annAt [true,true,false,true,false] ann).live rec cont)
noncomputable def ex2_0(e0:TypeId)(p2_0 p2_1:Int)(p2_2:(List Zb))(p2_3:(List (List Zb)))(p2_4 x2:Zb):St:=mkS 28 [qP 3 57,qI 5 .i64 x2.1,qL 10 0,qI 11 .i64 p2_0,qI 12 .i64 p2_1,qV 16 t2_ p2_2,qI 17 .i64 x2.2,qB 18 (decide (x2.2<(12:Int)))] 58 [oA 0 e0 t2_ p2_3,oN 57 29 t1_ [p2_4]]
noncomputable def B2(p2_0 p2_1:Int)(p2_2:(List Zb))(p2_3:(List (List Zb)))(p2_4:Zb)(K0:Zb→Option α)(rec:Zb→Option α)(x2:Zb):Option α:=
 cond (decide (x2.2<(12:Int))) (cond (inB x2.2 12) (cond (eqV (.st (.pair (.int .u8) (.int .i16))) (List.getD p2_2 (x2.2:Int).toNat ((0:Int),(0:Int))) p2_4) (rec (((IntKind.i64.wrap (x2.1+(1:Int))),(IntKind.i64.wrap (x2.2+(1:Int)))))) (rec ((x2.1,(IntKind.i64.wrap (x2.2+(1:Int))))))) none) (K0 x2)
theorem step2:LB2 fuel cont rec (emb2 e0 p2_0 p2_1 p2_2 p2_3 p2_4 x2)=B2 p2_0 p2_1 p2_2 p2_3 p2_4 (fun x2=>cont (.exit 2) (ex2_0 e0 p2_0 p2_1 p2_2 p2_3 p2_4 x2)) (fun y=>rec (emb2 e0 p2_0 p2_1 p2_2 p2_3 p2_4 y)) x2:=by kernel_rfl
theorem loop2:loopN (LB2 fuel cont) fuel (emb2 e0 p2_0 p2_1 p2_2 p2_3 p2_4 x2)=iter (B2 p2_0 p2_1 p2_2 p2_3 p2_4 (fun x2=>cont (.exit 2) (ex2_0 e0 p2_0 p2_1 p2_2 p2_3 p2_4 x2))) fuel x2:=loop_sim (fun rec x=>step2 ..) fuel x2
noncomputable def emb1(e0:TypeId)(p1_0:Int)(p1_1:(List (List Zb)))(p1_2:Zb)(x1:Zb):St:=mkS 28 [qP 3 57,qI 5 .i64 x1.1,qL 10 0,qI 11 .i64 p1_0,qI 12 .i64 x1.2] 58 [oA 0 e0 t2_ p1_1,oN 57 29 t1_ [p1_2]]
noncomputable def LB1:(St→Option α)→St→Option α:=roundV E fuel [true,true,false,true,false] (bodyOf Try.f76) ann cont
noncomputable def C1:Ex→St→Option α:=contAt E fuel [true,true,false,true,false] (bodyOf Try.f76) ann [] (finK TT 1 [some 0,none] Try.f76 [] K)
noncomputable def ex1_0(e0:TypeId)(p1_0:Int)(p1_1:(List (List Zb)))(p1_2 x1:Zb):St:=mkS 28 [qP 3 57,qI 5 .i64 x1.1,qL 10 0,qI 11 .i64 p1_0,qI 12 .i64 x1.2,qB 13 (decide (x1.2<p1_0))] 58 [oA 0 e0 t2_ p1_1,oN 57 29 t1_ [p1_2]]
noncomputable def B1(p1_0:Int)(p1_1:(List (List Zb)))(p1_2:Zb)(K0:Zb→Option α)(rec:Zb→Option α)(x1:Zb):Option α:=
 cond (decide (x1.2<p1_0)) (cond (inB x1.2 (List.length p1_1)) (iter (B2 p1_0 x1.2 ((List.getD p1_1 (x1.2:Int).toNat (List.replicate 12 ((0:Int),(0:Int))))) p1_1 p1_2 (fun (x2:Zb)=>rec ((x2.1,(IntKind.i64.wrap (x1.2+(1:Int))))))) fuel (x1.1,(0:Int))) none) (K0 x1)
theorem tail1:C2 fuel cont rec (.exit 2) (ex2_0 e0 p1_0 x1.2 ((List.getD p1_1 (x1.2:Int).toNat (List.replicate 12 ((0:Int),(0:Int))))) p1_1 p1_2 x2)=((fun (rec:Zb→Option α)=>rec ((x2.1,(IntKind.i64.wrap (x1.2+(1:Int)))))) (fun y=>rec (emb1 e0 p1_0 p1_1 p1_2 y))):=by kernel_rfl
theorem step1_raw:LB1 fuel cont rec (emb1 e0 p1_0 p1_1 p1_2 x1)=cond (decide (x1.2<p1_0)) (cond (inB x1.2 (List.length p1_1)) (loopN (LB2 fuel (C2 fuel cont rec)) fuel (emb2 e0 p1_0 x1.2 ((List.getD p1_1 (x1.2:Int).toNat (List.replicate 12 ((0:Int),(0:Int))))) p1_1 p1_2 (x1.1,(0:Int)))) none) (cont (.exit 0) (ex1_0 e0 p1_0 p1_1 p1_2 x1)):=by kernel_rfl
theorem step1:LB1 fuel cont rec (emb1 e0 p1_0 p1_1 p1_2 x1)=B1 fuel p1_0 p1_1 p1_2 (fun x1=>cont (.exit 0) (ex1_0 e0 p1_0 p1_1 p1_2 x1)) (fun y=>rec (emb1 e0 p1_0 p1_1 p1_2 y)) x1:=by
 rw[step1_raw]
 simp only[loop2,tail1]
 all_goals kernel_rfl
theorem loop1:loopN (LB1 fuel cont) fuel (emb1 e0 p1_0 p1_1 p1_2 x1)=iter (B1 fuel p1_0 p1_1 p1_2 (fun x1=>cont (.exit 0) (ex1_0 e0 p1_0 p1_1 p1_2 x1))) fuel x1:=loop_sim (fun rec x=>step1 ..) fuel x1
noncomputable def pf(fuel:Nat)(a0:(List (List Zb)))(a1:Zb)(k:B→Option α):Option α:=
 iter (B1 fuel (((List.length a0):Nat):Int) a0 a1 (fun (x1:Zb)=>k x1.1)) fuel ((0:Int),(0:Int))
theorem tail2:C1 K fuel (.exit 0) (ex1_0 e0 (((List.length a0):Nat):Int) a0 a1 x1)=((fun (k:B→Option α)=>k x1.1) (fun r=>K (enc 0 r))):=by kernel_rfl
theorem red_raw:run TT small (tabOf []) Try.f76 ann [] fuel [.obj false ⟨e0,t2_,a0⟩,.val t1_ a1] K=loopN (LB1 fuel (C1 K fuel)) fuel (emb1 e0 (((List.length a0):Nat):Int) a0 a1 ((0:Int),(0:Int))):=by kernel_rfl
theorem red:run TT small (tabOf []) Try.f76 ann [] fuel [.obj false ⟨e0,t2_,a0⟩,.val t1_ a1] K=pf fuel a0 a1 (fun r=>K (enc 0 r)):=by
 rw[red_raw]
 simp only[loop1,tail2]
 all_goals kernel_rfl
end
theorem of_cl{P:A→Prop}{v:A→B}(hp:∀x,P x→∀k:B→Option Res,pf BIG x.1 x.2 k=k (v x)):S (cl P v):=cl_snd (fn:=Try.f76) hmx_ (ttok _) aN ann [] [] (by kernel_rfl) (by decide) (by decide) (by kernel_rfl) fun x h e=>(red some BIG (e 0) x.1 x.2).trans (hp x h _)
end Fz30
namespace Fz7
section
variable {α:Type} (g0_:Fz26.F) (g1_:Fz23.F) (g2_:Fz30.F) (K:Res→Option α) (fuel:Nat) (cont:Ex→St→Option α) (rec:St→Option α) (e0:TypeId) (a0:(List (List Zb))) (a1:Zb)
noncomputable def tab:=tabOf [(21,Fz26.sig g0_),(75,Fz23.sig g1_),(76,Fz30.sig g2_)]
noncomputable def pf(fuel:Nat)(a0:(List (List Zb)))(a1:Zb)(k:B→Option α):Option α:=
 (g0_ a0).bind fun r1=>cond (!r1) (k ((0:Int),(1:Int))) ((g1_ a1).bind fun r2=>cond (!r2) (k ((0:Int),(1:Int))) ((g2_ (a0,a1)).bind fun r3=>k (r3,(0:Int))))
theorem red:run TT small (tab g0_ g1_ g2_) Try.f23 .nil [] fuel [.obj false ⟨e0,t2_,a0⟩,.val t1_ a1] K=pf g0_ g1_ g2_ fuel a0 a1 (fun r=>K (enc 0 r)):=by kernel_rfl
end
theorem of_cl{g0_ g1_ g2_}(h0_:Fz26.S g0_)(h1_:Fz23.S g1_)(h2_:Fz30.S g2_){P:A→Prop}{v:A→B}(hp:∀x,P x→∀k:B→Option Res,pf g0_ g1_ g2_ BIG x.1 x.2 k=k (v x)):S (cl P v):=cl_snd (fn:=Try.f23) hmx_ (ttok _) (aC h0_ (aC h1_ (aC h2_ aN))) .nil [] [] (by kernel_rfl) (by decide) (by decide) (by kernel_rfl) fun x h e=>(red _ _ _ some BIG (e 0) x.1 x.2).trans (hp x h _)
end Fz7
namespace Fz4
section
variable {α:Type} (K:Res→Option α) (fuel:Nat) (cont:Ex→St→Option α) (rec:St→Option α) (a0:Int)
noncomputable def pf(fuel:Nat)(a0:Int)(k:B→Option α):Option α:=
 k (a0 != a0)
theorem red:run TT small (tabOf []) Try.f138 .nil [] fuel [.val (.int .u8) a0] K=pf fuel a0 (fun r=>K (enc 0 r)):=by kernel_rfl
end
theorem of_tot{v:A→B}(hp:∀x,∀k:B→Option Res,pf BIG x k=k (v x)):S (tot v):=tot_snd (fn:=Try.f138) hmx_ (ttok _) aN .nil [] [] (by kernel_rfl) (by decide) (by decide) (by kernel_rfl) fun x e=>(red some BIG x).trans (hp x _)
end Fz4
namespace Fz1
section
variable {α:Type} (g0_:Fz4.F) (K:Res→Option α) (fuel:Nat) (cont:Ex→St→Option α) (rec:St→Option α) (a0 a1:Int)
noncomputable def tab:=tabOf [(138,Fz4.sig g0_)]
noncomputable def pf(fuel:Nat)(a0 a1:Int)(k:B→Option α):Option α:=
 (g0_ a0).bind fun r1=>(g0_ a1).bind fun r2=>cond r1 (cond r2 (k (0:Int)) (k (-1:Int))) (cond r2 (k (1:Int)) (cond (decide (a0<a1)) (k (-1:Int)) (cond (decide (a0>a1)) (k (1:Int)) (k (0:Int)))))
theorem red:run TT small (tab g0_) Try.f116 .nil [] fuel [.val (.int .u8) a0,.val (.int .u8) a1] K=pf g0_ fuel a0 a1 (fun r=>K (enc 0 r)):=by kernel_rfl
end
theorem of_tot{g0_}(h0_:Fz4.S g0_){v:A→B}(hp:∀x,∀k:B→Option Res,pf g0_ BIG x.1 x.2 k=k (v x)):S (tot v):=tot_snd (fn:=Try.f116) hmx_ (ttok _) (aC h0_ aN) .nil [] [] (by kernel_rfl) (by decide) (by decide) (by kernel_rfl) fun x e=>(red _ some BIG x.1 x.2).trans (hp x _)
end Fz1
namespace Fz3
section
variable {α:Type} (K:Res→Option α) (fuel:Nat) (cont:Ex→St→Option α) (rec:St→Option α) (a0:Int)
noncomputable def pf(fuel:Nat)(a0:Int)(k:B→Option α):Option α:=
 k (a0 != a0)
theorem red:run TT small (tabOf []) Try.f139 .nil [] fuel [.val (.int .i16) a0] K=pf fuel a0 (fun r=>K (enc 0 r)):=by kernel_rfl
end
theorem of_tot{v:A→B}(hp:∀x,∀k:B→Option Res,pf BIG x k=k (v x)):S (tot v):=tot_snd (fn:=Try.f139) hmx_ (ttok _) aN .nil [] [] (by kernel_rfl) (by decide) (by decide) (by kernel_rfl) fun x e=>(red some BIG x).trans (hp x _)
end Fz3
namespace Fz0
section
variable {α:Type} (g0_:Fz3.F) (K:Res→Option α) (fuel:Nat) (cont:Ex→St→Option α) (rec:St→Option α) (a0 a1:Int)
noncomputable def tab:=tabOf [(139,Fz3.sig g0_)]
noncomputable def pf(fuel:Nat)(a0 a1:Int)(k:B→Option α):Option α:=
 (g0_ a0).bind fun r1=>(g0_ a1).bind fun r2=>cond r1 (cond r2 (k (0:Int)) (k (-1:Int))) (cond r2 (k (1:Int)) (cond (decide (a0<a1)) (k (-1:Int)) (cond (decide (a0>a1)) (k (1:Int)) (k (0:Int)))))
theorem red:run TT small (tab g0_) Try.f117 .nil [] fuel [.val (.int .i16) a0,.val (.int .i16) a1] K=pf g0_ fuel a0 a1 (fun r=>K (enc 0 r)):=by kernel_rfl
end
theorem of_tot{g0_}(h0_:Fz3.S g0_){v:A→B}(hp:∀x,∀k:B→Option Res,pf g0_ BIG x.1 x.2 k=k (v x)):S (tot v):=tot_snd (fn:=Try.f117) hmx_ (ttok _) (aC h0_ aN) .nil [] [] (by kernel_rfl) (by decide) (by decide) (by kernel_rfl) fun x e=>(red _ some BIG x.1 x.2).trans (hp x _)
end Fz0
namespace Fz2
section
variable {α:Type} (K:Res→Option α) (fuel:Nat) (cont:Ex→St→Option α) (rec:St→Option α) (e0:TypeId) (p1_0 p1_1:Int) (p1_2:(List Int)) (x1:Int) (a0:(List Int))
noncomputable def E:Env:=⟨TT,small,(tabOf []),1,18⟩
def ann:Ann:=.two .nil (.two .nil (.two (.two .nil (.one (.loop [3,6,7,8] .nil))) .nil))
noncomputable def emb1(e0:TypeId)(p1_0 p1_1:Int)(p1_2:(List Int))(x1:Int):St:=mkS 18 [qI 3 .i64 p1_0,qL 6 0,qI 7 .i64 p1_1,qI 8 .i64 x1] 37 [oA 0 e0 (.int .i64) p1_2]
noncomputable def LB1:(St→Option α)→St→Option α:=roundV E fuel [true,true,false,true,false] (bodyOf Try.f115) ann cont
noncomputable def C1:Ex→St→Option α:=contAt E fuel [true,true,false,true,false] (bodyOf Try.f115) ann [] (finK TT 1 [some 0] Try.f115 [] K)
noncomputable def ex1_0(e0:TypeId)(p1_0 p1_1:Int)(p1_2:(List Int))(x1:Int):St:=mkS 18 [qI 2 .i64 (List.getD p1_2 (x1:Int).toNat (0:Int)),qI 3 .i64 p1_0,qI 5 .i64 (List.getD p1_2 (x1:Int).toNat (0:Int)),qL 6 0,qI 7 .i64 p1_1,qI 8 .i64 x1,qB 9 (decide (x1<p1_1)),(10,.ptr 0 [.idx (x1:Int).toNat] false),qI 11 .i64 (List.getD p1_2 (x1:Int).toNat (0:Int)),qI 12 .i64 (List.getD p1_2 (x1:Int).toNat (0:Int)),qI 13 .i64 p1_0,qB 14 ((List.getD p1_2 (x1:Int).toNat (0:Int))!=p1_0),qI 15 .i64 (List.getD p1_2 (x1:Int).toNat (0:Int))] 37 [oA 0 e0 (.int .i64) p1_2]
noncomputable def ex1_1(e0:TypeId)(p1_0 p1_1:Int)(p1_2:(List Int))(x1:Int):St:=mkS 18 [qI 3 .i64 p1_0,qL 6 0,qI 7 .i64 p1_1,qI 8 .i64 x1,qB 9 (decide (x1<p1_1))] 37 [oA 0 e0 (.int .i64) p1_2]
noncomputable def B1(p1_0 p1_1:Int)(p1_2:(List Int))(K0 K1:Int→Option α)(rec:Int→Option α)(x1:Int):Option α:=
 cond (decide (x1<p1_1)) (cond (inB x1 (List.length p1_2)) (cond ((List.getD p1_2 (x1:Int).toNat (0:Int))!=p1_0) (K0 x1) (rec (IntKind.i64.wrap (x1+(1:Int))))) none) (K1 x1)
theorem step1:LB1 fuel cont rec (emb1 e0 p1_0 p1_1 p1_2 x1)=B1 p1_0 p1_1 p1_2 (fun x1=>cont .ret (ex1_0 e0 p1_0 p1_1 p1_2 x1)) (fun x1=>cont (.exit 0) (ex1_1 e0 p1_0 p1_1 p1_2 x1)) (fun y=>rec (emb1 e0 p1_0 p1_1 p1_2 y)) x1:=by kernel_rfl
theorem loop1:loopN (LB1 fuel cont) fuel (emb1 e0 p1_0 p1_1 p1_2 x1)=iter (B1 p1_0 p1_1 p1_2 (fun x1=>cont .ret (ex1_0 e0 p1_0 p1_1 p1_2 x1)) (fun x1=>cont (.exit 0) (ex1_1 e0 p1_0 p1_1 p1_2 x1))) fuel x1:=loop_sim (fun rec x=>step1 ..) fuel x1
noncomputable def pf(fuel:Nat)(a0:(List Int))(k:B→Option α):Option α:=
 iter (B1 (0:Int) (((List.length a0):Nat):Int) a0 (fun (x1:Int)=>k (List.getD a0 (x1:Int).toNat (0:Int))) (fun (x1:Int)=>k (0:Int))) fuel (0:Int)
theorem tail1:C1 K fuel .ret (ex1_0 e0 (0:Int) (((List.length a0):Nat):Int) a0 x1)=((fun (k:B→Option α)=>k (List.getD a0 (x1:Int).toNat (0:Int))) (fun r=>K (enc 0 r))):=by kernel_rfl
theorem tail2:C1 K fuel (.exit 0) (ex1_1 e0 (0:Int) (((List.length a0):Nat):Int) a0 x1)=((fun (k:B→Option α)=>k (0:Int)) (fun r=>K (enc 0 r))):=by kernel_rfl
theorem red_raw:run TT small (tabOf []) Try.f115 ann [] fuel [.obj false ⟨e0,(.int .i64),a0⟩] K=loopN (LB1 fuel (C1 K fuel)) fuel (emb1 e0 (0:Int) (((List.length a0):Nat):Int) a0 (0:Int)):=by kernel_rfl
theorem red:run TT small (tabOf []) Try.f115 ann [] fuel [.obj false ⟨e0,(.int .i64),a0⟩] K=pf fuel a0 (fun r=>K (enc 0 r)):=by
 rw[red_raw]
 simp only[loop1,tail1,tail2]
 all_goals kernel_rfl
end
theorem of_cl{P:A→Prop}{v:A→B}(hp:∀x,P x→∀k:B→Option Res,pf BIG x k=k (v x)):S (cl P v):=cl_snd (fn:=Try.f115) hmx_ (ttok _) aN ann [] [] (by kernel_rfl) (by decide) (by decide) (by kernel_rfl) fun x h e=>(red some BIG (e 0) x).trans (hp x h _)
end Fz2
namespace Fz29
section
variable {α:Type} (g0_:Fz1.F) (g1_:Fz0.F) (g2_:Fz2.F) (K:Res→Option α) (fuel:Nat) (cont:Ex→St→Option α) (rec:St→Option α) (a0 a1:Zb)
noncomputable def tab:=tabOf [(116,Fz1.sig g0_),(117,Fz0.sig g1_),(115,Fz2.sig g2_)]
noncomputable def pf(fuel:Nat)(a0 a1:Zb)(k:B→Option α):Option α:=
 (g0_ (a0.1,a1.1)).bind fun r1=>(g1_ (a0.2,a1.2)).bind fun r2=>(g2_ [r1,r2]).bind fun r3=>k r3
theorem red:run TT small (tab g0_ g1_ g2_) Try.f77 .nil [] fuel [.val t1_ a0,.val t1_ a1] K=pf g0_ g1_ g2_ fuel a0 a1 (fun r=>K (enc 0 r)):=by kernel_rfl
end
theorem of_tot{g0_ g1_ g2_}(h0_:Fz1.S g0_)(h1_:Fz0.S g1_)(h2_:Fz2.S g2_){v:A→B}(hp:∀x,∀k:B→Option Res,pf g0_ g1_ g2_ BIG x.1 x.2 k=k (v x)):S (tot v):=tot_snd (fn:=Try.f77) hmx_ (ttok _) (aC h0_ (aC h1_ (aC h2_ aN))) .nil [] [] (by kernel_rfl) (by decide) (by decide) (by kernel_rfl) fun x e=>(red _ _ _ some BIG x.1 x.2).trans (hp x _)
end Fz29
namespace Fz6
section
variable {α:Type} (g0_:Fz29.F) (K:Res→Option α) (fuel:Nat) (cont:Ex→St→Option α) (rec:St→Option α) (a0 a1:Zb)
noncomputable def tab:=tabOf [(77,Fz29.sig g0_)]
noncomputable def pf(fuel:Nat)(a0 a1:Zb)(k:B→Option α):Option α:=
 (g0_ (a0,a1)).bind fun r1=>k r1
theorem red:run TT small (tab g0_) Try.f24 .nil [] fuel [.val t1_ a0,.val t1_ a1] K=pf g0_ fuel a0 a1 (fun r=>K (enc 0 r)):=by kernel_rfl
end
theorem of_tot{g0_}(h0_:Fz29.S g0_){v:A→B}(hp:∀x,∀k:B→Option Res,pf g0_ BIG x.1 x.2 k=k (v x)):S (tot v):=tot_snd (fn:=Try.f24) hmx_ (ttok _) (aC h0_ aN) .nil [] [] (by kernel_rfl) (by decide) (by decide) (by kernel_rfl) fun x e=>(red _ some BIG x.1 x.2).trans (hp x _)
end Fz6
namespace Fz15
section
variable {α:Type} (g0_:Fz32.F) (K:Res→Option α) (fuel:Nat) (cont:Ex→St→Option α) (rec:St→Option α) (a0:Int)
noncomputable def tab:=tabOf [(78,Fz32.sig g0_)]
noncomputable def pf(fuel:Nat)(a0:Int)(k:B→Option α):Option α:=
 (g0_ (a0,(0:Int),(1000000:Int))).bind fun r1=>cond (!r1) (k ((0:Int),(2:Int))) (cond ((12:Int)==0) none (k ((IntKind.i64.wrap (Int.tdiv (IntKind.i64.wrap ((IntKind.i64.wrap (a0+(12:Int)))-(1:Int))) (12:Int))),(0:Int))))
theorem red:run TT small (tab g0_) Try.f25 .nil [] fuel [.val (.int .i64) a0] K=pf g0_ fuel a0 (fun r=>K (enc 0 r)):=by kernel_rfl
end
theorem of_cl{g0_}(h0_:Fz32.S g0_){P:A→Prop}{v:A→B}(hp:∀x,P x→∀k:B→Option Res,pf g0_ BIG x k=k (v x)):S (cl P v):=cl_snd (fn:=Try.f25) hmx_ (ttok _) (aC h0_ aN) .nil [] [] (by kernel_rfl) (by decide) (by decide) (by kernel_rfl) fun x h e=>(red _ some BIG x).trans (hp x h _)
end Fz15
namespace Fz18
section
variable {α:Type} (g0_:Fz32.F) (K:Res→Option α) (fuel:Nat) (cont:Ex→St→Option α) (rec:St→Option α) (a0:Int)
noncomputable def tab:=tabOf [(78,Fz32.sig g0_)]
noncomputable def pf(fuel:Nat)(a0:Int)(k:B→Option α):Option α:=
 (g0_ (a0,(0:Int),(1000000:Int))).bind fun r1=>cond (!r1) (k ((0:Int),(0:Int),(0:Int),(2:Int))) (cond ((144:Int)==0) none (cond ((144:Int)==0) none (cond ((12:Int)==0) none (cond ((12:Int)==0) none (k ((IntKind.i64.wrap (Int.tdiv a0 (144:Int))),(IntKind.i64.wrap (Int.tdiv (Int.tmod a0 (144:Int)) (12:Int))),(Int.tmod a0 (12:Int)),(0:Int)))))))
theorem red:run TT small (tab g0_) Try.f26 .nil [] fuel [.val (.int .i64) a0] K=pf g0_ fuel a0 (fun r=>K (enc 0 r)):=by kernel_rfl
end
theorem of_cl{g0_}(h0_:Fz32.S g0_){P:A→Prop}{v:A→B}(hp:∀x,P x→∀k:B→Option Res,pf g0_ BIG x k=k (v x)):S (cl P v):=cl_snd (fn:=Try.f26) hmx_ (ttok _) (aC h0_ aN) .nil [] [] (by kernel_rfl) (by decide) (by decide) (by kernel_rfl) fun x h e=>(red _ some BIG x).trans (hp x h _)
end Fz18
namespace Fz14
section
variable {α:Type} (g0_:Fz9.F) (g1_:Fz44.F) (K:Res→Option α) (fuel:Nat) (cont:Ex→St→Option α) (rec:St→Option α) (a0:(List Zb))
noncomputable def tab:=tabOf [(85,Fz9.sig g0_),(112,Fz44.sig g1_)]
noncomputable def pf(fuel:Nat)(a0:(List Zb))(k:B→Option α):Option α:=
 (g0_ a0).bind fun r1=>(g1_ r1).bind fun r2=>k r2
theorem red:run TT small (tab g0_ g1_) Try.f87 .nil [] fuel [.val t2_ a0] K=pf g0_ g1_ fuel a0 (fun r=>K (enc 0 r)):=by kernel_rfl
end
theorem of_cl{g0_ g1_}(h0_:Fz9.S g0_)(h1_:Fz44.S g1_){P:A→Prop}{v:A→B}(hp:∀x,P x→∀k:B→Option Res,pf g0_ g1_ BIG x k=k (v x)):S (cl P v):=cl_snd (fn:=Try.f87) hmx_ (ttok _) (aC h0_ (aC h1_ aN)) .nil [] [] (by kernel_rfl) (by decide) (by decide) (by kernel_rfl) fun x h e=>(red _ _ some BIG x).trans (hp x h _)
end Fz14
namespace Fz36
section
variable {α:Type} (K:Res→Option α) (fuel:Nat) (cont:Ex→St→Option α) (rec:St→Option α) (e0:TypeId) (p2_0 p2_1:Nat) (x2:(Int×Int×(List Zb))) (p1_0:(List Zb)) (x1:Int) (a0:(List Zb))
noncomputable def E:Env:=⟨TT,small,(tabOf []),1,61⟩
def ann:Ann:=.two .nil (.two .nil (.two (.two .nil (.one (.loop [0,3] (.two .nil (.two (.one (.two .nil (.two (.two .nil (.two (.two .nil (.one (.loop [0,3,4,5] .nil))) .nil)) .nil))) .nil))))) .nil))
noncomputable def emb2(e0:TypeId)(p2_0 p2_1:Nat)(x2:(Int×Int×(List Zb))):St:=mkS 61 [qL 0 0,qI 3 .i64 x2.1,(4,.sl 0 [] (some (p2_0,p2_1))),qI 5 .i64 x2.2.1] 123 [(0,.dat ⟨e0,t1_,x2.2.2,true,false,none⟩)]
noncomputable def LB2:(St→Option α)→St→Option α:=roundV E fuel [true,true,false,true,false,false,true,false,false,true,false,true,false,true,false] (bodyOf Try.f95) ann cont
noncomputable def C2:Ex→St→Option α:=contAt E fuel [true,false,false,true,false,true,false,true,false] (codeAt [true,true,false,true,false,false] (bodyOf Try.f95)) (annAt [true,true,false,true,false,false] ann) [] (loopK E (annAt [true,true,false,true,false] ann).live rec cont)
noncomputable def ex2_0(e0:TypeId)(p2_0 p2_1:Nat)(x2:(Int×Int×(List Zb))):St:=mkS 61 [qL 0 0,qI 3 .i64 x2.1,(4,.sl 0 [] (some (p2_0,p2_1))),qI 5 .i64 x2.2.1,qI 29 .i64 x2.2.1,(30,.sl 0 [] (some (p2_0,p2_1))),qI 31 .i64 ((p2_1:Nat):Int),qB 32 ((decide (x2.2.1<((p2_1:Nat):Int))))] 123 [(0,.dat ⟨e0,t1_,x2.2.2,true,false,none⟩)]
noncomputable def B2(p2_0 p2_1:Nat)(K0:(Int×Int×(List Zb))→Option α)(rec:(Int×Int×(List Zb))→Option α)(x2:(Int×Int×(List Zb))):Option α:=
 cond (decide (x2.2.1<((p2_1:Nat):Int))) (cond (inB x2.2.1 p2_1) (cond (inB (IntKind.i64.wrap (x2.2.1-(1:Int))) p2_1) (cond (!(eqV (.st (.pair (.int .u8) (.int .i16))) (List.getD x2.2.2 (p2_0+(x2.2.1:Int).toNat) ((0:Int),(0:Int))) (List.getD x2.2.2 (p2_0+(IntKind.i64.wrap (x2.2.1-(1:Int))).toNat) ((0:Int),(0:Int))))) (cond (inB x2.2.1 p2_1) (cond (inB x2.1 (List.length x2.2.2)) (rec (((IntKind.i64.wrap (x2.1+(1:Int))),(IntKind.i64.wrap (x2.2.1+(1:Int))),(List.set x2.2.2 (x2.1:Int).toNat (List.getD x2.2.2 (p2_0+(x2.2.1:Int).toNat) ((0:Int),(0:Int))))))) none) none) (rec ((x2.1,(IntKind.i64.wrap (x2.2.1+(1:Int))),x2.2.2)))) none) none) (K0 x2)
theorem step2:LB2 fuel cont rec (emb2 e0 p2_0 p2_1 x2)=B2 p2_0 p2_1 (fun x2=>cont (.exit 2) (ex2_0 e0 p2_0 p2_1 x2)) (fun y=>rec (emb2 e0 p2_0 p2_1 y)) x2:=by kernel_rfl
theorem loop2:loopN (LB2 fuel cont) fuel (emb2 e0 p2_0 p2_1 x2)=iter (B2 p2_0 p2_1 (fun x2=>cont (.exit 2) (ex2_0 e0 p2_0 p2_1 x2))) fuel x2:=loop_sim (fun rec x=>step2 ..) fuel x2
noncomputable def emb1(e0:TypeId)(p1_0:(List Zb))(x1:Int):St:=mkS 61 [qL 0 0,qI 3 .i64 x1] 123 [(0,.dat ⟨e0,t1_,p1_0,true,false,none⟩)]
noncomputable def LB1:(St→Option α)→St→Option α:=roundV E fuel [true,true,false,true,false] (bodyOf Try.f95) ann cont
noncomputable def C1:Ex→St→Option α:=contAt E fuel [true,true,false,true,false] (bodyOf Try.f95) ann [] (finK TT 1 [some 0] Try.f95 [0] K)
noncomputable def ex1_0(e0:TypeId)(p1_0:(List Zb))(x1:Int)(x2:(Int×Int×(List Zb))):St:=mkS 61 [qL 0 0,(2,.sl 0 [] (some (0,(x2.1-(0:Int)).toNat))),qI 3 .i64 x2.1,(4,.sl 0 [] (some ((x1:Int).toNat,((((List.length p1_0):Nat):Int)-x1).toNat))),qI 5 .i64 x2.2.1,qI 29 .i64 x2.2.1,(30,.sl 0 [] (some ((x1:Int).toNat,((((List.length p1_0):Nat):Int)-x1).toNat))),qI 31 .i64 (((((((List.length p1_0):Nat):Int)-x1).toNat:Nat):Int)),qB 32 ((decide (x2.2.1<((((((List.length p1_0):Nat):Int)-x1).toNat:Nat):Int)))),qL 54 0,qI 55 .i64 x2.1,(56,.sl 0 [] (some ((x2.1:Int).toNat,((((List.length x2.2.2):Nat):Int)-x2.1).toNat))),qL 57 0,qI 58 .i64 x2.1,(59,.sl 0 [] (some (0,(x2.1-(0:Int)).toNat)))] 123 [(0,.dat ⟨e0,t1_,(overL x2.2.2 (x2.1:Int).toNat (List.replicate ((((List.length x2.2.2):Nat):Int)-x2.1).toNat ((0:Int),(0:Int)))),true,false,none⟩)]
noncomputable def ex1_1(e0:TypeId)(p1_0:(List Zb))(x1:Int):St:=mkS 61 [qL 0 0,qI 3 .i64 x1,qI 10 .i64 x1,qL 11 0,qI 12 .i64 (((List.length p1_0):Nat):Int),qB 13 ((decide (x1<(((List.length p1_0):Nat):Int))))] 123 [(0,.dat ⟨e0,t1_,p1_0,true,false,none⟩)]
noncomputable def B1(p1_0:(List Zb))(K0:Int→(Int×Int×(List Zb))→Option α)(K1:Int→Option α)(rec:Int→Option α)(x1:Int):Option α:=
 cond (decide (x1<(((List.length p1_0):Nat):Int))) (cond (inB x1 (List.length p1_0)) (cond (inB (IntKind.i64.wrap (x1-(1:Int))) (List.length p1_0)) (cond (eqV (.st (.pair (.int .u8) (.int .i16))) (List.getD p1_0 (x1:Int).toNat ((0:Int),(0:Int))) (List.getD p1_0 (IntKind.i64.wrap (x1-(1:Int))).toNat ((0:Int),(0:Int)))) (cond (inW x1 (((List.length p1_0):Nat):Int) (List.length p1_0)) (iter (B2 ((x1:Int).toNat) (((((List.length p1_0):Nat):Int)-x1).toNat) (fun (x2:(Int×Int×(List Zb)))=>cond (inW x2.1 (((List.length x2.2.2):Nat):Int) (List.length x2.2.2)) (cond (inW (0:Int) x2.1 (List.length (overL x2.2.2 (x2.1:Int).toNat (List.replicate ((((List.length x2.2.2):Nat):Int)-x2.1).toNat ((0:Int),(0:Int)))))) (K0 x1 x2) none) none)) fuel (x1,(1:Int),p1_0)) none) (rec (IntKind.i64.wrap (x1+(1:Int))))) none) none) (K1 x1)
theorem tail1:C2 fuel cont rec (.exit 2) (ex2_0 e0 ((x1:Int).toNat) (((((List.length p1_0):Nat):Int)-x1).toNat) x2)=((fun (K0:Int→(Int×Int×(List Zb))→Option α)=>cond (inW x2.1 (((List.length x2.2.2):Nat):Int) (List.length x2.2.2)) (cond (inW (0:Int) x2.1 (List.length (overL x2.2.2 (x2.1:Int).toNat (List.replicate ((((List.length x2.2.2):Nat):Int)-x2.1).toNat ((0:Int),(0:Int)))))) (K0 x1 x2) none) none) (fun x1 x2=>cont .ret (ex1_0 e0 p1_0 x1 x2))):=by kernel_rfl
theorem step1_raw:LB1 fuel cont rec (emb1 e0 p1_0 x1)=cond (decide (x1<(((List.length p1_0):Nat):Int))) (cond (inB x1 (List.length p1_0)) (cond (inB (IntKind.i64.wrap (x1-(1:Int))) (List.length p1_0)) (cond (eqV t1_ (List.getD p1_0 (x1:Int).toNat ((0:Int),(0:Int))) (List.getD p1_0 (IntKind.i64.wrap (x1-(1:Int))).toNat ((0:Int),(0:Int)))) (cond (inW x1 (((List.length p1_0):Nat):Int) (List.length p1_0)) (loopN (LB2 fuel (C2 fuel cont rec)) fuel (emb2 e0 ((x1:Int).toNat) (((((List.length p1_0):Nat):Int)-x1).toNat) (x1,(1:Int),p1_0))) none) (rec (emb1 e0 p1_0 (IntKind.i64.wrap (x1+(1:Int)))))) none) none) (cont (.exit 0) (ex1_1 e0 p1_0 x1)):=by kernel_rfl
theorem step1:LB1 fuel cont rec (emb1 e0 p1_0 x1)=B1 fuel p1_0 (fun x1 x2=>cont .ret (ex1_0 e0 p1_0 x1 x2)) (fun x1=>cont (.exit 0) (ex1_1 e0 p1_0 x1)) (fun y=>rec (emb1 e0 p1_0 y)) x1:=by
 rw[step1_raw]
 simp only[loop2,tail1]
 all_goals kernel_rfl
theorem loop1:loopN (LB1 fuel cont) fuel (emb1 e0 p1_0 x1)=iter (B1 fuel p1_0 (fun x1 x2=>cont .ret (ex1_0 e0 p1_0 x1 x2)) (fun x1=>cont (.exit 0) (ex1_1 e0 p1_0 x1))) fuel x1:=loop_sim (fun rec x=>step1 ..) fuel x1
noncomputable def pf(fuel:Nat)(a0:(List Zb))(k:B→Option α):Option α:=
 cond (decide ((((List.length a0):Nat):Int)<(2:Int))) (k ((none:Option (Nat×Nat)),a0)) (iter (B1 fuel a0 (fun (x1:Int) (x2:(Int×Int×(List Zb)))=>k ((some (0,(x2.1-(0:Int)).toNat)),(overL x2.2.2 (x2.1:Int).toNat (List.replicate ((((List.length x2.2.2):Nat):Int)-x2.1).toNat ((0:Int),(0:Int)))))) (fun (x1:Int)=>k ((none:Option (Nat×Nat)),a0))) fuel (1:Int))
theorem tail2:C1 K fuel .ret (ex1_0 e0 a0 x1 x2)=((fun (k:B→Option α)=>k ((some (0,(x2.1-(0:Int)).toNat)),(overL x2.2.2 (x2.1:Int).toNat (List.replicate ((((List.length x2.2.2):Nat):Int)-x2.1).toNat ((0:Int),(0:Int)))))) (fun r=>K (enc e0 r))):=by kernel_rfl
theorem tail3:C1 K fuel (.exit 0) (ex1_1 e0 a0 x1)=((fun (k:B→Option α)=>k ((none:Option (Nat×Nat)),a0)) (fun r=>K (enc e0 r))):=by kernel_rfl
theorem red_raw:run TT small (tabOf []) Try.f95 ann [0] fuel [.obj false ⟨e0,t1_,a0⟩] K=cond (decide ((((List.length a0):Nat):Int)<(2:Int))) (K ⟨[.al 0 (none:Option (Nat×Nat))],[⟨e0,t1_,a0⟩]⟩) (loopN (LB1 fuel (C1 K fuel)) fuel (emb1 e0 a0 (1:Int))):=by kernel_rfl
theorem red:run TT small (tabOf []) Try.f95 ann [0] fuel [.obj false ⟨e0,t1_,a0⟩] K=pf fuel a0 (fun r=>K (enc e0 r)):=by
 rw[red_raw]
 simp only[loop1,tail2,tail3]
 all_goals kernel_rfl
end
theorem of_cl{P:A→Prop}{v:A→B}(hp:∀x,P x→∀k:B→Option Res,pf BIG x k=k (v x)):S (cl P v):=cl_snd (fn:=Try.f95) hmx_ (ttok _) aN ann [0] [] (by kernel_rfl) (by decide) (by decide) (by kernel_rfl) fun x h e=>(red some BIG (e 0) x).trans (hp x h _)
end Fz36
namespace Fz13
section
variable {α:Type} (g0_:Fz14.F) (g1_:Fz36.F) (K:Res→Option α) (fuel:Nat) (cont:Ex→St→Option α) (rec:St→Option α) (a0:(List Zb))
noncomputable def tab:=tabOf [(87,Fz14.sig g0_),(95,Fz36.sig g1_)]
noncomputable def pf(fuel:Nat)(a0:(List Zb))(k:B→Option α):Option α:=
 (g0_ a0).bind fun r1=>(g1_ r1).bind fun r2=>k (decide ((((Win.len r2.1 r2.2):Nat):Int)≤(1:Int)))
theorem red:run TT small (tab g0_ g1_) Try.f79 .nil [] fuel [.val t2_ a0] K=pf g0_ g1_ fuel a0 (fun r=>K (enc 0 r)):=by kernel_rfl
end
theorem of_cl{g0_ g1_}(h0_:Fz14.S g0_)(h1_:Fz36.S g1_){P:A→Prop}{v:A→B}(hp:∀x,P x→∀k:B→Option Res,pf g0_ g1_ BIG x k=k (v x)):S (cl P v):=cl_snd (fn:=Try.f79) hmx_ (ttok _) (aC h0_ (aC h1_ aN)) .nil [] [] (by kernel_rfl) (by decide) (by decide) (by kernel_rfl) fun x h e=>(red _ _ some BIG x).trans (hp x h _)
end Fz13
namespace Fz19
section
variable {α:Type} (g0_:Fz26.F) (g1_:Fz13.F) (K:Res→Option α) (fuel:Nat) (cont:Ex→St→Option α) (rec:St→Option α) (e0:TypeId) (p1_0:Int) (p1_1:(List (List Zb))) (x1:Zb) (a0:(List (List Zb))) (r1:Bool)
noncomputable def tab:=tabOf [(21,Fz26.sig g0_),(79,Fz13.sig g1_)]
noncomputable def E:Env:=⟨TT,small,(tab g0_ g1_),1,23⟩
def ann:Ann:=.two .nil (.two .nil (.two .nil (.two (.two .nil (.one (.loop [4,10,11,12] .nil))) .nil)))
noncomputable def emb1(e0:TypeId)(p1_0:Int)(p1_1:(List (List Zb)))(x1:Zb):St:=mkS 23 [qI 4 .i64 x1.1,qL 10 0,qI 11 .i64 p1_0,qI 12 .i64 x1.2] 47 [oA 0 e0 t2_ p1_1]
noncomputable def LB1:(St→Option α)→St→Option α:=roundV (E g0_ g1_) fuel [true,true,true,false,true,false] (bodyOf Try.f27) ann cont
noncomputable def C1:Ex→St→Option α:=contAt (E g0_ g1_) fuel [true,true,true,false,true,false] (bodyOf Try.f27) ann [] (finK TT 1 [some 0] Try.f27 [] K)
noncomputable def ex1_0(e0:TypeId)(p1_0:Int)(p1_1:(List (List Zb)))(x1:Zb):St:=mkS 23 [qI 4 .i64 x1.1,qL 10 0,qI 11 .i64 p1_0,qI 12 .i64 x1.2,qB 13 (decide (x1.2<p1_0))] 47 [oA 0 e0 t2_ p1_1]
noncomputable def B1(p1_0:Int)(p1_1:(List (List Zb)))(K0:Zb→Option α)(rec:Zb→Option α)(x1:Zb):Option α:=
 cond (decide (x1.2<p1_0)) (cond (inB x1.2 (List.length p1_1)) ((g1_ (List.getD p1_1 (x1.2:Int).toNat (List.replicate 12 ((0:Int),(0:Int))))).bind fun r1001=>cond (!r1001) (rec (((IntKind.i64.wrap (x1.1+(1:Int))),(IntKind.i64.wrap (x1.2+(1:Int)))))) (rec ((x1.1,(IntKind.i64.wrap (x1.2+(1:Int))))))) none) (K0 x1)
theorem step1:LB1 g0_ g1_ fuel cont rec (emb1 e0 p1_0 p1_1 x1)=B1 g1_ p1_0 p1_1 (fun x1=>cont (.exit 0) (ex1_0 e0 p1_0 p1_1 x1)) (fun y=>rec (emb1 e0 p1_0 p1_1 y)) x1:=by kernel_rfl
theorem loop1:loopN (LB1 g0_ g1_ fuel cont) fuel (emb1 e0 p1_0 p1_1 x1)=iter (B1 g1_ p1_0 p1_1 (fun x1=>cont (.exit 0) (ex1_0 e0 p1_0 p1_1 x1))) fuel x1:=loop_sim (fun rec x=>step1 ..) fuel x1
noncomputable def pf(fuel:Nat)(a0:(List (List Zb)))(k:B→Option α):Option α:=
 (g0_ a0).bind fun r1=>cond (!r1) (k ((0:Int),(1:Int))) (iter (B1 g1_ (((List.length a0):Nat):Int) a0 (fun (x1:Zb)=>k (x1.1,(0:Int)))) fuel ((0:Int),(0:Int)))
theorem tail1:C1 g0_ g1_ K fuel (.exit 0) (ex1_0 e0 (((List.length a0):Nat):Int) a0 x1)=((fun (k:B→Option α)=>k (x1.1,(0:Int))) (fun r=>K (enc 0 r))):=by kernel_rfl
theorem red_raw:run TT small (tab g0_ g1_) Try.f27 ann [] fuel [.obj false ⟨e0,t2_,a0⟩] K=(g0_ a0).bind fun r1=>cond (!r1) (K ⟨[.val (.int .i64) (0:Int),.val (.int .i64) (1:Int)],[]⟩) (loopN (LB1 g0_ g1_ fuel (C1 g0_ g1_ K fuel)) fuel (emb1 e0 (((List.length a0):Nat):Int) a0 ((0:Int),(0:Int)))):=by kernel_rfl
theorem red:run TT small (tab g0_ g1_) Try.f27 ann [] fuel [.obj false ⟨e0,t2_,a0⟩] K=pf g0_ g1_ fuel a0 (fun r=>K (enc 0 r)):=by
 rw[red_raw]
 simp only[loop1,tail1]
 all_goals kernel_rfl
end
theorem of_cl{g0_ g1_}(h0_:Fz26.S g0_)(h1_:Fz13.S g1_){P:A→Prop}{v:A→B}(hp:∀x,P x→∀k:B→Option Res,pf g0_ g1_ BIG x k=k (v x)):S (cl P v):=cl_snd (fn:=Try.f27) hmx_ (ttok _) (aC h0_ (aC h1_ aN)) ann [] [] (by kernel_rfl) (by decide) (by decide) (by kernel_rfl) fun x h e=>(red _ _ some BIG (e 0) x).trans (hp x h _)
end Fz19
namespace Fz21
section
variable {α:Type} (g0_:Fz26.F) (g1_:Fz28.F) (g2_:Fz31.F) (K:Res→Option α) (fuel:Nat) (cont:Ex→St→Option α) (rec:St→Option α) (e0:TypeId) (p2_0:(Option (Nat×Nat))) (p2_1 p2_2:(List (List Zb))) (p2_3:(List Zb)) (x2:Int) (p1_0:(List (List Zb))) (p1_1:(List Zb)) (x1:((Option (Nat×Nat))×(List (List Zb)))) (a0:(List (List Zb))) (r1:Bool) (r2:(List Zb))
noncomputable def tab:=tabOf [(21,Fz26.sig g0_),(66,Fz28.sig g1_),(65,Fz31.sig g2_)]
noncomputable def E:Env:=⟨TT,small,(tab g0_ g1_ g2_),1,45⟩
def ann:Ann:=.two .nil (.two .nil (.two .nil (.two (.one (.loop [4,5] (.two .nil (.one (.two .nil (.two (.one (.loop [4,5,6] .nil)) .nil)))))) .nil)))
noncomputable def emb2(e0:TypeId)(p2_0:(Option (Nat×Nat)))(p2_1 p2_2:(List (List Zb)))(p2_3:(List Zb))(x2:Int):St:=mkS 45 [qL 4 91,(5,.sl 92 [] p2_0),qI 6 .i64 x2] 93 [oA 0 e0 t2_ p2_1,oN 91 31 t2_ p2_2,oN 92 29 t1_ p2_3]
noncomputable def LB2:(St→Option α)→St→Option α:=roundV (E g0_ g1_ g2_) fuel [true,true,true,false,false,false,true,false,true,false,false] (bodyOf Try.f28) ann cont
noncomputable def C2:Ex→St→Option α:=contAt (E g0_ g1_ g2_) fuel [true,false,true,false,false] (codeAt [true,true,true,false,false,false] (bodyOf Try.f28)) (annAt [true,true,true,false,false,false] ann) [] (loopK (E g0_ g1_ g2_) (annAt [true,true,true,false,false] ann).live rec cont)
noncomputable def ex2_0(e0:TypeId)(p2_0:(Option (Nat×Nat)))(p2_1 p2_2:(List (List Zb)))(p2_3:(List Zb))(x2:Int):St:=mkS 45 [qL 4 91,(5,.sl 92 [] p2_0),qI 6 .i64 x2,qI 16 .i64 x2,(17,.sl 92 [] p2_0),qI 18 .i64 (((Win.len p2_0 p2_3):Nat):Int),qB 19 ((decide (x2<(((Win.len p2_0 p2_3):Nat):Int)))),qB 20 true,(21,.sl 92 [] p2_0),qI 22 .i64 x2,(23,.ptr 92 [.idx (Win.ix p2_0 (x2:Int).toNat)] false),qV 24 t1_ (List.getD p2_3 (Win.ix p2_0 (x2:Int).toNat) ((0:Int),(0:Int))),(25,.sl 92 [] p2_0),(26,.ptr 92 [.idx (Win.ix p2_0 0)] false),qV 27 t1_ (List.getD p2_3 (Win.ix p2_0 0) ((0:Int),(0:Int))),qB 28 ((eqV t1_ (List.getD p2_3 (Win.ix p2_0 (x2:Int).toNat) ((0:Int),(0:Int))) (List.getD p2_3 (Win.ix p2_0 0) ((0:Int),(0:Int))))),qB 29 ((eqV t1_ (List.getD p2_3 (Win.ix p2_0 (x2:Int).toNat) ((0:Int),(0:Int))) (List.getD p2_3 (Win.ix p2_0 0) ((0:Int),(0:Int)))))] 93 [oA 0 e0 t2_ p2_1,oN 91 31 t2_ p2_2,oN 92 29 t1_ p2_3]
noncomputable def ex2_1(e0:TypeId)(p2_0:(Option (Nat×Nat)))(p2_1 p2_2:(List (List Zb)))(p2_3:(List Zb))(x2:Int):St:=mkS 45 [qL 4 91,(5,.sl 92 [] p2_0),qI 6 .i64 x2,qI 16 .i64 x2,(17,.sl 92 [] p2_0),qI 18 .i64 (((Win.len p2_0 p2_3):Nat):Int),qB 19 ((decide (x2<(((Win.len p2_0 p2_3):Nat):Int)))),qB 20 false,(21,.tup []),(22,.tup []),(23,.tup []),(24,.tup []),(25,.tup []),(26,.tup []),(27,.tup []),(28,.tup []),qB 29 false] 93 [oA 0 e0 t2_ p2_1,oN 91 31 t2_ p2_2,oN 92 29 t1_ p2_3]
noncomputable def B2(p2_0:(Option (Nat×Nat)))(p2_1 p2_2:(List (List Zb)))(p2_3:(List Zb))(K0 K1:Int→Option α)(rec:Int→Option α)(x2:Int):Option α:=
 cond (decide (x2<(((Win.len p2_0 p2_3):Nat):Int))) (cond (inB x2 (Win.len p2_0 p2_3)) (cond (inB (0:Int) (Win.len p2_0 p2_3)) (cond (eqV (.st (.pair (.int .u8) (.int .i16))) (List.getD p2_3 (Win.ix p2_0 (x2:Int).toNat) ((0:Int),(0:Int))) (List.getD p2_3 (Win.ix p2_0 0) ((0:Int),(0:Int)))) (rec (IntKind.i64.wrap (x2+(1:Int)))) (K0 x2)) none) none) (K1 x2)
theorem step2:LB2 g0_ g1_ g2_ fuel cont rec (emb2 e0 p2_0 p2_1 p2_2 p2_3 x2)=B2 p2_0 p2_1 p2_2 p2_3 (fun x2=>cont (.exit 2) (ex2_0 e0 p2_0 p2_1 p2_2 p2_3 x2)) (fun x2=>cont (.exit 2) (ex2_1 e0 p2_0 p2_1 p2_2 p2_3 x2)) (fun y=>rec (emb2 e0 p2_0 p2_1 p2_2 p2_3 y)) x2:=by kernel_rfl
theorem loop2:loopN (LB2 g0_ g1_ g2_ fuel cont) fuel (emb2 e0 p2_0 p2_1 p2_2 p2_3 x2)=iter (B2 p2_0 p2_1 p2_2 p2_3 (fun x2=>cont (.exit 2) (ex2_0 e0 p2_0 p2_1 p2_2 p2_3 x2)) (fun x2=>cont (.exit 2) (ex2_1 e0 p2_0 p2_1 p2_2 p2_3 x2))) fuel x2:=loop_sim (fun rec x=>step2 ..) fuel x2
noncomputable def emb1(e0:TypeId)(p1_0:(List (List Zb)))(p1_1:(List Zb))(x1:((Option (Nat×Nat))×(List (List Zb)))):St:=mkS 45 [qL 4 91,(5,.sl 92 [] x1.1)] 93 [oA 0 e0 t2_ p1_0,oN 91 31 t2_ x1.2,oN 92 29 t1_ p1_1]
noncomputable def LB1:(St→Option α)→St→Option α:=roundV (E g0_ g1_ g2_) fuel [true,true,true,false,false] (bodyOf Try.f28) ann cont
noncomputable def C1:Ex→St→Option α:=contAt (E g0_ g1_ g2_) fuel [true,true,true,false,false] (bodyOf Try.f28) ann [] (finK TT 1 [some 0] Try.f28 [] K)
noncomputable def ex1_0(e0:TypeId)(p1_0:(List (List Zb)))(p1_1:(List Zb))(x1:((Option (Nat×Nat))×(List (List Zb)))):St:=mkS 45 [qL 4 91,(5,.sl 92 [] x1.1),(13,.sl 92 [] x1.1),qI 14 .i64 (((Win.len x1.1 p1_1):Nat):Int),qB 15 ((decide ((((Win.len x1.1 p1_1):Nat):Int)>(0:Int))))] 93 [oA 0 e0 t2_ p1_0,oN 91 31 t2_ x1.2,oN 92 29 t1_ p1_1]
noncomputable def B1(p1_0:(List (List Zb)))(p1_1:(List Zb))(K0:((Option (Nat×Nat))×(List (List Zb)))→Option α)(rec:((Option (Nat×Nat))×(List (List Zb)))→Option α)(x1:((Option (Nat×Nat))×(List (List Zb)))):Option α:=
 cond (decide ((((Win.len x1.1 p1_1):Nat):Int)>(0:Int))) (iter (B2 x1.1 p1_0 x1.2 p1_1 (fun (x2:Int)=>cond (inW (0:Int) x2 (Win.len x1.1 p1_1)) ((g2_ (List.take (x2-(0:Int)).toNat (List.drop (Win.ix x1.1 0) p1_1))).bind fun r1001=>cond (okL (List.length x1.2+List.length r1001)) (cond (inW x2 (((Win.len x1.1 p1_1):Nat):Int) (Win.len x1.1 p1_1)) (rec (((some ((Win.ix x1.1 (x2:Int).toNat),((((Win.len x1.1 p1_1):Nat):Int)-x2).toNat)),(x1.2++r1001)))) none) none) none) (fun (x2:Int)=>cond (inW (0:Int) x2 (Win.len x1.1 p1_1)) ((g2_ (List.take (x2-(0:Int)).toNat (List.drop (Win.ix x1.1 0) p1_1))).bind fun r1001=>cond (okL (List.length x1.2+List.length r1001)) (cond (inW x2 (((Win.len x1.1 p1_1):Nat):Int) (Win.len x1.1 p1_1)) (rec (((some ((Win.ix x1.1 (x2:Int).toNat),((((Win.len x1.1 p1_1):Nat):Int)-x2).toNat)),(x1.2++r1001)))) none) none) none)) fuel (1:Int)) (K0 x1)
theorem tail1:C2 g0_ g1_ g2_ fuel cont rec (.exit 2) (ex2_0 e0 x1.1 p1_0 x1.2 p1_1 x2)=((fun (rec:((Option (Nat×Nat))×(List (List Zb)))→Option α)=>cond (inW (0:Int) x2 (Win.len x1.1 p1_1)) ((g2_ (List.take (x2-(0:Int)).toNat (List.drop (Win.ix x1.1 0) p1_1))).bind fun r1001=>cond (okL (List.length x1.2+List.length r1001)) (cond (inW x2 (((Win.len x1.1 p1_1):Nat):Int) (Win.len x1.1 p1_1)) (rec (((some ((Win.ix x1.1 (x2:Int).toNat),((((Win.len x1.1 p1_1):Nat):Int)-x2).toNat)),(x1.2++r1001)))) none) none) none) (fun y=>rec (emb1 e0 p1_0 p1_1 y))):=by kernel_rfl
theorem tail2:C2 g0_ g1_ g2_ fuel cont rec (.exit 2) (ex2_1 e0 x1.1 p1_0 x1.2 p1_1 x2)=((fun (rec:((Option (Nat×Nat))×(List (List Zb)))→Option α)=>cond (inW (0:Int) x2 (Win.len x1.1 p1_1)) ((g2_ (List.take (x2-(0:Int)).toNat (List.drop (Win.ix x1.1 0) p1_1))).bind fun r1001=>cond (okL (List.length x1.2+List.length r1001)) (cond (inW x2 (((Win.len x1.1 p1_1):Nat):Int) (Win.len x1.1 p1_1)) (rec (((some ((Win.ix x1.1 (x2:Int).toNat),((((Win.len x1.1 p1_1):Nat):Int)-x2).toNat)),(x1.2++r1001)))) none) none) none) (fun y=>rec (emb1 e0 p1_0 p1_1 y))):=by kernel_rfl
theorem step1_raw:LB1 g0_ g1_ g2_ fuel cont rec (emb1 e0 p1_0 p1_1 x1)=cond (decide ((((Win.len x1.1 p1_1):Nat):Int)>(0:Int))) (loopN (LB2 g0_ g1_ g2_ fuel (C2 g0_ g1_ g2_ fuel cont rec)) fuel (emb2 e0 x1.1 p1_0 x1.2 p1_1 (1:Int))) (cont (.exit 0) (ex1_0 e0 p1_0 p1_1 x1)):=by kernel_rfl
theorem step1:LB1 g0_ g1_ g2_ fuel cont rec (emb1 e0 p1_0 p1_1 x1)=B1 g2_ fuel p1_0 p1_1 (fun x1=>cont (.exit 0) (ex1_0 e0 p1_0 p1_1 x1)) (fun y=>rec (emb1 e0 p1_0 p1_1 y)) x1:=by
 rw[step1_raw]
 simp only[loop2,tail1,tail2]
 all_goals kernel_rfl
theorem loop1:loopN (LB1 g0_ g1_ g2_ fuel cont) fuel (emb1 e0 p1_0 p1_1 x1)=iter (B1 g2_ fuel p1_0 p1_1 (fun x1=>cont (.exit 0) (ex1_0 e0 p1_0 p1_1 x1))) fuel x1:=loop_sim (fun rec x=>step1 ..) fuel x1
noncomputable def pf(fuel:Nat)(a0:(List (List Zb)))(k:B→Option α):Option α:=
 (g0_ a0).bind fun r1=>cond (!r1) (k (([]:List (List Zb)),(1:Int))) ((g1_ a0).bind fun r2=>iter (B1 g2_ fuel a0 r2 (fun (x1:((Option (Nat×Nat))×(List (List Zb))))=>cond (decide ((((List.length x1.2):Nat):Int)>(12:Int))) (k (([]:List (List Zb)),(3:Int))) (k (x1.2,(0:Int))))) fuel (((none:Option (Nat×Nat)),([]:List (List Zb)))))
theorem tail3:C1 g0_ g1_ g2_ K fuel (.exit 0) (ex1_0 e0 a0 r2 x1)=((fun (k:B→Option α)=>cond (decide ((((List.length x1.2):Nat):Int)>(12:Int))) (k (([]:List (List Zb)),(3:Int))) (k (x1.2,(0:Int)))) (fun r=>K (enc 0 r))):=by kernel_rfl
theorem red_raw:run TT small (tab g0_ g1_ g2_) Try.f28 ann [] fuel [.obj false ⟨e0,t2_,a0⟩] K=(g0_ a0).bind fun r1=>cond (!r1) (K ⟨[.own ⟨31,t2_,([]:List (List Zb))⟩,.val (.int .i64) (1:Int)],[]⟩) ((g1_ a0).bind fun r2=>loopN (LB1 g0_ g1_ g2_ fuel (C1 g0_ g1_ g2_ K fuel)) fuel (emb1 e0 a0 r2 (((none:Option (Nat×Nat)),([]:List (List Zb)))))):=by kernel_rfl
theorem red:run TT small (tab g0_ g1_ g2_) Try.f28 ann [] fuel [.obj false ⟨e0,t2_,a0⟩] K=pf g0_ g1_ g2_ fuel a0 (fun r=>K (enc 0 r)):=by
 rw[red_raw]
 simp only[loop1,tail3]
 all_goals kernel_rfl
end
theorem of_cl{g0_ g1_ g2_}(h0_:Fz26.S g0_)(h1_:Fz28.S g1_)(h2_:Fz31.S g2_){P:A→Prop}{v:A→B}(hp:∀x,P x→∀k:B→Option Res,pf g0_ g1_ g2_ BIG x k=k (v x)):S (cl P v):=cl_snd (fn:=Try.f28) hmx_ (ttok _) (aC h0_ (aC h1_ (aC h2_ aN))) ann [] [] (by kernel_rfl) (by decide) (by decide) (by kernel_rfl) fun x h e=>(red _ _ _ some BIG (e 0) x).trans (hp x h _)
end Fz21
namespace Fz51
section
variable {α:Type} (g0_:Fz63.F) (g1_:Fz65.F) (g2_:Fz57.F) (g3_:Fz61.F) (K:Res→Option α) (fuel:Nat) (cont:Ex→St→Option α) (rec:St→Option α) (e0:TypeId) (p2_0:Int) (p2_1 p2_2:(List (List Zb))) (p2_3:(List Zs)) (x2:(Int×(List Zb))) (p1_0:(List (List Zb))) (p1_1:(List Zs)) (x1:(Int×(List (List Zb)))) (a0:(List (List Zb))) (r1:Bool) (r2:(List Zb)) (r3:(List Zs))
noncomputable def tab:=tabOf [(67,Fz63.sig g0_),(69,Fz65.sig g1_),(70,Fz57.sig g2_),(68,Fz61.sig g3_)]
noncomputable def E:Env:=⟨TT,small,(tab g0_ g1_ g2_ g3_),1,50⟩
def ann:Ann:=.two .nil (.two .nil (.two .nil (.two .nil (.two (.two .nil (.one (.loop [4,5,6] (.two .nil (.two (.one (.two .nil (.two (.two .nil (.one (.loop [4,5,6,7,8] .nil))) .nil))) .nil))))) .nil))))
noncomputable def emb2(e0:TypeId)(p2_0:Int)(p2_1 p2_2:(List (List Zb)))(p2_3:(List Zs))(x2:(Int×(List Zb))):St:=mkS 50 [qL 4 101,qL 5 102,qI 6 .i64 p2_0,qL 7 103,qI 8 .i64 x2.1] 104 [oA 0 e0 t2_ p2_1,oN 101 31 t2_ p2_2,oN 102 51 t7_ p2_3,oN 103 29 t1_ x2.2]
noncomputable def LB2:(St→Option α)→St→Option α:=roundV (E g0_ g1_ g2_ g3_) fuel [true,true,true,true,false,true,false,false,true,false,false,true,false,true,false] (bodyOf Try.f29) ann cont
noncomputable def C2:Ex→St→Option α:=contAt (E g0_ g1_ g2_ g3_) fuel [true,false,false,true,false,true,false] (codeAt [true,true,true,true,false,true,false,false] (bodyOf Try.f29)) (annAt [true,true,true,true,false,true,false,false] ann) [] (loopK (E g0_ g1_ g2_ g3_) (annAt [true,true,true,true,false,true,false] ann).live rec cont)
noncomputable def ex2_0(e0:TypeId)(p2_0:Int)(p2_1 p2_2:(List (List Zb)))(p2_3:(List Zs))(x2:(Int×(List Zb))):St:=mkS 50 [qL 4 101,qL 5 102,qI 6 .i64 p2_0,qL 7 103,qI 8 .i64 x2.1,qI 24 .i64 x2.1,qL 25 102,qI 26 .i64 p2_0,(27,.ptr 102 [.idx (p2_0:Int).toNat] false),(28,.ptr 102 [.idx (p2_0:Int).toNat,.snd] false),qI 29 .i64 ((List.getD p2_3 (p2_0:Int).toNat (((0:Int),(0:Int)),(0:Int))).2),qB 30 ((decide (x2.1<(List.getD p2_3 (p2_0:Int).toNat (((0:Int),(0:Int)),(0:Int))).2)))] 104 [oA 0 e0 t2_ p2_1,oN 101 31 t2_ p2_2,oN 102 51 t7_ p2_3,oN 103 29 t1_ x2.2]
noncomputable def B2(p2_0:Int)(p2_1 p2_2:(List (List Zb)))(p2_3:(List Zs))(K0:(Int×(List Zb))→Option α)(rec:(Int×(List Zb))→Option α)(x2:(Int×(List Zb))):Option α:=
 cond (inB p2_0 (List.length p2_3)) (cond (decide (x2.1<(List.getD p2_3 (p2_0:Int).toNat (((0:Int),(0:Int)),(0:Int))).2)) (cond (inB p2_0 (List.length p2_3)) (cond (okL (List.length x2.2+List.length [(List.getD p2_3 (p2_0:Int).toNat (((0:Int),(0:Int)),(0:Int))).1])) (rec (((IntKind.i64.wrap (x2.1+(1:Int))),(x2.2++[(List.getD p2_3 (p2_0:Int).toNat (((0:Int),(0:Int)),(0:Int))).1])))) none) none) (K0 x2)) none
theorem step2:LB2 g0_ g1_ g2_ g3_ fuel cont rec (emb2 e0 p2_0 p2_1 p2_2 p2_3 x2)=B2 p2_0 p2_1 p2_2 p2_3 (fun x2=>cont (.exit 2) (ex2_0 e0 p2_0 p2_1 p2_2 p2_3 x2)) (fun y=>rec (emb2 e0 p2_0 p2_1 p2_2 p2_3 y)) x2:=by kernel_rfl
theorem loop2:loopN (LB2 g0_ g1_ g2_ g3_ fuel cont) fuel (emb2 e0 p2_0 p2_1 p2_2 p2_3 x2)=iter (B2 p2_0 p2_1 p2_2 p2_3 (fun x2=>cont (.exit 2) (ex2_0 e0 p2_0 p2_1 p2_2 p2_3 x2))) fuel x2:=loop_sim (fun rec x=>step2 ..) fuel x2
noncomputable def emb1(e0:TypeId)(p1_0:(List (List Zb)))(p1_1:(List Zs))(x1:(Int×(List (List Zb)))):St:=mkS 50 [qL 4 101,qL 5 102,qI 6 .i64 x1.1] 103 [oA 0 e0 t2_ p1_0,oN 101 31 t2_ x1.2,oN 102 51 t7_ p1_1]
noncomputable def LB1:(St→Option α)→St→Option α:=roundV (E g0_ g1_ g2_ g3_) fuel [true,true,true,true,false,true,false] (bodyOf Try.f29) ann cont
noncomputable def C1:Ex→St→Option α:=contAt (E g0_ g1_ g2_ g3_) fuel [true,true,true,true,false,true,false] (bodyOf Try.f29) ann [] (finK TT 1 [some 0] Try.f29 [] K)
noncomputable def ex1_0(e0:TypeId)(p1_0:(List (List Zb)))(p1_1:(List Zs))(x1:(Int×(List (List Zb)))):St:=mkS 50 [qL 4 101,qL 5 102,qI 6 .i64 x1.1,qI 17 .i64 x1.1,qL 18 102,qI 19 .i64 (((List.length p1_1):Nat):Int),qB 20 ((decide (x1.1<(((List.length p1_1):Nat):Int))))] 103 [oA 0 e0 t2_ p1_0,oN 101 31 t2_ x1.2,oN 102 51 t7_ p1_1]
noncomputable def B1(p1_0:(List (List Zb)))(p1_1:(List Zs))(K0:(Int×(List (List Zb)))→Option α)(rec:(Int×(List (List Zb)))→Option α)(x1:(Int×(List (List Zb)))):Option α:=
 cond (decide (x1.1<(((List.length p1_1):Nat):Int))) (iter (B2 x1.1 p1_0 x1.2 p1_1 (fun (x2:(Int×(List Zb)))=>(g3_ x2.2).bind fun r1001=>cond (okL (List.length x1.2+List.length r1001)) (rec (((IntKind.i64.wrap (x1.1+(1:Int))),(x1.2++r1001)))) none)) fuel ((0:Int),([]:List Zb))) (K0 x1)
theorem tail1:C2 g0_ g1_ g2_ g3_ fuel cont rec (.exit 2) (ex2_0 e0 x1.1 p1_0 x1.2 p1_1 x2)=((fun (rec:(Int×(List (List Zb)))→Option α)=>(g3_ x2.2).bind fun r1001=>cond (okL (List.length x1.2+List.length r1001)) (rec (((IntKind.i64.wrap (x1.1+(1:Int))),(x1.2++r1001)))) none) (fun y=>rec (emb1 e0 p1_0 p1_1 y))):=by kernel_rfl
theorem step1_raw:LB1 g0_ g1_ g2_ g3_ fuel cont rec (emb1 e0 p1_0 p1_1 x1)=cond (decide (x1.1<(((List.length p1_1):Nat):Int))) (loopN (LB2 g0_ g1_ g2_ g3_ fuel (C2 g0_ g1_ g2_ g3_ fuel cont rec)) fuel (emb2 e0 x1.1 p1_0 x1.2 p1_1 ((0:Int),([]:List Zb)))) (cont (.exit 0) (ex1_0 e0 p1_0 p1_1 x1)):=by kernel_rfl
theorem step1:LB1 g0_ g1_ g2_ g3_ fuel cont rec (emb1 e0 p1_0 p1_1 x1)=B1 g3_ fuel p1_0 p1_1 (fun x1=>cont (.exit 0) (ex1_0 e0 p1_0 p1_1 x1)) (fun y=>rec (emb1 e0 p1_0 p1_1 y)) x1:=by
 rw[step1_raw]
 simp only[loop2,tail1]
 all_goals kernel_rfl
theorem loop1:loopN (LB1 g0_ g1_ g2_ g3_ fuel cont) fuel (emb1 e0 p1_0 p1_1 x1)=iter (B1 g3_ fuel p1_0 p1_1 (fun x1=>cont (.exit 0) (ex1_0 e0 p1_0 p1_1 x1))) fuel x1:=loop_sim (fun rec x=>step1 ..) fuel x1
noncomputable def pf(fuel:Nat)(a0:(List (List Zb)))(k:B→Option α):Option α:=
 (g0_ a0).bind fun r1=>cond (!r1) (k (([]:List (List Zb)),(1:Int))) ((g1_ a0).bind fun r2=>(g2_ r2).bind fun r3=>iter (B1 g3_ fuel a0 r3 (fun (x1:(Int×(List (List Zb))))=>cond (decide ((((List.length x1.2):Nat):Int)>(12:Int))) (k (([]:List (List Zb)),(3:Int))) (k (x1.2,(0:Int))))) fuel (((0:Int),([]:List (List Zb)))))
theorem tail2:C1 g0_ g1_ g2_ g3_ K fuel (.exit 0) (ex1_0 e0 a0 r3 x1)=((fun (k:B→Option α)=>cond (decide ((((List.length x1.2):Nat):Int)>(12:Int))) (k (([]:List (List Zb)),(3:Int))) (k (x1.2,(0:Int)))) (fun r=>K (enc 0 r))):=by kernel_rfl
theorem red_raw:run TT small (tab g0_ g1_ g2_ g3_) Try.f29 ann [] fuel [.obj false ⟨e0,t2_,a0⟩] K=(g0_ a0).bind fun r1=>cond (!r1) (K ⟨[.own ⟨31,t2_,([]:List (List Zb))⟩,.val (.int .i64) (1:Int)],[]⟩) ((g1_ a0).bind fun r2=>(g2_ r2).bind fun r3=>loopN (LB1 g0_ g1_ g2_ g3_ fuel (C1 g0_ g1_ g2_ g3_ K fuel)) fuel (emb1 e0 a0 r3 (((0:Int),([]:List (List Zb)))))):=by kernel_rfl
theorem red:run TT small (tab g0_ g1_ g2_ g3_) Try.f29 ann [] fuel [.obj false ⟨e0,t2_,a0⟩] K=pf g0_ g1_ g2_ g3_ fuel a0 (fun r=>K (enc 0 r)):=by
 rw[red_raw]
 simp only[loop1,tail2]
 all_goals kernel_rfl
end
theorem of_cl{g0_ g1_ g2_ g3_}(h0_:Fz63.S g0_)(h1_:Fz65.S g1_)(h2_:Fz57.S g2_)(h3_:Fz61.S g3_){P:A→Prop}{v:A→B}(hp:∀x,P x→∀k:B→Option Res,pf g0_ g1_ g2_ g3_ BIG x k=k (v x)):S (cl P v):=cl_snd (fn:=Try.f29) hmx_ (ttok _) (aC h0_ (aC h1_ (aC h2_ (aC h3_ aN)))) ann [] [] (by kernel_rfl) (by decide) (by decide) (by kernel_rfl) fun x h e=>(red _ _ _ _ some BIG (e 0) x).trans (hp x h _)
end Fz51
namespace Fz11
section
variable {α:Type} (K:Res→Option α) (fuel:Nat) (cont:Ex→St→Option α) (rec:St→Option α) (p1_0:(List Zb)) (x1:(Int×(List Int))) (a0:(List Zb))
noncomputable def E:Env:=⟨TT,small,(tabOf []),0,21⟩
def ann:Ann:=.two .nil (.two .nil (.two (.two .nil (.one (.loop [3,7,8] .nil))) .nil))
noncomputable def emb1(p1_0:(List Zb))(x1:(Int×(List Int))):St:=mkS 21 [qL 3 42,qV 7 t2_ p1_0,qI 8 .i64 x1.1] 43 [oN 42 2 (.int .i64) x1.2]
noncomputable def LB1:(St→Option α)→St→Option α:=roundV E fuel [true,true,false,true,false] (bodyOf Try.f80) ann cont
noncomputable def C1:Ex→St→Option α:=contAt E fuel [true,true,false,true,false] (bodyOf Try.f80) ann [] (finK TT 0 [none] Try.f80 [] K)
noncomputable def ex1_0(p1_0:(List Zb))(x1:(Int×(List Int))):St:=mkS 21 [qL 3 42,qV 7 t2_ p1_0,qI 8 .i64 x1.1,qB 9 (decide (x1.1<(12:Int)))] 43 [oN 42 2 (.int .i64) x1.2]
noncomputable def B1(p1_0:(List Zb))(K0:(Int×(List Int))→Option α)(rec:(Int×(List Int))→Option α)(x1:(Int×(List Int))):Option α:=
 cond (decide (x1.1<(12:Int))) (cond (inB x1.1 12) (cond (eqV (.st (.pair (.int .u8) (.int .i16))) (List.getD p1_0 (x1.1:Int).toNat ((0:Int),(0:Int))) ((0:Int),(0:Int))) (cond (okL (List.length x1.2+List.length [x1.1])) (rec (((IntKind.i64.wrap (x1.1+(1:Int))),(x1.2++[x1.1])))) none) (rec (((IntKind.i64.wrap (x1.1+(1:Int))),x1.2)))) none) (K0 x1)
theorem step1:LB1 fuel cont rec (emb1 p1_0 x1)=B1 p1_0 (fun x1=>cont (.exit 0) (ex1_0 p1_0 x1)) (fun y=>rec (emb1 p1_0 y)) x1:=by kernel_rfl
theorem loop1:loopN (LB1 fuel cont) fuel (emb1 p1_0 x1)=iter (B1 p1_0 (fun x1=>cont (.exit 0) (ex1_0 p1_0 x1))) fuel x1:=loop_sim (fun rec x=>step1 ..) fuel x1
noncomputable def pf(fuel:Nat)(a0:(List Zb))(k:B→Option α):Option α:=
 iter (B1 a0 (fun (x1:(Int×(List Int)))=>k x1.2)) fuel ((0:Int),([]:List Int))
theorem tail1:C1 K fuel (.exit 0) (ex1_0 a0 x1)=((fun (k:B→Option α)=>k x1.2) (fun r=>K (enc 0 r))):=by kernel_rfl
theorem red_raw:run TT small (tabOf []) Try.f80 ann [] fuel [.val t2_ a0] K=loopN (LB1 fuel (C1 K fuel)) fuel (emb1 a0 ((0:Int),([]:List Int))):=by kernel_rfl
theorem red:run TT small (tabOf []) Try.f80 ann [] fuel [.val t2_ a0] K=pf fuel a0 (fun r=>K (enc 0 r)):=by
 rw[red_raw]
 simp only[loop1,tail1]
 all_goals kernel_rfl
end
theorem of_cl{P:A→Prop}{v:A→B}(hp:∀x,P x→∀k:B→Option Res,pf BIG x k=k (v x)):S (cl P v):=cl_snd (fn:=Try.f80) hmx_ (ttok _) aN ann [] [] (by kernel_rfl) (by decide) (by decide) (by kernel_rfl) fun x h e=>(red some BIG x).trans (hp x h _)
end Fz11
namespace Fz12
section
variable {α:Type} (K:Res→Option α) (fuel:Nat) (cont:Ex→St→Option α) (rec:St→Option α) (p1_0:(List Zb)) (x1:(Int×(List Int))) (a0:(List Zb))
noncomputable def E:Env:=⟨TT,small,(tabOf []),0,21⟩
def ann:Ann:=.two .nil (.two .nil (.two (.two .nil (.one (.loop [3,7,8] .nil))) .nil))
noncomputable def emb1(p1_0:(List Zb))(x1:(Int×(List Int))):St:=mkS 21 [qL 3 42,qV 7 t2_ p1_0,qI 8 .i64 x1.1] 43 [oN 42 2 (.int .i64) x1.2]
noncomputable def LB1:(St→Option α)→St→Option α:=roundV E fuel [true,true,false,true,false] (bodyOf Try.f81) ann cont
noncomputable def C1:Ex→St→Option α:=contAt E fuel [true,true,false,true,false] (bodyOf Try.f81) ann [] (finK TT 0 [none] Try.f81 [] K)
noncomputable def ex1_0(p1_0:(List Zb))(x1:(Int×(List Int))):St:=mkS 21 [qL 3 42,qV 7 t2_ p1_0,qI 8 .i64 x1.1,qB 9 (decide (x1.1<(12:Int)))] 43 [oN 42 2 (.int .i64) x1.2]
noncomputable def B1(p1_0:(List Zb))(K0:(Int×(List Int))→Option α)(rec:(Int×(List Int))→Option α)(x1:(Int×(List Int))):Option α:=
 cond (decide (x1.1<(12:Int))) (cond (inB x1.1 12) (cond (!(eqV (.st (.pair (.int .u8) (.int .i16))) (List.getD p1_0 (x1.1:Int).toNat ((0:Int),(0:Int))) ((0:Int),(0:Int)))) (cond (okL (List.length x1.2+List.length [x1.1])) (rec (((IntKind.i64.wrap (x1.1+(1:Int))),(x1.2++[x1.1])))) none) (rec (((IntKind.i64.wrap (x1.1+(1:Int))),x1.2)))) none) (K0 x1)
theorem step1:LB1 fuel cont rec (emb1 p1_0 x1)=B1 p1_0 (fun x1=>cont (.exit 0) (ex1_0 p1_0 x1)) (fun y=>rec (emb1 p1_0 y)) x1:=by kernel_rfl
theorem loop1:loopN (LB1 fuel cont) fuel (emb1 p1_0 x1)=iter (B1 p1_0 (fun x1=>cont (.exit 0) (ex1_0 p1_0 x1))) fuel x1:=loop_sim (fun rec x=>step1 ..) fuel x1
noncomputable def pf(fuel:Nat)(a0:(List Zb))(k:B→Option α):Option α:=
 iter (B1 a0 (fun (x1:(Int×(List Int)))=>k x1.2)) fuel ((0:Int),([]:List Int))
theorem tail1:C1 K fuel (.exit 0) (ex1_0 a0 x1)=((fun (k:B→Option α)=>k x1.2) (fun r=>K (enc 0 r))):=by kernel_rfl
theorem red_raw:run TT small (tabOf []) Try.f81 ann [] fuel [.val t2_ a0] K=loopN (LB1 fuel (C1 K fuel)) fuel (emb1 a0 ((0:Int),([]:List Int))):=by kernel_rfl
theorem red:run TT small (tabOf []) Try.f81 ann [] fuel [.val t2_ a0] K=pf fuel a0 (fun r=>K (enc 0 r)):=by
 rw[red_raw]
 simp only[loop1,tail1]
 all_goals kernel_rfl
end
theorem of_cl{P:A→Prop}{v:A→B}(hp:∀x,P x→∀k:B→Option Res,pf BIG x k=k (v x)):S (cl P v):=cl_snd (fn:=Try.f81) hmx_ (ttok _) aN ann [] [] (by kernel_rfl) (by decide) (by decide) (by kernel_rfl) fun x h e=>(red some BIG x).trans (hp x h _)
end Fz12
namespace Fz16
section
variable {α:Type} (g0_:Fz24.F) (g1_:Fz11.F) (g2_:Fz12.F) (K:Res→Option α) (fuel:Nat) (cont:Ex→St→Option α) (rec:St→Option α) (p1_0:Int) (p1_1 p1_2:(List Zb)) (p1_3 p1_4:(List Int)) (x1:(Int×(List Zb)×(List Zb))) (a0 a1:(List Zb)) (r1 r2:Bool) (r3 r4:(List Int))
noncomputable def tab:=tabOf [(74,Fz24.sig g0_),(80,Fz11.sig g1_),(81,Fz12.sig g2_)]
noncomputable def E:Env:=⟨TT,small,(tab g0_ g1_ g2_),0,52⟩
def ann:Ann:=.two .nil (.two .nil (.two .nil (.two (.two .nil (.one (.loop [2,3,4,5,7,8,28,29] .nil))) .nil)))
noncomputable def emb1(p1_0:Int)(p1_1 p1_2:(List Zb))(p1_3 p1_4:(List Int))(x1:(Int×(List Zb)×(List Zb))):St:=mkS 52 [qP 2 104,qP 3 105,qP 4 106,qP 5 107,qL 7 108,qL 8 109,qI 28 .i64 p1_0,qI 29 .i64 x1.1] 110 [oN 104 31 t2_ [x1.2.1],oN 105 31 t2_ [x1.2.2],oN 106 31 t2_ [p1_1],oN 107 31 t2_ [p1_2],oN 108 2 (.int .i64) p1_3,oN 109 2 (.int .i64) p1_4]
noncomputable def LB1:(St→Option α)→St→Option α:=roundV (E g0_ g1_ g2_) fuel [true,true,true,false,true,false] (bodyOf Try.f31) ann cont
noncomputable def C1:Ex→St→Option α:=contAt (E g0_ g1_ g2_) fuel [true,true,true,false,true,false] (bodyOf Try.f31) ann [] (finK TT 0 [none,none] Try.f31 [] K)
noncomputable def ex1_0(p1_0:Int)(p1_1 p1_2:(List Zb))(p1_3 p1_4:(List Int))(x1:(Int×(List Zb)×(List Zb))):St:=mkS 52 [qP 2 104,qP 3 105,qP 4 106,qP 5 107,qL 7 108,qL 8 109,qI 28 .i64 p1_0,qI 29 .i64 x1.1,qB 30 (decide (x1.1<p1_0))] 110 [oN 104 31 t2_ [x1.2.1],oN 105 31 t2_ [x1.2.2],oN 106 31 t2_ [p1_1],oN 107 31 t2_ [p1_2],oN 108 2 (.int .i64) p1_3,oN 109 2 (.int .i64) p1_4]
noncomputable def B1(p1_0:Int)(p1_1 p1_2:(List Zb))(p1_3 p1_4:(List Int))(K0:(Int×(List Zb)×(List Zb))→Option α)(rec:(Int×(List Zb)×(List Zb))→Option α)(x1:(Int×(List Zb)×(List Zb))):Option α:=
 cond (decide (x1.1<p1_0)) (cond (inB x1.1 (List.length p1_3)) (cond (inB x1.1 (List.length p1_4)) (cond (inB x1.1 (List.length p1_4)) (cond (inB (List.getD p1_4 (x1.1:Int).toNat (0:Int)) 12) (cond (inB (List.getD p1_3 (x1.1:Int).toNat (0:Int)) 12) (cond (inB (List.getD p1_4 (x1.1:Int).toNat (0:Int)) 12) (rec (((IntKind.i64.wrap (x1.1+(1:Int))),(List.set x1.2.1 (List.getD p1_3 (x1.1:Int).toNat (0:Int)).toNat (List.getD x1.2.2 (List.getD p1_4 (x1.1:Int).toNat (0:Int)).toNat ((0:Int),(0:Int)))),(List.set x1.2.2 (List.getD p1_4 (x1.1:Int).toNat (0:Int)).toNat ((0:Int),(0:Int)))))) none) none) none) none) none) none) (K0 x1)
theorem step1:LB1 g0_ g1_ g2_ fuel cont rec (emb1 p1_0 p1_1 p1_2 p1_3 p1_4 x1)=B1 p1_0 p1_1 p1_2 p1_3 p1_4 (fun x1=>cont (.exit 0) (ex1_0 p1_0 p1_1 p1_2 p1_3 p1_4 x1)) (fun y=>rec (emb1 p1_0 p1_1 p1_2 p1_3 p1_4 y)) x1:=by kernel_rfl
theorem loop1:loopN (LB1 g0_ g1_ g2_ fuel cont) fuel (emb1 p1_0 p1_1 p1_2 p1_3 p1_4 x1)=iter (B1 p1_0 p1_1 p1_2 p1_3 p1_4 (fun x1=>cont (.exit 0) (ex1_0 p1_0 p1_1 p1_2 p1_3 p1_4 x1))) fuel x1:=loop_sim (fun rec x=>step1 ..) fuel x1
noncomputable def pf(fuel:Nat)(a0 a1:(List Zb))(k:B→Option α):Option α:=
 (g0_ a0).bind fun r1=>cond (!r1) (k ((List.replicate 12 ((0:Int),(0:Int))),(List.replicate 12 ((0:Int),(0:Int))),(1:Int))) ((g0_ a1).bind fun r2=>cond (!r2) (k ((List.replicate 12 ((0:Int),(0:Int))),(List.replicate 12 ((0:Int),(0:Int))),(1:Int))) ((g1_ a0).bind fun r3=>(g2_ a1).bind fun r4=>iter (B1 ((if (((List.length r4):Nat):Int)<(((List.length r3):Nat):Int) then (((List.length r4):Nat):Int) else (((List.length r3):Nat):Int))) (List.replicate 12 ((0:Int),(0:Int))) (List.replicate 12 ((0:Int),(0:Int))) r3 r4 (fun (x1:(Int×(List Zb)×(List Zb)))=>k (x1.2.1,x1.2.2,(0:Int)))) fuel ((0:Int),a0,a1)))
theorem tail1:C1 g0_ g1_ g2_ K fuel (.exit 0) (ex1_0 ((if (((List.length r4):Nat):Int)<(((List.length r3):Nat):Int) then (((List.length r4):Nat):Int) else (((List.length r3):Nat):Int))) (List.replicate 12 ((0:Int),(0:Int))) (List.replicate 12 ((0:Int),(0:Int))) r3 r4 x1)=((fun (k:B→Option α)=>k (x1.2.1,x1.2.2,(0:Int))) (fun r=>K (enc 0 r))):=by kernel_rfl
theorem red_raw:run TT small (tab g0_ g1_ g2_) Try.f31 ann [] fuel [.val t2_ a0,.val t2_ a1] K=(g0_ a0).bind fun r1=>cond (!r1) (K ⟨[.val t2_ (List.replicate 12 ((0:Int),(0:Int))),.val t2_ (List.replicate 12 ((0:Int),(0:Int))),.val (.int .i64) (1:Int)],[]⟩) ((g0_ a1).bind fun r2=>cond (!r2) (K ⟨[.val t2_ (List.replicate 12 ((0:Int),(0:Int))),.val t2_ (List.replicate 12 ((0:Int),(0:Int))),.val (.int .i64) (1:Int)],[]⟩) ((g1_ a0).bind fun r3=>(g2_ a1).bind fun r4=>loopN (LB1 g0_ g1_ g2_ fuel (C1 g0_ g1_ g2_ K fuel)) fuel (emb1 ((if (((List.length r4):Nat):Int)<(((List.length r3):Nat):Int) then (((List.length r4):Nat):Int) else (((List.length r3):Nat):Int))) (List.replicate 12 ((0:Int),(0:Int))) (List.replicate 12 ((0:Int),(0:Int))) r3 r4 ((0:Int),a0,a1)))):=by kernel_rfl
theorem red:run TT small (tab g0_ g1_ g2_) Try.f31 ann [] fuel [.val t2_ a0,.val t2_ a1] K=pf g0_ g1_ g2_ fuel a0 a1 (fun r=>K (enc 0 r)):=by
 rw[red_raw]
 simp only[loop1,tail1]
 all_goals kernel_rfl
end
theorem of_cl{g0_ g1_ g2_}(h0_:Fz24.S g0_)(h1_:Fz11.S g1_)(h2_:Fz12.S g2_){P:A→Prop}{v:A→B}(hp:∀x,P x→∀k:B→Option Res,pf g0_ g1_ g2_ BIG x.1 x.2 k=k (v x)):S (cl P v):=cl_snd (fn:=Try.f31) hmx_ (ttok _) (aC h0_ (aC h1_ (aC h2_ aN))) ann [] [] (by kernel_rfl) (by decide) (by decide) (by kernel_rfl) fun x h e=>(red _ _ _ some BIG x.1 x.2).trans (hp x h _)
end Fz16
end Go.Proofs.Ytlipfbihlmlplaa.G
