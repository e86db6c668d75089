/- Closed facts on the translation's own head, each asked once for all rows of the seat. -/
import Derived.Test.YtlipfbihlmlplaaRows
import Derived.WalkKit
import Derived.ProofKit
namespace Go.Proofs.Ytlipfbihlmlplaa.Facts
theorem ws_split:∀(w r:List Char),(∀c∈w,c≠Char.ofNat 32)→wordsSigns (w++Char.ofNat 32::r)=w::wordsSigns r
 |[],r,_=>rfl
 |c::w,r,h=>by
  have ih:=ws_split w r (fun c hc=>h c (List.mem_cons_of_mem _ hc))
  rw[List.cons_append,wordsSigns.eq_3 _ _ (fun e=>h c (List.mem_cons_self ..) e),ih]
def w0:List Char:=[Char.ofNat 104,Char.ofNat 97,Char.ofNat 114,Char.ofNat 110,Char.ofNat 101,Char.ofNat 115,Char.ofNat 115]
def w1:List Char:=[Char.ofNat 97,Char.ofNat 48,Char.ofNat 54,Char.ofNat 53,Char.ofNat 48,Char.ofNat 53,Char.ofNat 102,Char.ofNat 102,Char.ofNat 101,Char.ofNat 101,Char.ofNat 102,Char.ofNat 56,Char.ofNat 98,Char.ofNat 100,Char.ofNat 102,Char.ofNat 98,Char.ofNat 56,Char.ofNat 49,Char.ofNat 99,Char.ofNat 52,Char.ofNat 98,Char.ofNat 101,Char.ofNat 49,Char.ofNat 48,Char.ofNat 51,Char.ofNat 50,Char.ofNat 100,Char.ofNat 53,Char.ofNat 52,Char.ofNat 49,Char.ofNat 48,Char.ofNat 98,Char.ofNat 51,Char.ofNat 48,Char.ofNat 56,Char.ofNat 101,Char.ofNat 99,Char.ofNat 54,Char.ofNat 57,Char.ofNat 98,Char.ofNat 51,Char.ofNat 48,Char.ofNat 51,Char.ofNat 100,Char.ofNat 51,Char.ofNat 98,Char.ofNat 102,Char.ofNat 50,Char.ofNat 98,Char.ofNat 53,Char.ofNat 57,Char.ofNat 57,Char.ofNat 48,Char.ofNat 48,Char.ofNat 51,Char.ofNat 102,Char.ofNat 51,Char.ofNat 52,Char.ofNat 98,Char.ofNat 51,Char.ofNat 97,Char.ofNat 55,Char.ofNat 102,Char.ofNat 102]
def w2:List Char:=[Char.ofNat 99,Char.ofNat 117,Char.ofNat 116]
def w3:List Char:=[Char.ofNat 97,Char.ofNat 116,Char.ofNat 32,Char.ofNat 108,Char.ofNat 111,Char.ofNat 111,Char.ofNat 112,Char.ofNat 46,Char.ofNat 101,Char.ofNat 120,Char.ofNat 97,Char.ofNat 109,Char.ofNat 112,Char.ofNat 108,Char.ofNat 101,Char.ofNat 47,Char.ofNat 103,Char.ofNat 48,Char.ofNat 49,Char.ofNat 51,Char.ofNat 53,Char.ofNat 51,Char.ofNat 47,Char.ofNat 108,Char.ofNat 97,Char.ofNat 119,Char.ofNat 115,Char.ofNat 46,Char.ofNat 70,Char.ofNat 110,Char.ofNat 69,Char.ofNat 120,Char.ofNat 97,Char.ofNat 99,Char.ofNat 116,Char.ofNat 83,Char.ofNat 119,Char.ofNat 97,Char.ofNat 112,Char.ofNat 115,Char.ofNat 70,Char.ofNat 111,Char.ofNat 114,Char.ofNat 32,Char.ofNat 108,Char.ofNat 111,Char.ofNat 111,Char.ofNat 112,Char.ofNat 46,Char.ofNat 101,Char.ofNat 120,Char.ofNat 97,Char.ofNat 109,Char.ofNat 112,Char.ofNat 108,Char.ofNat 101,Char.ofNat 47,Char.ofNat 103,Char.ofNat 48,Char.ofNat 49,Char.ofNat 51,Char.ofNat 53,Char.ofNat 51,Char.ofNat 47,Char.ofNat 108,Char.ofNat 97,Char.ofNat 119,Char.ofNat 115,Char.ofNat 46,Char.ofNat 70,Char.ofNat 110,Char.ofNat 80,Char.ofNat 97,Char.ofNat 99,Char.ofNat 107,Char.ofNat 101,Char.ofNat 100,Char.ofNat 32,Char.ofNat 108,Char.ofNat 111,Char.ofNat 111,Char.ofNat 112,Char.ofNat 46,Char.ofNat 101,Char.ofNat 120,Char.ofNat 97,Char.ofNat 109,Char.ofNat 112,Char.ofNat 108,Char.ofNat 101,Char.ofNat 47,Char.ofNat 103,Char.ofNat 48,Char.ofNat 49,Char.ofNat 51,Char.ofNat 53,Char.ofNat 51,Char.ofNat 47,Char.ofNat 108,Char.ofNat 97,Char.ofNat 119,Char.ofNat 115,Char.ofNat 46,Char.ofNat 70,Char.ofNat 110,Char.ofNat 77,Char.ofNat 111,Char.ofNat 118,Char.ofNat 101,Char.ofNat 100,Char.ofNat 32,Char.ofNat 108,Char.ofNat 111,Char.ofNat 111,Char.ofNat 112,Char.ofNat 46,Char.ofNat 101,Char.ofNat 120,Char.ofNat 97,Char.ofNat 109,Char.ofNat 112,Char.ofNat 108,Char.ofNat 101,Char.ofNat 47,Char.ofNat 103,Char.ofNat 48,Char.ofNat 49,Char.ofNat 51,Char.ofNat 53,Char.ofNat 51,Char.ofNat 47,Char.ofNat 108,Char.ofNat 97,Char.ofNat 119,Char.ofNat 115,Char.ofNat 46,Char.ofNat 70,Char.ofNat 110,Char.ofNat 76,Char.ofNat 97,Char.ofNat 98,Char.ofNat 101,Char.ofNat 108,Char.ofNat 115]
set_option maxRecDepth 100000 in
theorem headIs:Try.pinned.checked.prog.initOrder=String.ofList (w0++Char.ofNat 32::(w1++Char.ofNat 32::(w2++Char.ofNat 32::w3))):=by kernel_rfl
theorem headList:Try.pinned.checked.prog.initOrder.toList=w0++Char.ofNat 32::(w1++Char.ofNat 32::(w2++Char.ofNat 32::w3)):=(congrArg String.toList headIs).trans (String.toList_ofList)
theorem no0:∀c∈w0,c≠Char.ofNat 32:=by decide
theorem no1:∀c∈w1,c≠Char.ofNat 32:=by decide +kernel
theorem no2:∀c∈w2,c≠Char.ofNat 32:=by decide
theorem is1: ((w0 == "harness".toList || w0 == "ownmain".toList) && isSumSigns w1) = true := by kernel_rfl
theorem behind:behindMainWord (wordsSigns Try.pinned.checked.prog.initOrder.toList)=w2::wordsSigns w3:=by
 rw[headList,ws_split _ _ no0,ws_split _ _ no1,ws_split _ _ no2]
 unfold behindMainWord
 exact if_pos is1
theorem strip(r:List (List Char)):stripLifts liftWords (w2::r)=([],w2::r):=by kernel_rfl
theorem make_of(Q:Program)(r:List (List Char))(h:behindMainWord (wordsSigns Q.initOrder.toList)=w2::r):Q.make=some .cut:=by
 unfold Program.make
 rw[h]
 generalize Q.headLifts=l
 kernel_rfl
theorem lifts_of(Q:Program)(r:List (List Char))(h:behindMainWord (wordsSigns Q.initOrder.toList)=w2::r):Q.headLifts=[]:=by
 unfold Program.headLifts
 rw[h,strip]
 kernel_rfl
theorem lifted_of(Q:Program)(r:List (List Char))(h:behindMainWord (wordsSigns Q.initOrder.toList)=w2::r):Q.liftsFinal=false:=by
 unfold Program.liftsFinal
 rw[h,lifts_of Q r h]
 kernel_rfl
theorem mayEnter_of(Q:Program)(r:List (List Char))(h:behindMainWord (wordsSigns Q.initOrder.toList)=w2::r)(hl:Q.laysLater=false)(hb:Q.bearsReflect=false)(hd:Q.doorFits []=true):Q.mayEnter=true:=by
 unfold Program.mayEnter
 rw[h,hl,hb]
 simp only[strip,hd]
 kernel_rfl
theorem mayEnter:Try.pinned.checked.prog.mayEnter=true:=mayEnter_of _ _ behind (by kernel_rfl) (by kernel_rfl) (by kernel_rfl)
theorem lifted:Try.pinned.checked.prog.liftsFinal=false:=lifted_of _ _ behind
theorem make:Try.pinned.checked.prog.make=some .cut:=make_of _ _ behind
theorem shape{X m l k K L M N:Bool}(hX:X=true)(hm:m=true)(hl:l=true)(hk:k=true)(hK:K=true)(hL:L=true)(hM:M=true)(hN:N=true):(((((((X&&m)&&l)&&k)&&K)&&L)&&M)&&N)=true:=by
 rw[hX,hm,hl,hk,hK,hL,hM,hN];rfl
end Go.Proofs.Ytlipfbihlmlplaa.Facts
