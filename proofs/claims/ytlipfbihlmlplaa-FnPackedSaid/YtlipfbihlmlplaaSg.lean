import Derived.Test.YtlipfbihlmlplaaGTT
namespace Go.Proofs.Ytlipfbihlmlplaa.G
open Go Go.Proofs
set_option linter.unusedVariables false
set_option linter.unusedSimpArgs false
set_option maxRecDepth 100000
abbrev Zb:Type:=Int×Int
abbrev Zs:Type:=Zb×Int
noncomputable abbrev Pg_:Program:=Try.pinned.checked.prog
theorem hmx_:Pg_.follows .mixedOrders=true:=by kernel_rfl
abbrev t1_:Ty:=.st (.pair (.int .u8) (.int .i16))
abbrev t2_:Ty:=.arr 12 t1_
abbrev t3_:Ty:=.st (.pair (.int .i8) (.int .i8))
abbrev t4_:Ty:=.row 73 t3_
abbrev t7_:Ty:=.st (.pair t1_ (.int .i64))
namespace Fz34
abbrev A:Type:=(List Int)
abbrev B:Type:=Bool
abbrev F:=A→Option B
def c:Cod A:=c1 (.r (.int .u8))
def enc(e:TypeId)(r:B):Res:=⟨[.val .bool r],[]⟩
noncomputable def sig(f:F):Sig:=mkSig [] c.dec f (fun avs r=>enc 0 r)
abbrev S(f:F):Prop:=Sound Pg_ 13 (sig f)
end Fz34
namespace Fz49
abbrev A:Type:=(List Int)
abbrev B:Type:=(List (List Zb))
abbrev F:=A→Option B
def c:Cod A:=c1 (.r (.int .u8))
abbrev dec:=c.dec
theorem dec_eq{avs:List AV}{x:A}(h:c.dec avs=some x):∃e0,avs=[.obj false ⟨e0,(.int .u8),x⟩]:=(c.ok _ _ h).elim fun e q=>⟨e 0,q⟩
def enc(e:TypeId)(r:B):Res:=⟨[.own ⟨31,t2_,r⟩],[]⟩
noncomputable def sig(f:F):Sig:=mkSig [] c.dec f (fun avs r=>enc 0 r)
abbrev S(f:F):Prop:=Sound Pg_ 14 (sig f)
end Fz49
namespace Fz32
abbrev A:Type:=(Int×Int×Int)
abbrev B:Type:=Bool
abbrev F:=A→Option B
def c:Cod A:=cC (.v (.int .i64)) (cC (.v (.int .i64)) (c1 (.v (.int .i64))))
def enc(e:TypeId)(r:B):Res:=⟨[.val .bool r],[]⟩
noncomputable def sig(f:F):Sig:=mkSig [] c.dec f (fun avs r=>enc 0 r)
abbrev S(f:F):Prop:=Sound Pg_ 78 (sig f)
end Fz32
namespace Fz23
abbrev A:Type:=Zb
abbrev B:Type:=Bool
abbrev F:=A→Option B
def c:Cod A:=c1 (.v t1_)
def enc(e:TypeId)(r:B):Res:=⟨[.val .bool r],[]⟩
noncomputable def sig(f:F):Sig:=mkSig [] c.dec f (fun avs r=>enc 0 r)
abbrev S(f:F):Prop:=Sound Pg_ 75 (sig f)
end Fz23
namespace Fz25
abbrev A:Type:=Zb
abbrev B:Type:=Bool
abbrev F:=A→Option B
def c:Cod A:=c1 (.v t1_)
def enc(e:TypeId)(r:B):Res:=⟨[.val .bool r],[]⟩
noncomputable def sig(f:F):Sig:=mkSig [] c.dec f (fun avs r=>enc 0 r)
abbrev S(f:F):Prop:=Sound Pg_ 114 (sig f)
end Fz25
namespace Fz42
abbrev A:Type:=(List Zb)
abbrev B:Type:=Int
abbrev F:=A→Option B
def c:Cod A:=cL (.r t1_) (cF 114 cE)
def enc(e:TypeId)(r:B):Res:=⟨[.val (.int .i64) r],[]⟩
noncomputable def sig(f:F):Sig:=mkSig [] c.dec f (fun avs r=>enc 0 r)
abbrev S(f:F):Prop:=Sound Pg_ 127 (sig f)
end Fz42
namespace Fz37
abbrev A:Type:=(List Zb)
abbrev B:Type:=Bool
abbrev F:=A→Option B
def c:Cod A:=cL (.r t1_) (cF 114 cE)
def enc(e:TypeId)(r:B):Res:=⟨[.val .bool r],[]⟩
noncomputable def sig(f:F):Sig:=mkSig [] c.dec f (fun avs r=>enc 0 r)
abbrev S(f:F):Prop:=Sound Pg_ 103 (sig f)
end Fz37
namespace Fz24
abbrev A:Type:=(List Zb)
abbrev B:Type:=Bool
abbrev F:=A→Option B
def c:Cod A:=c1 (.v t2_)
def enc(e:TypeId)(r:B):Res:=⟨[.val .bool r],[]⟩
noncomputable def sig(f:F):Sig:=mkSig [] c.dec f (fun avs r=>enc 0 r)
abbrev S(f:F):Prop:=Sound Pg_ 74 (sig f)
end Fz24
namespace Fz27
abbrev A:Type:=(List Zb)
abbrev B:Type:=Bool
abbrev F:=A→Option B
def c:Cod A:=c1 (.v t2_)
def enc(e:TypeId)(r:B):Res:=⟨[.val .bool r],[]⟩
noncomputable def sig(f:F):Sig:=mkSig [] c.dec f (fun avs r=>enc 0 r)
abbrev S(f:F):Prop:=Sound Pg_ 73 (sig f)
end Fz27
namespace Fz43
abbrev A:Type:=(List (List Zb))
abbrev B:Type:=Int
abbrev F:=A→Option B
def c:Cod A:=cL (.r t2_) (cF 73 cE)
def enc(e:TypeId)(r:B):Res:=⟨[.val (.int .i64) r],[]⟩
noncomputable def sig(f:F):Sig:=mkSig [] c.dec f (fun avs r=>enc 0 r)
abbrev S(f:F):Prop:=Sound Pg_ 113 (sig f)
end Fz43
namespace Fz38
abbrev A:Type:=(List (List Zb))
abbrev B:Type:=Bool
abbrev F:=A→Option B
def c:Cod A:=cL (.r t2_) (cF 73 cE)
def enc(e:TypeId)(r:B):Res:=⟨[.val .bool r],[]⟩
noncomputable def sig(f:F):Sig:=mkSig [] c.dec f (fun avs r=>enc 0 r)
abbrev S(f:F):Prop:=Sound Pg_ 72 (sig f)
end Fz38
namespace Fz26
abbrev A:Type:=(List (List Zb))
abbrev B:Type:=Bool
abbrev F:=A→Option B
def c:Cod A:=c1 (.r t2_)
def enc(e:TypeId)(r:B):Res:=⟨[.val .bool r],[]⟩
noncomputable def sig(f:F):Sig:=mkSig [] c.dec f (fun avs r=>enc 0 r)
abbrev S(f:F):Prop:=Sound Pg_ 21 (sig f)
end Fz26
namespace Fz35
abbrev A:Type:=(List Zb)
abbrev B:Type:=(List Zb)
abbrev F:=A→Option B
def c:Cod A:=c1 (.r t1_)
def enc(e:TypeId)(r:B):Res:=⟨[.own ⟨29,t1_,r⟩],[]⟩
noncomputable def sig(f:F):Sig:=mkSig [] c.dec f (fun avs r=>enc 0 r)
abbrev S(f:F):Prop:=Sound Pg_ 98 (sig f)
end Fz35
namespace Fz10
abbrev A:Type:=Zb
abbrev B:Type:=Bool
abbrev F:=A→Option B
def c:Cod A:=c1 (.v t1_)
def enc(e:TypeId)(r:B):Res:=⟨[.val .bool r],[]⟩
noncomputable def sig(f:F):Sig:=mkSig [] c.dec f (fun avs r=>enc 0 r)
abbrev S(f:F):Prop:=Sound Pg_ 120 (sig f)
end Fz10
namespace Fz41
abbrev A:Type:=(List Zb)
abbrev B:Type:=Int
abbrev F:=A→Option B
def c:Cod A:=cL (.r t1_) (cF 120 cE)
def enc(e:TypeId)(r:B):Res:=⟨[.val (.int .i64) r],[]⟩
noncomputable def sig(f:F):Sig:=mkSig [] c.dec f (fun avs r=>enc 0 r)
abbrev S(f:F):Prop:=Sound Pg_ 127 (sig f)
end Fz41
namespace Fz39
abbrev A:Type:=(List Zb)
abbrev B:Type:=((Option (Nat×Nat))×(List Zb))
abbrev F:=A→Option B
def c:Cod A:=cL (.r t1_) (cF 120 cE)
def enc(e:TypeId)(r:B):Res:=⟨[.al 0 r.1],[⟨e,t1_,r.2⟩]⟩
noncomputable def sig(f:F):Sig:=mkSig [0] c.dec f (fun avs r=>enc (avs.getD 0 (.val .bool false)).elem r)
abbrev S(f:F):Prop:=Sound Pg_ 97 (sig f)
end Fz39
namespace Fz9
abbrev A:Type:=(List Zb)
abbrev B:Type:=(List Zb)
abbrev F:=A→Option B
def c:Cod A:=c1 (.v t2_)
def enc(e:TypeId)(r:B):Res:=⟨[.own ⟨29,t1_,r⟩],[]⟩
noncomputable def sig(f:F):Sig:=mkSig [] c.dec f (fun avs r=>enc 0 r)
abbrev S(f:F):Prop:=Sound Pg_ 85 (sig f)
end Fz9
namespace Fz44
abbrev A:Type:=(List Zb)
abbrev B:Type:=(List Zb)
abbrev F:=A→Option B
def c:Cod A:=cL (.r t1_) (cF 77 cE)
abbrev dec:=c.dec
theorem dec_eq{avs:List AV}{x:A}(h:c.dec avs=some x):∃e0,avs=[.obj false ⟨e0,t1_,x⟩,.fn 77 []]:=(c.ok _ _ h).elim fun e q=>⟨e 0,q⟩
def enc(e:TypeId)(r:B):Res:=⟨[],[⟨e,t1_,r⟩]⟩
noncomputable def sig(f:F):Sig:=mkSig [0] c.dec f (fun avs r=>enc (avs.getD 0 (.val .bool false)).elem r)
abbrev S(f:F):Prop:=Sound Pg_ 112 (sig f)
end Fz44
namespace Fz28
abbrev A:Type:=(List (List Zb))
abbrev B:Type:=(List Zb)
abbrev F:=A→Option B
def c:Cod A:=c1 (.r t2_)
def enc(e:TypeId)(r:B):Res:=⟨[.own ⟨29,t1_,r⟩],[]⟩
noncomputable def sig(f:F):Sig:=mkSig [] c.dec f (fun avs r=>enc 0 r)
abbrev S(f:F):Prop:=Sound Pg_ 66 (sig f)
end Fz28
namespace Fz31
abbrev A:Type:=(List Zb)
abbrev B:Type:=(List (List Zb))
abbrev F:=A→Option B
def c:Cod A:=c1 (.r t1_)
def enc(e:TypeId)(r:B):Res:=⟨[.own ⟨31,t2_,r⟩],[]⟩
noncomputable def sig(f:F):Sig:=mkSig [] c.dec f (fun avs r=>enc 0 r)
abbrev S(f:F):Prop:=Sound Pg_ 65 (sig f)
end Fz31
namespace Fz20
abbrev A:Type:=(List (List Zb))
abbrev B:Type:=((List (List Zb))×Int)
abbrev F:=A→Option B
def c:Cod A:=c1 (.r t2_)
def enc(e:TypeId)(r:B):Res:=⟨[.own ⟨31,t2_,r.1⟩,.val (.int .i64) r.2],[]⟩
noncomputable def sig(f:F):Sig:=mkSig [] c.dec f (fun avs r=>enc 0 r)
abbrev S(f:F):Prop:=Sound Pg_ 15 (sig f)
end Fz20
namespace Fz59
abbrev A:Type:=Zb
abbrev B:Type:=Bool
abbrev F:=A→Option B
def c:Cod A:=c1 (.v t1_)
def enc(e:TypeId)(r:B):Res:=⟨[.val .bool r],[]⟩
noncomputable def sig(f:F):Sig:=mkSig [] c.dec f (fun avs r=>enc 0 r)
abbrev S(f:F):Prop:=Sound Pg_ 118 (sig f)
end Fz59
namespace Fz54
abbrev A:Type:=(Int×Int×Int)
abbrev B:Type:=Bool
abbrev F:=A→Option B
def c:Cod A:=cC (.v (.int .i64)) (cC (.v (.int .i64)) (c1 (.v (.int .i64))))
def enc(e:TypeId)(r:B):Res:=⟨[.val .bool r],[]⟩
noncomputable def sig(f:F):Sig:=mkSig [] c.dec f (fun avs r=>enc 0 r)
abbrev S(f:F):Prop:=Sound Pg_ 140 (sig f)
end Fz54
namespace Fz56
abbrev A:Type:=Zb
abbrev B:Type:=Bool
abbrev F:=A→Option B
def c:Cod A:=c1 (.v t1_)
def enc(e:TypeId)(r:B):Res:=⟨[.val .bool r],[]⟩
noncomputable def sig(f:F):Sig:=mkSig [] c.dec f (fun avs r=>enc 0 r)
abbrev S(f:F):Prop:=Sound Pg_ 119 (sig f)
end Fz56
namespace Fz60
abbrev A:Type:=(List Zb)
abbrev B:Type:=Bool
abbrev F:=A→Option B
def c:Cod A:=c1 (.p t2_)
def enc(e:TypeId)(r:B):Res:=⟨[.val .bool r],[]⟩
noncomputable def sig(f:F):Sig:=mkSig [] c.dec f (fun avs r=>enc 0 r)
abbrev S(f:F):Prop:=Sound Pg_ 82 (sig f)
end Fz60
namespace Fz63
abbrev A:Type:=(List (List Zb))
abbrev B:Type:=Bool
abbrev F:=A→Option B
def c:Cod A:=c1 (.r t2_)
def enc(e:TypeId)(r:B):Res:=⟨[.val .bool r],[]⟩
noncomputable def sig(f:F):Sig:=mkSig [] c.dec f (fun avs r=>enc 0 r)
abbrev S(f:F):Prop:=Sound Pg_ 67 (sig f)
end Fz63
namespace Fz55
abbrev A:Type:=(List Zb)
abbrev B:Type:=(List Zb)
abbrev F:=A→Option B
def c:Cod A:=c1 (.p t2_)
def enc(e:TypeId)(r:B):Res:=⟨[.own ⟨29,t1_,r⟩],[]⟩
noncomputable def sig(f:F):Sig:=mkSig [] c.dec f (fun avs r=>enc 0 r)
abbrev S(f:F):Prop:=Sound Pg_ 102 (sig f)
end Fz55
namespace Fz45
abbrev A:Type:=(Zb×Zb)
abbrev B:Type:=Int
abbrev F:=A→Option B
def c:Cod A:=cC (.v t1_) (c1 (.v t1_))
def enc(e:TypeId)(r:B):Res:=⟨[.val (.int .i64) r],[]⟩
noncomputable def sig(f:F):Sig:=mkSig [] c.dec f (fun avs r=>enc 0 r)
abbrev S(f:F):Prop:=Sound Pg_ 129 (sig f)
end Fz45
namespace Fz62
abbrev A:Type:=(List Zb)
abbrev B:Type:=(List Zb)
abbrev F:=A→Option B
def c:Cod A:=c1 (.r t1_)
def enc(e:TypeId)(r:B):Res:=⟨[.own ⟨29,t1_,r⟩],[]⟩
noncomputable def sig(f:F):Sig:=mkSig [] c.dec f (fun avs r=>enc 0 r)
abbrev S(f:F):Prop:=Sound Pg_ 101 (sig f)
end Fz62
namespace Fz65
abbrev A:Type:=(List (List Zb))
abbrev B:Type:=(List Zb)
abbrev F:=A→Option B
def c:Cod A:=c1 (.r t2_)
def enc(e:TypeId)(r:B):Res:=⟨[.own ⟨29,t1_,r⟩],[]⟩
noncomputable def sig(f:F):Sig:=mkSig [] c.dec f (fun avs r=>enc 0 r)
abbrev S(f:F):Prop:=Sound Pg_ 69 (sig f)
end Fz65
namespace Fz61
abbrev A:Type:=(List Zb)
abbrev B:Type:=(List (List Zb))
abbrev F:=A→Option B
def c:Cod A:=c1 (.r t1_)
def enc(e:TypeId)(r:B):Res:=⟨[.own ⟨31,t2_,r⟩],[]⟩
noncomputable def sig(f:F):Sig:=mkSig [] c.dec f (fun avs r=>enc 0 r)
abbrev S(f:F):Prop:=Sound Pg_ 68 (sig f)
end Fz61
namespace Fz50
abbrev A:Type:=(List (List Zb))
abbrev B:Type:=((List (List Zb))×Int)
abbrev F:=A→Option B
def c:Cod A:=c1 (.r t2_)
def enc(e:TypeId)(r:B):Res:=⟨[.own ⟨31,t2_,r.1⟩,.val (.int .i64) r.2],[]⟩
noncomputable def sig(f:F):Sig:=mkSig [] c.dec f (fun avs r=>enc 0 r)
abbrev S(f:F):Prop:=Sound Pg_ 16 (sig f)
end Fz50
namespace Fz8
abbrev A:Type:=(List (List Zb))
abbrev B:Type:=((List Zs)×Int)
abbrev F:=A→Option B
def c:Cod A:=c1 (.r t2_)
def enc(e:TypeId)(r:B):Res:=⟨[.own ⟨51,t7_,r.1⟩,.val (.int .i64) r.2],[]⟩
noncomputable def sig(f:F):Sig:=mkSig [] c.dec f (fun avs r=>enc 0 r)
abbrev S(f:F):Prop:=Sound Pg_ 17 (sig f)
end Fz8
namespace Fz57
abbrev A:Type:=(List Zb)
abbrev B:Type:=(List Zs)
abbrev F:=A→Option B
def c:Cod A:=c1 (.r t1_)
def enc(e:TypeId)(r:B):Res:=⟨[.own ⟨51,t7_,r⟩],[]⟩
noncomputable def sig(f:F):Sig:=mkSig [] c.dec f (fun avs r=>enc 0 r)
abbrev S(f:F):Prop:=Sound Pg_ 70 (sig f)
end Fz57
namespace Fz46
abbrev A:Type:=(List (List Zb))
abbrev B:Type:=((List Zs)×Int)
abbrev F:=A→Option B
def c:Cod A:=c1 (.r t2_)
def enc(e:TypeId)(r:B):Res:=⟨[.own ⟨51,t7_,r.1⟩,.val (.int .i64) r.2],[]⟩
noncomputable def sig(f:F):Sig:=mkSig [] c.dec f (fun avs r=>enc 0 r)
abbrev S(f:F):Prop:=Sound Pg_ 18 (sig f)
end Fz46
namespace Fz53
abbrev A:Type:=((List (List Zb))×(List (List Zb)))
abbrev B:Type:=Bool
abbrev F:=A→Option B
def c:Cod A:=cC (.r t2_) (c1 (.r t2_))
def enc(e:TypeId)(r:B):Res:=⟨[.val .bool r],[]⟩
noncomputable def sig(f:F):Sig:=mkSig [] c.dec f (fun avs r=>enc 0 r)
abbrev S(f:F):Prop:=Sound Pg_ 19 (sig f)
end Fz53
namespace Fz40
abbrev A:Type:=((List (List Zb))×(List (List Zb)))
abbrev B:Type:=Bool
abbrev F:=A→Option B
def c:Cod A:=cC (.r t2_) (c1 (.r t2_))
def enc(e:TypeId)(r:B):Res:=⟨[.val .bool r],[]⟩
noncomputable def sig(f:F):Sig:=mkSig [] c.dec f (fun avs r=>enc 0 r)
abbrev S(f:F):Prop:=Sound Pg_ 71 (sig f)
end Fz40
namespace Fz22
abbrev A:Type:=((List (List Zb))×(List (List Zb)))
abbrev B:Type:=Bool
abbrev F:=A→Option B
def c:Cod A:=cC (.r t2_) (c1 (.r t2_))
def enc(e:TypeId)(r:B):Res:=⟨[.val .bool r],[]⟩
noncomputable def sig(f:F):Sig:=mkSig [] c.dec f (fun avs r=>enc 0 r)
abbrev S(f:F):Prop:=Sound Pg_ 20 (sig f)
end Fz22
namespace Fz52
abbrev A:Type:=((List Zs)×(List Zs))
abbrev B:Type:=Bool
abbrev F:=A→Option B
def c:Cod A:=cC (.r t7_) (c1 (.r t7_))
def enc(e:TypeId)(r:B):Res:=⟨[.val .bool r],[]⟩
noncomputable def sig(f:F):Sig:=mkSig [] c.dec f (fun avs r=>enc 0 r)
abbrev S(f:F):Prop:=Sound Pg_ 22 (sig f)
end Fz52
namespace Fz30
abbrev A:Type:=((List (List Zb))×Zb)
abbrev B:Type:=Int
abbrev F:=A→Option B
def c:Cod A:=cC (.r t2_) (c1 (.v t1_))
def enc(e:TypeId)(r:B):Res:=⟨[.val (.int .i64) r],[]⟩
noncomputable def sig(f:F):Sig:=mkSig [] c.dec f (fun avs r=>enc 0 r)
abbrev S(f:F):Prop:=Sound Pg_ 76 (sig f)
end Fz30
namespace Fz7
abbrev A:Type:=((List (List Zb))×Zb)
abbrev B:Type:=Zb
abbrev F:=A→Option B
def c:Cod A:=cC (.r t2_) (c1 (.v t1_))
def enc(e:TypeId)(r:B):Res:=⟨[.val (.int .i64) r.1,.val (.int .i64) r.2],[]⟩
noncomputable def sig(f:F):Sig:=mkSig [] c.dec f (fun avs r=>enc 0 r)
abbrev S(f:F):Prop:=Sound Pg_ 23 (sig f)
end Fz7
namespace Fz4
abbrev A:Type:=Int
abbrev B:Type:=Bool
abbrev F:=A→Option B
def c:Cod A:=c1 (.v (.int .u8))
def enc(e:TypeId)(r:B):Res:=⟨[.val .bool r],[]⟩
noncomputable def sig(f:F):Sig:=mkSig [] c.dec f (fun avs r=>enc 0 r)
abbrev S(f:F):Prop:=Sound Pg_ 138 (sig f)
end Fz4
namespace Fz1
abbrev A:Type:=Zb
abbrev B:Type:=Int
abbrev F:=A→Option B
def c:Cod A:=cC (.v (.int .u8)) (c1 (.v (.int .u8)))
def enc(e:TypeId)(r:B):Res:=⟨[.val (.int .i64) r],[]⟩
noncomputable def sig(f:F):Sig:=mkSig [] c.dec f (fun avs r=>enc 0 r)
abbrev S(f:F):Prop:=Sound Pg_ 116 (sig f)
end Fz1
namespace Fz3
abbrev A:Type:=Int
abbrev B:Type:=Bool
abbrev F:=A→Option B
def c:Cod A:=c1 (.v (.int .i16))
def enc(e:TypeId)(r:B):Res:=⟨[.val .bool r],[]⟩
noncomputable def sig(f:F):Sig:=mkSig [] c.dec f (fun avs r=>enc 0 r)
abbrev S(f:F):Prop:=Sound Pg_ 139 (sig f)
end Fz3
namespace Fz0
abbrev A:Type:=Zb
abbrev B:Type:=Int
abbrev F:=A→Option B
def c:Cod A:=cC (.v (.int .i16)) (c1 (.v (.int .i16)))
def enc(e:TypeId)(r:B):Res:=⟨[.val (.int .i64) r],[]⟩
noncomputable def sig(f:F):Sig:=mkSig [] c.dec f (fun avs r=>enc 0 r)
abbrev S(f:F):Prop:=Sound Pg_ 117 (sig f)
end Fz0
namespace Fz2
abbrev A:Type:=(List Int)
abbrev B:Type:=Int
abbrev F:=A→Option B
def c:Cod A:=c1 (.r (.int .i64))
def enc(e:TypeId)(r:B):Res:=⟨[.val (.int .i64) r],[]⟩
noncomputable def sig(f:F):Sig:=mkSig [] c.dec f (fun avs r=>enc 0 r)
abbrev S(f:F):Prop:=Sound Pg_ 115 (sig f)
end Fz2
namespace Fz29
abbrev A:Type:=(Zb×Zb)
abbrev B:Type:=Int
abbrev F:=A→Option B
def c:Cod A:=cC (.v t1_) (c1 (.v t1_))
def enc(e:TypeId)(r:B):Res:=⟨[.val (.int .i64) r],[]⟩
noncomputable def sig(f:F):Sig:=mkSig [] c.dec f (fun avs r=>enc 0 r)
abbrev S(f:F):Prop:=Sound Pg_ 77 (sig f)
end Fz29
namespace Fz6
abbrev A:Type:=(Zb×Zb)
abbrev B:Type:=Int
abbrev F:=A→Option B
def c:Cod A:=cC (.v t1_) (c1 (.v t1_))
def enc(e:TypeId)(r:B):Res:=⟨[.val (.int .i64) r],[]⟩
noncomputable def sig(f:F):Sig:=mkSig [] c.dec f (fun avs r=>enc 0 r)
abbrev S(f:F):Prop:=Sound Pg_ 24 (sig f)
end Fz6
namespace Fz15
abbrev A:Type:=Int
abbrev B:Type:=Zb
abbrev F:=A→Option B
def c:Cod A:=c1 (.v (.int .i64))
def enc(e:TypeId)(r:B):Res:=⟨[.val (.int .i64) r.1,.val (.int .i64) r.2],[]⟩
noncomputable def sig(f:F):Sig:=mkSig [] c.dec f (fun avs r=>enc 0 r)
abbrev S(f:F):Prop:=Sound Pg_ 25 (sig f)
end Fz15
namespace Fz18
abbrev A:Type:=Int
abbrev B:Type:=(Int×Int×Int×Int)
abbrev F:=A→Option B
def c:Cod A:=c1 (.v (.int .i64))
def enc(e:TypeId)(r:B):Res:=⟨[.val (.int .i64) r.1,.val (.int .i64) r.2.1,.val (.int .i64) r.2.2.1,.val (.int .i64) r.2.2.2],[]⟩
noncomputable def sig(f:F):Sig:=mkSig [] c.dec f (fun avs r=>enc 0 r)
abbrev S(f:F):Prop:=Sound Pg_ 26 (sig f)
end Fz18
namespace Fz14
abbrev A:Type:=(List Zb)
abbrev B:Type:=(List Zb)
abbrev F:=A→Option B
def c:Cod A:=c1 (.v t2_)
def enc(e:TypeId)(r:B):Res:=⟨[.own ⟨29,t1_,r⟩],[]⟩
noncomputable def sig(f:F):Sig:=mkSig [] c.dec f (fun avs r=>enc 0 r)
abbrev S(f:F):Prop:=Sound Pg_ 87 (sig f)
end Fz14
namespace Fz36
abbrev A:Type:=(List Zb)
abbrev B:Type:=((Option (Nat×Nat))×(List Zb))
abbrev F:=A→Option B
def c:Cod A:=c1 (.r t1_)
def enc(e:TypeId)(r:B):Res:=⟨[.al 0 r.1],[⟨e,t1_,r.2⟩]⟩
noncomputable def sig(f:F):Sig:=mkSig [0] c.dec f (fun avs r=>enc (avs.getD 0 (.val .bool false)).elem r)
abbrev S(f:F):Prop:=Sound Pg_ 95 (sig f)
end Fz36
namespace Fz13
abbrev A:Type:=(List Zb)
abbrev B:Type:=Bool
abbrev F:=A→Option B
def c:Cod A:=c1 (.v t2_)
def enc(e:TypeId)(r:B):Res:=⟨[.val .bool r],[]⟩
noncomputable def sig(f:F):Sig:=mkSig [] c.dec f (fun avs r=>enc 0 r)
abbrev S(f:F):Prop:=Sound Pg_ 79 (sig f)
end Fz13
namespace Fz19
abbrev A:Type:=(List (List Zb))
abbrev B:Type:=Zb
abbrev F:=A→Option B
def c:Cod A:=c1 (.r t2_)
def enc(e:TypeId)(r:B):Res:=⟨[.val (.int .i64) r.1,.val (.int .i64) r.2],[]⟩
noncomputable def sig(f:F):Sig:=mkSig [] c.dec f (fun avs r=>enc 0 r)
abbrev S(f:F):Prop:=Sound Pg_ 27 (sig f)
end Fz19
namespace Fz21
abbrev A:Type:=(List (List Zb))
abbrev B:Type:=((List (List Zb))×Int)
abbrev F:=A→Option B
def c:Cod A:=c1 (.r t2_)
def enc(e:TypeId)(r:B):Res:=⟨[.own ⟨31,t2_,r.1⟩,.val (.int .i64) r.2],[]⟩
noncomputable def sig(f:F):Sig:=mkSig [] c.dec f (fun avs r=>enc 0 r)
abbrev S(f:F):Prop:=Sound Pg_ 28 (sig f)
end Fz21
namespace Fz51
abbrev A:Type:=(List (List Zb))
abbrev B:Type:=((List (List Zb))×Int)
abbrev F:=A→Option B
def c:Cod A:=c1 (.r t2_)
def enc(e:TypeId)(r:B):Res:=⟨[.own ⟨31,t2_,r.1⟩,.val (.int .i64) r.2],[]⟩
noncomputable def sig(f:F):Sig:=mkSig [] c.dec f (fun avs r=>enc 0 r)
abbrev S(f:F):Prop:=Sound Pg_ 29 (sig f)
end Fz51
namespace Fz48
abbrev A:Type:=(List Int)
abbrev B:Type:=(List Zb)
abbrev F:=A→Option B
def c:Cod A:=c1 (.r (.int .u8))
abbrev dec:=c.dec
theorem dec_eq{avs:List AV}{x:A}(h:c.dec avs=some x):∃e0,avs=[.obj false ⟨e0,(.int .u8),x⟩]:=(c.ok _ _ h).elim fun e q=>⟨e 0,q⟩
def enc(e:TypeId)(r:B):Res:=⟨[.val t2_ r],[]⟩
noncomputable def sig(f:F):Sig:=mkSig [] c.dec f (fun avs r=>enc 0 r)
abbrev S(f:F):Prop:=Sound Pg_ 30 (sig f)
end Fz48
namespace Fz11
abbrev A:Type:=(List Zb)
abbrev B:Type:=(List Int)
abbrev F:=A→Option B
def c:Cod A:=c1 (.v t2_)
def enc(e:TypeId)(r:B):Res:=⟨[.own ⟨2,(.int .i64),r⟩],[]⟩
noncomputable def sig(f:F):Sig:=mkSig [] c.dec f (fun avs r=>enc 0 r)
abbrev S(f:F):Prop:=Sound Pg_ 80 (sig f)
end Fz11
namespace Fz12
abbrev A:Type:=(List Zb)
abbrev B:Type:=(List Int)
abbrev F:=A→Option B
def c:Cod A:=c1 (.v t2_)
def enc(e:TypeId)(r:B):Res:=⟨[.own ⟨2,(.int .i64),r⟩],[]⟩
noncomputable def sig(f:F):Sig:=mkSig [] c.dec f (fun avs r=>enc 0 r)
abbrev S(f:F):Prop:=Sound Pg_ 81 (sig f)
end Fz12
namespace Fz16
abbrev A:Type:=((List Zb)×(List Zb))
abbrev B:Type:=((List Zb)×(List Zb)×Int)
abbrev F:=A→Option B
def c:Cod A:=cC (.v t2_) (c1 (.v t2_))
def enc(e:TypeId)(r:B):Res:=⟨[.val t2_ r.1,.val t2_ r.2.1,.val (.int .i64) r.2.2],[]⟩
noncomputable def sig(f:F):Sig:=mkSig [] c.dec f (fun avs r=>enc 0 r)
abbrev S(f:F):Prop:=Sound Pg_ 31 (sig f)
end Fz16
namespace Fz58
abbrev A:Type:=(List Zb)
abbrev B:Type:=(List Int)
abbrev F:=A→Option B
def c:Cod A:=c1 (.p t2_)
def enc(e:TypeId)(r:B):Res:=⟨[.own ⟨2,(.int .i64),r⟩],[]⟩
noncomputable def sig(f:F):Sig:=mkSig [] c.dec f (fun avs r=>enc 0 r)
abbrev S(f:F):Prop:=Sound Pg_ 83 (sig f)
end Fz58
namespace Fz64
abbrev A:Type:=(List Zb)
abbrev B:Type:=(List Int)
abbrev F:=A→Option B
def c:Cod A:=c1 (.p t2_)
def enc(e:TypeId)(r:B):Res:=⟨[.own ⟨2,(.int .i64),r⟩],[]⟩
noncomputable def sig(f:F):Sig:=mkSig [] c.dec f (fun avs r=>enc 0 r)
abbrev S(f:F):Prop:=Sound Pg_ 84 (sig f)
end Fz64
namespace Fz47
abbrev A:Type:=((List Zb)×(List Zb))
abbrev B:Type:=((List Zb)×(List Zb)×Int)
abbrev F:=A→Option B
def c:Cod A:=cC (.v t2_) (c1 (.v t2_))
def enc(e:TypeId)(r:B):Res:=⟨[.val t2_ r.1,.val t2_ r.2.1,.val (.int .i64) r.2.2],[]⟩
noncomputable def sig(f:F):Sig:=mkSig [] c.dec f (fun avs r=>enc 0 r)
abbrev S(f:F):Prop:=Sound Pg_ 32 (sig f)
end Fz47
namespace Fz17
abbrev A:Type:=(List Zb)
abbrev B:Type:=((List Int)×Int)
abbrev F:=A→Option B
def c:Cod A:=c1 (.v t2_)
def enc(e:TypeId)(r:B):Res:=⟨[.own ⟨2,(.int .i64),r.1⟩,.val (.int .i64) r.2],[]⟩
noncomputable def sig(f:F):Sig:=mkSig [] c.dec f (fun avs r=>enc 0 r)
abbrev S(f:F):Prop:=Sound Pg_ 33 (sig f)
end Fz17
namespace Fz5
abbrev A:Type:=(List Zb)
abbrev B:Type:=((List Zb)×Int)
abbrev F:=A→Option B
def c:Cod A:=c1 (.v t2_)
def enc(e:TypeId)(r:B):Res:=⟨[.own ⟨29,t1_,r.1⟩,.val (.int .i64) r.2],[]⟩
noncomputable def sig(f:F):Sig:=mkSig [] c.dec f (fun avs r=>enc 0 r)
abbrev S(f:F):Prop:=Sound Pg_ 34 (sig f)
end Fz5
namespace laws_FnPacked
abbrev A:Type:=((List Int)×(List Int))
abbrev B:Type:=Bool
abbrev F:=A→Option B
def c:Cod A:=cC (.r (.int .u8)) (c1 (.r (.int .u8)))
abbrev dec:=c.dec
def enc(e:TypeId)(r:B):Res:=⟨[.val .bool r],[]⟩
noncomputable def sig(f:F):Sig:=mkSig [] c.dec f (fun avs r=>enc 0 r)
abbrev S(f:F):Prop:=Sound Pg_ 4 (sig f)
end laws_FnPacked
end Go.Proofs.Ytlipfbihlmlplaa.G
