import Derived.Test.YtjajlmaldeoobaaDoorGTT
namespace Go.Proofs.YtjajlmaldeoobaaDoor.G
open Go Go.Proofs
set_option linter.unusedVariables false
set_option linter.unusedSimpArgs false
set_option maxRecDepth 100000
abbrev Fz13.A : Type := (ByteArray × Int)
abbrev Fz13.B : Type := (List ByteArray)
def Fz13.dec (avs : List AV) : Option (ByteArray × Int) := match avs with
  | [a0, a1] => (a0.toVal .str).bind fun x0 => (a1.toVal (.int .u8)).bind fun x1 => some (x0, x1)
  | _ => none
theorem Fz13.dec_eq {avs : List AV} {x : (ByteArray × Int)} (h : Fz13.dec avs = some x) : avs = [.val .str x.1, .val (.int .u8) x.2] := by
  unfold Fz13.dec at h
  split at h
  · obtain ⟨x0, hx0, hh1⟩ := Option.bind_eq_some_iff.1 h
    obtain rfl := toVal_eq hx0
    obtain ⟨x1, hx1, hh2⟩ := Option.bind_eq_some_iff.1 hh1
    obtain rfl := toVal_eq hx1
    obtain rfl := Option.some.inj hh2
    exact rfl
  · cases h
def Fz13.enc (e : TypeId) (r : (List ByteArray)) : Res := ⟨[.own ⟨9, .str, r⟩], []⟩
noncomputable def Fz13.sig (f : Fz13.A → Option Fz13.B) : Sig := mkSig [] Fz13.dec f (fun avs r => Fz13.enc 0 r)
abbrev Fz13.S (f : Fz13.A → Option Fz13.B) : Prop := Sound Tryd.pinned.checked.prog 21 (Fz13.sig f)
abbrev Fz11.A : Type := ByteArray
abbrev Fz11.B : Type := (Int × Bool)
def Fz11.dec (avs : List AV) : Option ByteArray := match avs with
  | [a0] => (a0.toVal .str).bind fun x0 => some x0
  | _ => none
theorem Fz11.dec_eq {avs : List AV} {x : ByteArray} (h : Fz11.dec avs = some x) : avs = [.val .str x] := by
  unfold Fz11.dec at h
  split at h
  · obtain ⟨x0, hx0, hh1⟩ := Option.bind_eq_some_iff.1 h
    obtain rfl := toVal_eq hx0
    obtain rfl := Option.some.inj hh1
    exact rfl
  · cases h
def Fz11.enc (e : TypeId) (r : (Int × Bool)) : Res := ⟨[.val (.int .i64) r.1, .val .bool r.2], []⟩
noncomputable def Fz11.sig (f : Fz11.A → Option Fz11.B) : Sig := mkSig [] Fz11.dec f (fun avs r => Fz11.enc 0 r)
abbrev Fz11.S (f : Fz11.A → Option Fz11.B) : Prop := Sound Tryd.pinned.checked.prog 22 (Fz11.sig f)
abbrev spec_l00In.A : Type := (Int × Int × Int)
abbrev spec_l00In.B : Type := Bool
def spec_l00In.dec (avs : List AV) : Option (Int × Int × Int) := match avs with
  | [a0, a1, a2] => (a0.toVal (.int .i64)).bind fun x0 => (a1.toVal (.int .i64)).bind fun x1 => (a2.toVal (.int .i64)).bind fun x2 => some (x0, x1, x2)
  | _ => none
theorem spec_l00In.dec_eq {avs : List AV} {x : (Int × Int × Int)} (h : spec_l00In.dec avs = some x) : avs = [.val (.int .i64) x.1, .val (.int .i64) x.2.1, .val (.int .i64) x.2.2] := by
  unfold spec_l00In.dec at h
  split at h
  · obtain ⟨x0, hx0, hh1⟩ := Option.bind_eq_some_iff.1 h
    obtain rfl := toVal_eq hx0
    obtain ⟨x1, hx1, hh2⟩ := Option.bind_eq_some_iff.1 hh1
    obtain rfl := toVal_eq hx1
    obtain ⟨x2, hx2, hh3⟩ := Option.bind_eq_some_iff.1 hh2
    obtain rfl := toVal_eq hx2
    obtain rfl := Option.some.inj hh3
    exact rfl
  · cases h
def spec_l00In.enc (e : TypeId) (r : Bool) : Res := ⟨[.val .bool r], []⟩
noncomputable def spec_l00In.sig (f : spec_l00In.A → Option spec_l00In.B) : Sig := mkSig [] spec_l00In.dec f (fun avs r => spec_l00In.enc 0 r)
abbrev spec_l00In.S (f : spec_l00In.A → Option spec_l00In.B) : Prop := Sound Tryd.pinned.checked.prog 35 (spec_l00In.sig f)
abbrev Fz12.A : Type := Int
abbrev Fz12.B : Type := Bool
def Fz12.dec (avs : List AV) : Option Int := match avs with
  | [a0] => (a0.toVal (.int .i64)).bind fun x0 => some x0
  | _ => none
theorem Fz12.dec_eq {avs : List AV} {x : Int} (h : Fz12.dec avs = some x) : avs = [.val (.int .i64) x] := by
  unfold Fz12.dec at h
  split at h
  · obtain ⟨x0, hx0, hh1⟩ := Option.bind_eq_some_iff.1 h
    obtain rfl := toVal_eq hx0
    obtain rfl := Option.some.inj hh1
    exact rfl
  · cases h
def Fz12.enc (e : TypeId) (r : Bool) : Res := ⟨[.val .bool r], []⟩
noncomputable def Fz12.sig (f : Fz12.A → Option Fz12.B) : Sig := mkSig [] Fz12.dec f (fun avs r => Fz12.enc 0 r)
abbrev Fz12.S (f : Fz12.A → Option Fz12.B) : Prop := Sound Tryd.pinned.checked.prog 23 (Fz12.sig f)
abbrev Fz9.A : Type := ByteArray
abbrev Fz9.B : Type := ((List (Int × Int)) × Int)
def Fz9.dec (avs : List AV) : Option ByteArray := match avs with
  | [a0] => (a0.toVal .str).bind fun x0 => some x0
  | _ => none
theorem Fz9.dec_eq {avs : List AV} {x : ByteArray} (h : Fz9.dec avs = some x) : avs = [.val .str x] := by
  unfold Fz9.dec at h
  split at h
  · obtain ⟨x0, hx0, hh1⟩ := Option.bind_eq_some_iff.1 h
    obtain rfl := toVal_eq hx0
    obtain rfl := Option.some.inj hh1
    exact rfl
  · cases h
def Fz9.enc (e : TypeId) (r : ((List (Int × Int)) × Int)) : Res := ⟨[.own ⟨36, (.st (.pair (.int .i8) (.int .i8))), r.1⟩, .val (.int .i64) r.2], []⟩
noncomputable def Fz9.sig (f : Fz9.A → Option Fz9.B) : Sig := mkSig [] Fz9.dec f (fun avs r => Fz9.enc 0 r)
abbrev Fz9.S (f : Fz9.A → Option Fz9.B) : Prop := Sound Tryd.pinned.checked.prog 10 (Fz9.sig f)
abbrev Fz14.A : Type := (ByteArray × ByteArray)
abbrev Fz14.B : Type := Int
def Fz14.dec (avs : List AV) : Option (ByteArray × ByteArray) := match avs with
  | [a0, a1] => (a0.toVal .str).bind fun x0 => (a1.toVal .str).bind fun x1 => some (x0, x1)
  | _ => none
theorem Fz14.dec_eq {avs : List AV} {x : (ByteArray × ByteArray)} (h : Fz14.dec avs = some x) : avs = [.val .str x.1, .val .str x.2] := by
  unfold Fz14.dec at h
  split at h
  · obtain ⟨x0, hx0, hh1⟩ := Option.bind_eq_some_iff.1 h
    obtain rfl := toVal_eq hx0
    obtain ⟨x1, hx1, hh2⟩ := Option.bind_eq_some_iff.1 hh1
    obtain rfl := toVal_eq hx1
    obtain rfl := Option.some.inj hh2
    exact rfl
  · cases h
def Fz14.enc (e : TypeId) (r : Int) : Res := ⟨[.val (.int .i64) r], []⟩
noncomputable def Fz14.sig (f : Fz14.A → Option Fz14.B) : Sig := mkSig [] Fz14.dec f (fun avs r => Fz14.enc 0 r)
abbrev Fz14.S (f : Fz14.A → Option Fz14.B) : Prop := Sound Tryd.pinned.checked.prog 46 (Fz14.sig f)
abbrev Fz3.A : Type := (ByteArray × ByteArray)
abbrev Fz3.B : Type := Int
def Fz3.dec (avs : List AV) : Option (ByteArray × ByteArray) := match avs with
  | [a0, a1] => (a0.toVal .str).bind fun x0 => (a1.toVal .str).bind fun x1 => some (x0, x1)
  | _ => none
theorem Fz3.dec_eq {avs : List AV} {x : (ByteArray × ByteArray)} (h : Fz3.dec avs = some x) : avs = [.val .str x.1, .val .str x.2] := by
  unfold Fz3.dec at h
  split at h
  · obtain ⟨x0, hx0, hh1⟩ := Option.bind_eq_some_iff.1 h
    obtain rfl := toVal_eq hx0
    obtain ⟨x1, hx1, hh2⟩ := Option.bind_eq_some_iff.1 hh1
    obtain rfl := toVal_eq hx1
    obtain rfl := Option.some.inj hh2
    exact rfl
  · cases h
def Fz3.enc (e : TypeId) (r : Int) : Res := ⟨[.val (.int .i64) r], []⟩
noncomputable def Fz3.sig (f : Fz3.A → Option Fz3.B) : Sig := mkSig [] Fz3.dec f (fun avs r => Fz3.enc 0 r)
abbrev Fz3.S (f : Fz3.A → Option Fz3.B) : Prop := Sound Tryd.pinned.checked.prog 48 (Fz3.sig f)
abbrev Fz16.A : Type := (ByteArray × ByteArray)
abbrev Fz16.B : Type := Int
def Fz16.dec (avs : List AV) : Option (ByteArray × ByteArray) := match avs with
  | [a0, a1] => (a0.toVal .str).bind fun x0 => (a1.toVal .str).bind fun x1 => some (x0, x1)
  | _ => none
theorem Fz16.dec_eq {avs : List AV} {x : (ByteArray × ByteArray)} (h : Fz16.dec avs = some x) : avs = [.val .str x.1, .val .str x.2] := by
  unfold Fz16.dec at h
  split at h
  · obtain ⟨x0, hx0, hh1⟩ := Option.bind_eq_some_iff.1 h
    obtain rfl := toVal_eq hx0
    obtain ⟨x1, hx1, hh2⟩ := Option.bind_eq_some_iff.1 hh1
    obtain rfl := toVal_eq hx1
    obtain rfl := Option.some.inj hh2
    exact rfl
  · cases h
def Fz16.enc (e : TypeId) (r : Int) : Res := ⟨[.val (.int .i64) r], []⟩
noncomputable def Fz16.sig (f : Fz16.A → Option Fz16.B) : Sig := mkSig [] Fz16.dec f (fun avs r => Fz16.enc 0 r)
abbrev Fz16.S (f : Fz16.A → Option Fz16.B) : Prop := Sound Tryd.pinned.checked.prog 47 (Fz16.sig f)
abbrev Fz18.A : Type := (ByteArray × ByteArray × Int × Int)
abbrev Fz18.B : Type := (List ByteArray)
def Fz18.dec (avs : List AV) : Option (ByteArray × ByteArray × Int × Int) := match avs with
  | [a0, a1, a2, a3] => (a0.toVal .str).bind fun x0 => (a1.toVal .str).bind fun x1 => (a2.toVal (.int .i64)).bind fun x2 => (a3.toVal (.int .i64)).bind fun x3 => some (x0, x1, x2, x3)
  | _ => none
theorem Fz18.dec_eq {avs : List AV} {x : (ByteArray × ByteArray × Int × Int)} (h : Fz18.dec avs = some x) : avs = [.val .str x.1, .val .str x.2.1, .val (.int .i64) x.2.2.1, .val (.int .i64) x.2.2.2] := by
  unfold Fz18.dec at h
  split at h
  · obtain ⟨x0, hx0, hh1⟩ := Option.bind_eq_some_iff.1 h
    obtain rfl := toVal_eq hx0
    obtain ⟨x1, hx1, hh2⟩ := Option.bind_eq_some_iff.1 hh1
    obtain rfl := toVal_eq hx1
    obtain ⟨x2, hx2, hh3⟩ := Option.bind_eq_some_iff.1 hh2
    obtain rfl := toVal_eq hx2
    obtain ⟨x3, hx3, hh4⟩ := Option.bind_eq_some_iff.1 hh3
    obtain rfl := toVal_eq hx3
    obtain rfl := Option.some.inj hh4
    exact rfl
  · cases h
def Fz18.enc (e : TypeId) (r : (List ByteArray)) : Res := ⟨[.own ⟨9, .str, r⟩], []⟩
noncomputable def Fz18.sig (f : Fz18.A → Option Fz18.B) : Sig := mkSig [] Fz18.dec f (fun avs r => Fz18.enc 0 r)
abbrev Fz18.S (f : Fz18.A → Option Fz18.B) : Prop := Sound Tryd.pinned.checked.prog 36 (Fz18.sig f)
abbrev Fz17.A : Type := (ByteArray × ByteArray)
abbrev Fz17.B : Type := (List ByteArray)
def Fz17.dec (avs : List AV) : Option (ByteArray × ByteArray) := match avs with
  | [a0, a1] => (a0.toVal .str).bind fun x0 => (a1.toVal .str).bind fun x1 => some (x0, x1)
  | _ => none
theorem Fz17.dec_eq {avs : List AV} {x : (ByteArray × ByteArray)} (h : Fz17.dec avs = some x) : avs = [.val .str x.1, .val .str x.2] := by
  unfold Fz17.dec at h
  split at h
  · obtain ⟨x0, hx0, hh1⟩ := Option.bind_eq_some_iff.1 h
    obtain rfl := toVal_eq hx0
    obtain ⟨x1, hx1, hh2⟩ := Option.bind_eq_some_iff.1 hh1
    obtain rfl := toVal_eq hx1
    obtain rfl := Option.some.inj hh2
    exact rfl
  · cases h
def Fz17.enc (e : TypeId) (r : (List ByteArray)) : Res := ⟨[.own ⟨9, .str, r⟩], []⟩
noncomputable def Fz17.sig (f : Fz17.A → Option Fz17.B) : Sig := mkSig [] Fz17.dec f (fun avs r => Fz17.enc 0 r)
abbrev Fz17.S (f : Fz17.A → Option Fz17.B) : Prop := Sound Tryd.pinned.checked.prog 24 (Fz17.sig f)
abbrev Fz2.A : Type := (ByteArray × ByteArray)
abbrev Fz2.B : Type := (ByteArray × ByteArray × Bool)
def Fz2.dec (avs : List AV) : Option (ByteArray × ByteArray) := match avs with
  | [a0, a1] => (a0.toVal .str).bind fun x0 => (a1.toVal .str).bind fun x1 => some (x0, x1)
  | _ => none
theorem Fz2.dec_eq {avs : List AV} {x : (ByteArray × ByteArray)} (h : Fz2.dec avs = some x) : avs = [.val .str x.1, .val .str x.2] := by
  unfold Fz2.dec at h
  split at h
  · obtain ⟨x0, hx0, hh1⟩ := Option.bind_eq_some_iff.1 h
    obtain rfl := toVal_eq hx0
    obtain ⟨x1, hx1, hh2⟩ := Option.bind_eq_some_iff.1 hh1
    obtain rfl := toVal_eq hx1
    obtain rfl := Option.some.inj hh2
    exact rfl
  · cases h
def Fz2.enc (e : TypeId) (r : (ByteArray × ByteArray × Bool)) : Res := ⟨[.val .str r.1, .val .str r.2.1, .val .bool r.2.2], []⟩
noncomputable def Fz2.sig (f : Fz2.A → Option Fz2.B) : Sig := mkSig [] Fz2.dec f (fun avs r => Fz2.enc 0 r)
abbrev Fz2.S (f : Fz2.A → Option Fz2.B) : Prop := Sound Tryd.pinned.checked.prog 37 (Fz2.sig f)
abbrev Fz15.A : Type := (ByteArray × ByteArray)
abbrev Fz15.B : Type := (ByteArray × ByteArray × Bool)
def Fz15.dec (avs : List AV) : Option (ByteArray × ByteArray) := match avs with
  | [a0, a1] => (a0.toVal .str).bind fun x0 => (a1.toVal .str).bind fun x1 => some (x0, x1)
  | _ => none
theorem Fz15.dec_eq {avs : List AV} {x : (ByteArray × ByteArray)} (h : Fz15.dec avs = some x) : avs = [.val .str x.1, .val .str x.2] := by
  unfold Fz15.dec at h
  split at h
  · obtain ⟨x0, hx0, hh1⟩ := Option.bind_eq_some_iff.1 h
    obtain rfl := toVal_eq hx0
    obtain ⟨x1, hx1, hh2⟩ := Option.bind_eq_some_iff.1 hh1
    obtain rfl := toVal_eq hx1
    obtain rfl := Option.some.inj hh2
    exact rfl
  · cases h
def Fz15.enc (e : TypeId) (r : (ByteArray × ByteArray × Bool)) : Res := ⟨[.val .str r.1, .val .str r.2.1, .val .bool r.2.2], []⟩
noncomputable def Fz15.sig (f : Fz15.A → Option Fz15.B) : Sig := mkSig [] Fz15.dec f (fun avs r => Fz15.enc 0 r)
abbrev Fz15.S (f : Fz15.A → Option Fz15.B) : Prop := Sound Tryd.pinned.checked.prog 25 (Fz15.sig f)
abbrev Fz1.A : Type := (ByteArray × Int × Int)
abbrev Fz1.B : Type := (Int × Bool)
def Fz1.dec (avs : List AV) : Option (ByteArray × Int × Int) := match avs with
  | [a0, a1, a2] => (a0.toVal .str).bind fun x0 => (a1.toVal (.int .i64)).bind fun x1 => (a2.toVal (.int .i64)).bind fun x2 => some (x0, x1, x2)
  | _ => none
theorem Fz1.dec_eq {avs : List AV} {x : (ByteArray × Int × Int)} (h : Fz1.dec avs = some x) : avs = [.val .str x.1, .val (.int .i64) x.2.1, .val (.int .i64) x.2.2] := by
  unfold Fz1.dec at h
  split at h
  · obtain ⟨x0, hx0, hh1⟩ := Option.bind_eq_some_iff.1 h
    obtain rfl := toVal_eq hx0
    obtain ⟨x1, hx1, hh2⟩ := Option.bind_eq_some_iff.1 hh1
    obtain rfl := toVal_eq hx1
    obtain ⟨x2, hx2, hh3⟩ := Option.bind_eq_some_iff.1 hh2
    obtain rfl := toVal_eq hx2
    obtain rfl := Option.some.inj hh3
    exact rfl
  · cases h
def Fz1.enc (e : TypeId) (r : (Int × Bool)) : Res := ⟨[.val (.int .i64) r.1, .val .bool r.2], []⟩
noncomputable def Fz1.sig (f : Fz1.A → Option Fz1.B) : Sig := mkSig [] Fz1.dec f (fun avs r => Fz1.enc 0 r)
abbrev Fz1.S (f : Fz1.A → Option Fz1.B) : Prop := Sound Tryd.pinned.checked.prog 26 (Fz1.sig f)
abbrev Fz0.A : Type := ByteArray
abbrev Fz0.B : Type := ((List (Int × Int)) × Int)
def Fz0.dec (avs : List AV) : Option ByteArray := match avs with
  | [a0] => (a0.toVal .str).bind fun x0 => some x0
  | _ => none
theorem Fz0.dec_eq {avs : List AV} {x : ByteArray} (h : Fz0.dec avs = some x) : avs = [.val .str x] := by
  unfold Fz0.dec at h
  split at h
  · obtain ⟨x0, hx0, hh1⟩ := Option.bind_eq_some_iff.1 h
    obtain rfl := toVal_eq hx0
    obtain rfl := Option.some.inj hh1
    exact rfl
  · cases h
def Fz0.enc (e : TypeId) (r : ((List (Int × Int)) × Int)) : Res := ⟨[.own ⟨36, (.st (.pair (.int .i8) (.int .i8))), r.1⟩, .val (.int .i64) r.2], []⟩
noncomputable def Fz0.sig (f : Fz0.A → Option Fz0.B) : Sig := mkSig [] Fz0.dec f (fun avs r => Fz0.enc 0 r)
abbrev Fz0.S (f : Fz0.A → Option Fz0.B) : Prop := Sound Tryd.pinned.checked.prog 11 (Fz0.sig f)
abbrev Fz5.A : Type := ((Int × Int) × (Int × Int))
abbrev Fz5.B : Type := Bool
def Fz5.dec (avs : List AV) : Option ((Int × Int) × (Int × Int)) := match avs with
  | [a0, a1] => (a0.toVal (.st (.pair (.int .i8) (.int .i8)))).bind fun x0 => (a1.toVal (.st (.pair (.int .i8) (.int .i8)))).bind fun x1 => some (x0, x1)
  | _ => none
theorem Fz5.dec_eq {avs : List AV} {x : ((Int × Int) × (Int × Int))} (h : Fz5.dec avs = some x) : avs = [.val (.st (.pair (.int .i8) (.int .i8))) x.1, .val (.st (.pair (.int .i8) (.int .i8))) x.2] := by
  unfold Fz5.dec at h
  split at h
  · obtain ⟨x0, hx0, hh1⟩ := Option.bind_eq_some_iff.1 h
    obtain rfl := toVal_eq hx0
    obtain ⟨x1, hx1, hh2⟩ := Option.bind_eq_some_iff.1 hh1
    obtain rfl := toVal_eq hx1
    obtain rfl := Option.some.inj hh2
    exact rfl
  · cases h
def Fz5.enc (e : TypeId) (r : Bool) : Res := ⟨[.val .bool r], []⟩
noncomputable def Fz5.sig (f : Fz5.A → Option Fz5.B) : Sig := mkSig [] Fz5.dec f (fun avs r => Fz5.enc 0 r)
abbrev Fz5.S (f : Fz5.A → Option Fz5.B) : Prop := Sound Tryd.pinned.checked.prog 20 (Fz5.sig f)
abbrev Fz6.A : Type := ((List (Int × Int)) × (List (Int × Int)))
abbrev Fz6.B : Type := Bool
def Fz6.dec (avs : List AV) : Option ((List (Int × Int)) × (List (Int × Int))) := match avs with
  | [a0, a1] => (a0.toList (.st (.pair (.int .i8) (.int .i8)))).bind fun x0 => (a1.toList (.st (.pair (.int .i8) (.int .i8)))).bind fun x1 => some (x0, x1)
  | _ => none
theorem Fz6.dec_eq {avs : List AV} {x : ((List (Int × Int)) × (List (Int × Int)))} (h : Fz6.dec avs = some x) : ∃ e0 e1, avs = [.obj false ⟨e0, (.st (.pair (.int .i8) (.int .i8))), x.1⟩, .obj false ⟨e1, (.st (.pair (.int .i8) (.int .i8))), x.2⟩] := by
  unfold Fz6.dec at h
  split at h
  · obtain ⟨x0, hx0, hh1⟩ := Option.bind_eq_some_iff.1 h
    obtain ⟨e0, rfl⟩ := toList_eq hx0
    obtain ⟨x1, hx1, hh2⟩ := Option.bind_eq_some_iff.1 hh1
    obtain ⟨e1, rfl⟩ := toList_eq hx1
    obtain rfl := Option.some.inj hh2
    exact ⟨e0, e1, rfl⟩
  · cases h
def Fz6.enc (e : TypeId) (r : Bool) : Res := ⟨[.val .bool r], []⟩
noncomputable def Fz6.sig (f : Fz6.A → Option Fz6.B) : Sig := mkSig [] Fz6.dec f (fun avs r => Fz6.enc 0 r)
abbrev Fz6.S (f : Fz6.A → Option Fz6.B) : Prop := Sound Tryd.pinned.checked.prog 9 (Fz6.sig f)
abbrev Fz8.A : Type := ((List (Int × Int)) × Int)
abbrev Fz8.B : Type := (Int × (List (Int × Int)))
def Fz8.dec (avs : List AV) : Option ((List (Int × Int)) × Int) := match avs with
  | [a0, a1] => (a0.toList (.st (.pair (.int .i8) (.int .i8)))).bind fun x0 => (a1.toVal (.int .i64)).bind fun x1 => some (x0, x1)
  | _ => none
theorem Fz8.dec_eq {avs : List AV} {x : ((List (Int × Int)) × Int)} (h : Fz8.dec avs = some x) : ∃ e0, avs = [.obj false ⟨e0, (.st (.pair (.int .i8) (.int .i8))), x.1⟩, .val (.int .i64) x.2] := by
  unfold Fz8.dec at h
  split at h
  · obtain ⟨x0, hx0, hh1⟩ := Option.bind_eq_some_iff.1 h
    obtain ⟨e0, rfl⟩ := toList_eq hx0
    obtain ⟨x1, hx1, hh2⟩ := Option.bind_eq_some_iff.1 hh1
    obtain rfl := toVal_eq hx1
    obtain rfl := Option.some.inj hh2
    exact ⟨e0, rfl⟩
  · cases h
def Fz8.enc (e : TypeId) (r : (Int × (List (Int × Int)))) : Res := ⟨[.val (.int .i64) r.1], [⟨e, (.st (.pair (.int .i8) (.int .i8))), r.2⟩]⟩
noncomputable def Fz8.sig (f : Fz8.A → Option Fz8.B) : Sig := mkSig [0] Fz8.dec f (fun avs r => Fz8.enc (avs.getD 0 (.val .bool false)).elem r)
abbrev Fz8.S (f : Fz8.A → Option Fz8.B) : Prop := Sound Tryd.pinned.checked.prog 12 (Fz8.sig f)
abbrev Fz7.A : Type := ((List (Int × Int)) × Int)
abbrev Fz7.B : Type := Int
def Fz7.dec (avs : List AV) : Option ((List (Int × Int)) × Int) := match avs with
  | [a0, a1] => (a0.toList (.st (.pair (.int .i8) (.int .i8)))).bind fun x0 => (a1.toVal (.int .i64)).bind fun x1 => some (x0, x1)
  | _ => none
theorem Fz7.dec_eq {avs : List AV} {x : ((List (Int × Int)) × Int)} (h : Fz7.dec avs = some x) : ∃ e0, avs = [.obj false ⟨e0, (.st (.pair (.int .i8) (.int .i8))), x.1⟩, .val (.int .i64) x.2] := by
  unfold Fz7.dec at h
  split at h
  · obtain ⟨x0, hx0, hh1⟩ := Option.bind_eq_some_iff.1 h
    obtain ⟨e0, rfl⟩ := toList_eq hx0
    obtain ⟨x1, hx1, hh2⟩ := Option.bind_eq_some_iff.1 hh1
    obtain rfl := toVal_eq hx1
    obtain rfl := Option.some.inj hh2
    exact ⟨e0, rfl⟩
  · cases h
def Fz7.enc (e : TypeId) (r : Int) : Res := ⟨[.val (.int .i64) r], []⟩
noncomputable def Fz7.sig (f : Fz7.A → Option Fz7.B) : Sig := mkSig [] Fz7.dec f (fun avs r => Fz7.enc 0 r)
abbrev Fz7.S (f : Fz7.A → Option Fz7.B) : Prop := Sound Tryd.pinned.checked.prog 13 (Fz7.sig f)
abbrev laws_FnExactReadSwaps.A : Type := ByteArray
abbrev laws_FnExactReadSwaps.B : Type := Bool
def laws_FnExactReadSwaps.dec (avs : List AV) : Option ByteArray := match avs with
  | [a0] => (a0.toVal .str).bind fun x0 => some x0
  | _ => none
theorem laws_FnExactReadSwaps.dec_eq {avs : List AV} {x : ByteArray} (h : laws_FnExactReadSwaps.dec avs = some x) : avs = [.val .str x] := by
  unfold laws_FnExactReadSwaps.dec at h
  split at h
  · obtain ⟨x0, hx0, hh1⟩ := Option.bind_eq_some_iff.1 h
    obtain rfl := toVal_eq hx0
    obtain rfl := Option.some.inj hh1
    exact rfl
  · cases h
def laws_FnExactReadSwaps.enc (e : TypeId) (r : Bool) : Res := ⟨[.val .bool r], []⟩
noncomputable def laws_FnExactReadSwaps.sig (f : laws_FnExactReadSwaps.A → Option laws_FnExactReadSwaps.B) : Sig := mkSig [] laws_FnExactReadSwaps.dec f (fun avs r => laws_FnExactReadSwaps.enc 0 r)
abbrev laws_FnExactReadSwaps.S (f : laws_FnExactReadSwaps.A → Option laws_FnExactReadSwaps.B) : Prop := Sound Tryd.pinned.checked.prog 4 (laws_FnExactReadSwaps.sig f)
end Go.Proofs.YtjajlmaldeoobaaDoor.G
