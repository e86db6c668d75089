import Derived.Test.YteaodjahafgbcaaDoorGTT
namespace Go.Proofs.YteaodjahafgbcaaDoor.G
open Go Go.Proofs
set_option linter.unusedVariables false
set_option linter.unusedSimpArgs false
set_option maxRecDepth 100000
abbrev Fz15.A : Type := ((List ((Int × Int) × Int)) × Int)
abbrev Fz15.B : Type := Int
def Fz15.dec (avs : List AV) : Option ((List ((Int × Int) × Int)) × Int) := match avs with
  | [a0, a1] => (a0.toList (.st (.pair (.st (.pair (.int .u8) (.int .i16))) (.int .i16)))).bind fun x0 => (a1.toVal (.int .i64)).bind fun x1 => some (x0, x1)
  | _ => none
theorem Fz15.dec_eq {avs : List AV} {x : ((List ((Int × Int) × Int)) × Int)} (h : Fz15.dec avs = some x) : ∃ e0, avs = [.obj false ⟨e0, (.st (.pair (.st (.pair (.int .u8) (.int .i16))) (.int .i16))), x.1⟩, .val (.int .i64) x.2] := by
  unfold Fz15.dec at h
  split at h
  · obtain ⟨x0, hx0, hh1⟩ := Option.bind_eq_some_iff.1 h
    obtain ⟨e0, rfl⟩ := toList_eq hx0
    obtain ⟨x1, hx1, hh2⟩ := Option.bind_eq_some_iff.1 hh1
    obtain rfl := toVal_eq hx1
    obtain rfl := Option.some.inj hh2
    exact ⟨e0, rfl⟩
  · cases h
def Fz15.enc (e : TypeId) (r : Int) : Res := ⟨[.val (.int .i64) r], []⟩
noncomputable def Fz15.sig (f : Fz15.A → Option Fz15.B) : Sig := mkSig [] Fz15.dec f (fun avs r => Fz15.enc 0 r)
abbrev Fz15.S (f : Fz15.A → Option Fz15.B) : Prop := Sound Tryd.pinned.checked.prog 14 (Fz15.sig f)
abbrev Fz14.A : Type := ((List (List ((Int × Int) × Int))) × Int)
abbrev Fz14.B : Type := Int
def Fz14.dec (avs : List AV) : Option ((List (List ((Int × Int) × Int))) × Int) := match avs with
  | [a0, a1] => (a0.toList (.row 75 (.st (.pair (.st (.pair (.int .u8) (.int .i16))) (.int .i16))))).bind fun x0 => (a1.toVal (.int .i64)).bind fun x1 => some (x0, x1)
  | _ => none
theorem Fz14.dec_eq {avs : List AV} {x : ((List (List ((Int × Int) × Int))) × Int)} (h : Fz14.dec avs = some x) : ∃ e0, avs = [.obj false ⟨e0, (.row 75 (.st (.pair (.st (.pair (.int .u8) (.int .i16))) (.int .i16)))), x.1⟩, .val (.int .i64) x.2] := by
  unfold Fz14.dec at h
  split at h
  · obtain ⟨x0, hx0, hh1⟩ := Option.bind_eq_some_iff.1 h
    obtain ⟨e0, rfl⟩ := toList_eq hx0
    obtain ⟨x1, hx1, hh2⟩ := Option.bind_eq_some_iff.1 hh1
    obtain rfl := toVal_eq hx1
    obtain rfl := Option.some.inj hh2
    exact ⟨e0, rfl⟩
  · cases h
def Fz14.enc (e : TypeId) (r : Int) : Res := ⟨[.val (.int .i64) r], []⟩
noncomputable def Fz14.sig (f : Fz14.A → Option Fz14.B) : Sig := mkSig [] Fz14.dec f (fun avs r => Fz14.enc 0 r)
abbrev Fz14.S (f : Fz14.A → Option Fz14.B) : Prop := Sound Tryd.pinned.checked.prog 5 (Fz14.sig f)
abbrev Fz16.A : Type := (Int × Int)
abbrev Fz16.B : Type := (Int × Int)
def Fz16.dec (avs : List AV) : Option (Int × Int) := match avs with
  | [a0] => (a0.toVal (.st (.pair (.int .u8) (.int .i16)))).bind fun x0 => some x0
  | _ => none
theorem Fz16.dec_eq {avs : List AV} {x : (Int × Int)} (h : Fz16.dec avs = some x) : avs = [.val (.st (.pair (.int .u8) (.int .i16))) x] := by
  unfold Fz16.dec at h
  split at h
  · obtain ⟨x0, hx0, hh1⟩ := Option.bind_eq_some_iff.1 h
    obtain rfl := toVal_eq hx0
    obtain rfl := Option.some.inj hh1
    exact rfl
  · cases h
def Fz16.enc (e : TypeId) (r : (Int × Int)) : Res := ⟨[.val (.st (.pair (.int .u8) (.int .i16))) r], []⟩
noncomputable def Fz16.sig (f : Fz16.A → Option Fz16.B) : Sig := mkSig [] Fz16.dec f (fun avs r => Fz16.enc 0 r)
abbrev Fz16.S (f : Fz16.A → Option Fz16.B) : Prop := Sound Tryd.pinned.checked.prog 56 (Fz16.sig f)
abbrev Fz18.A : Type := ((Int × Int) × Int)
abbrev Fz18.B : Type := ((Int × Int) × Int)
def Fz18.dec (avs : List AV) : Option ((Int × Int) × Int) := match avs with
  | [a0] => (a0.toVal (.st (.pair (.st (.pair (.int .u8) (.int .i16))) (.int .i16)))).bind fun x0 => some x0
  | _ => none
theorem Fz18.dec_eq {avs : List AV} {x : ((Int × Int) × Int)} (h : Fz18.dec avs = some x) : avs = [.val (.st (.pair (.st (.pair (.int .u8) (.int .i16))) (.int .i16))) x] := by
  unfold Fz18.dec at h
  split at h
  · obtain ⟨x0, hx0, hh1⟩ := Option.bind_eq_some_iff.1 h
    obtain rfl := toVal_eq hx0
    obtain rfl := Option.some.inj hh1
    exact rfl
  · cases h
def Fz18.enc (e : TypeId) (r : ((Int × Int) × Int)) : Res := ⟨[.val (.st (.pair (.st (.pair (.int .u8) (.int .i16))) (.int .i16))) r], []⟩
noncomputable def Fz18.sig (f : Fz18.A → Option Fz18.B) : Sig := mkSig [] Fz18.dec f (fun avs r => Fz18.enc 0 r)
abbrev Fz18.S (f : Fz18.A → Option Fz18.B) : Prop := Sound Tryd.pinned.checked.prog 37 (Fz18.sig f)
abbrev Fz19.A : Type := (List ((Int × Int) × Int))
abbrev Fz19.B : Type := (List ((Int × Int) × Int))
def Fz19.dec (avs : List AV) : Option (List ((Int × Int) × Int)) := match avs with
  | [a0] => (a0.toList (.st (.pair (.st (.pair (.int .u8) (.int .i16))) (.int .i16)))).bind fun x0 => some x0
  | _ => none
theorem Fz19.dec_eq {avs : List AV} {x : (List ((Int × Int) × Int))} (h : Fz19.dec avs = some x) : ∃ e0, avs = [.obj false ⟨e0, (.st (.pair (.st (.pair (.int .u8) (.int .i16))) (.int .i16))), x⟩] := by
  unfold Fz19.dec at h
  split at h
  · obtain ⟨x0, hx0, hh1⟩ := Option.bind_eq_some_iff.1 h
    obtain ⟨e0, rfl⟩ := toList_eq hx0
    obtain rfl := Option.some.inj hh1
    exact ⟨e0, rfl⟩
  · cases h
def Fz19.enc (e : TypeId) (r : (List ((Int × Int) × Int))) : Res := ⟨[.own ⟨48, (.st (.pair (.st (.pair (.int .u8) (.int .i16))) (.int .i16))), r⟩], []⟩
noncomputable def Fz19.sig (f : Fz19.A → Option Fz19.B) : Sig := mkSig [] Fz19.dec f (fun avs r => Fz19.enc 0 r)
abbrev Fz19.S (f : Fz19.A → Option Fz19.B) : Prop := Sound Tryd.pinned.checked.prog 17 (Fz19.sig f)
abbrev Fz17.A : Type := (List (List ((Int × Int) × Int)))
abbrev Fz17.B : Type := (List (List ((Int × Int) × Int)))
def Fz17.dec (avs : List AV) : Option (List (List ((Int × Int) × Int))) := match avs with
  | [a0] => (a0.toList (.row 75 (.st (.pair (.st (.pair (.int .u8) (.int .i16))) (.int .i16))))).bind fun x0 => some x0
  | _ => none
theorem Fz17.dec_eq {avs : List AV} {x : (List (List ((Int × Int) × Int)))} (h : Fz17.dec avs = some x) : ∃ e0, avs = [.obj false ⟨e0, (.row 75 (.st (.pair (.st (.pair (.int .u8) (.int .i16))) (.int .i16)))), x⟩] := by
  unfold Fz17.dec at h
  split at h
  · obtain ⟨x0, hx0, hh1⟩ := Option.bind_eq_some_iff.1 h
    obtain ⟨e0, rfl⟩ := toList_eq hx0
    obtain rfl := Option.some.inj hh1
    exact ⟨e0, rfl⟩
  · cases h
def Fz17.enc (e : TypeId) (r : (List (List ((Int × Int) × Int)))) : Res := ⟨[.own ⟨37, (.row 48 (.st (.pair (.st (.pair (.int .u8) (.int .i16))) (.int .i16)))), r⟩], []⟩
noncomputable def Fz17.sig (f : Fz17.A → Option Fz17.B) : Sig := mkSig [] Fz17.dec f (fun avs r => Fz17.enc 0 r)
abbrev Fz17.S (f : Fz17.A → Option Fz17.B) : Prop := Sound Tryd.pinned.checked.prog 7 (Fz17.sig f)
abbrev spec_l00In.A : Type := (Int × Int × Int)
abbrev spec_l00In.B : Type := Bool
def spec_l00In.dec (avs : List AV) : Option (Int × Int × Int) := match avs with
  | [a0, a1, a2] => (a0.toVal (.int .i64)).bind fun x0 => (a1.toVal (.int .i64)).bind fun x1 => (a2.toVal (.int .i64)).bind fun x2 => some (x0, x1, x2)
  | _ => none
theorem spec_l00In.dec_eq {avs : List AV} {x : (Int × Int × Int)} (h : spec_l00In.dec avs = some x) : avs = [.val (.int .i64) x.1, .val (.int .i64) x.2.1, .val (.int .i64) x.2.2] := by
  unfold spec_l00In.dec at h
  split at h
  · obtain ⟨x0, hx0, hh1⟩ := Option.bind_eq_some_iff.1 h
    obtain rfl := toVal_eq hx0
    obtain ⟨x1, hx1, hh2⟩ := Option.bind_eq_some_iff.1 hh1
    obtain rfl := toVal_eq hx1
    obtain ⟨x2, hx2, hh3⟩ := Option.bind_eq_some_iff.1 hh2
    obtain rfl := toVal_eq hx2
    obtain rfl := Option.some.inj hh3
    exact rfl
  · cases h
def spec_l00In.enc (e : TypeId) (r : Bool) : Res := ⟨[.val .bool r], []⟩
noncomputable def spec_l00In.sig (f : spec_l00In.A → Option spec_l00In.B) : Sig := mkSig [] spec_l00In.dec f (fun avs r => spec_l00In.enc 0 r)
abbrev spec_l00In.S (f : spec_l00In.A → Option spec_l00In.B) : Prop := Sound Tryd.pinned.checked.prog 71 (spec_l00In.sig f)
abbrev Fz27.A : Type := (Int × Int)
abbrev Fz27.B : Type := Bool
def Fz27.dec (avs : List AV) : Option (Int × Int) := match avs with
  | [a0] => (a0.toVal (.st (.pair (.int .u8) (.int .i16)))).bind fun x0 => some x0
  | _ => none
theorem Fz27.dec_eq {avs : List AV} {x : (Int × Int)} (h : Fz27.dec avs = some x) : avs = [.val (.st (.pair (.int .u8) (.int .i16))) x] := by
  unfold Fz27.dec at h
  split at h
  · obtain ⟨x0, hx0, hh1⟩ := Option.bind_eq_some_iff.1 h
    obtain rfl := toVal_eq hx0
    obtain rfl := Option.some.inj hh1
    exact rfl
  · cases h
def Fz27.enc (e : TypeId) (r : Bool) : Res := ⟨[.val .bool r], []⟩
noncomputable def Fz27.sig (f : Fz27.A → Option Fz27.B) : Sig := mkSig [] Fz27.dec f (fun avs r => Fz27.enc 0 r)
abbrev Fz27.S (f : Fz27.A → Option Fz27.B) : Prop := Sound Tryd.pinned.checked.prog 63 (Fz27.sig f)
abbrev Fz31.A : Type := ((Int × Int) × Int)
abbrev Fz31.B : Type := Bool
def Fz31.dec (avs : List AV) : Option ((Int × Int) × Int) := match avs with
  | [a0] => (a0.toBox (.st (.pair (.st (.pair (.int .u8) (.int .i16))) (.int .i16)))).bind fun x0 => some x0
  | _ => none
theorem Fz31.dec_eq {avs : List AV} {x : ((Int × Int) × Int)} (h : Fz31.dec avs = some x) : ∃ e0, avs = [.obj true ⟨e0, (.st (.pair (.st (.pair (.int .u8) (.int .i16))) (.int .i16))), [x]⟩] := by
  unfold Fz31.dec at h
  split at h
  · obtain ⟨x0, hx0, hh1⟩ := Option.bind_eq_some_iff.1 h
    obtain ⟨e0, rfl⟩ := toBox_eq hx0
    obtain rfl := Option.some.inj hh1
    exact ⟨e0, rfl⟩
  · cases h
def Fz31.enc (e : TypeId) (r : Bool) : Res := ⟨[.val .bool r], []⟩
noncomputable def Fz31.sig (f : Fz31.A → Option Fz31.B) : Sig := mkSig [] Fz31.dec f (fun avs r => Fz31.enc 0 r)
abbrev Fz31.S (f : Fz31.A → Option Fz31.B) : Prop := Sound Tryd.pinned.checked.prog 55 (Fz31.sig f)
abbrev Fz29.A : Type := (List ((Int × Int) × Int))
abbrev Fz29.B : Type := Bool
def Fz29.dec (avs : List AV) : Option (List ((Int × Int) × Int)) := match avs with
  | [a0] => (a0.toList (.st (.pair (.st (.pair (.int .u8) (.int .i16))) (.int .i16)))).bind fun x0 => some x0
  | _ => none
theorem Fz29.dec_eq {avs : List AV} {x : (List ((Int × Int) × Int))} (h : Fz29.dec avs = some x) : ∃ e0, avs = [.obj false ⟨e0, (.st (.pair (.st (.pair (.int .u8) (.int .i16))) (.int .i16))), x⟩] := by
  unfold Fz29.dec at h
  split at h
  · obtain ⟨x0, hx0, hh1⟩ := Option.bind_eq_some_iff.1 h
    obtain ⟨e0, rfl⟩ := toList_eq hx0
    obtain rfl := Option.some.inj hh1
    exact ⟨e0, rfl⟩
  · cases h
def Fz29.enc (e : TypeId) (r : Bool) : Res := ⟨[.val .bool r], []⟩
noncomputable def Fz29.sig (f : Fz29.A → Option Fz29.B) : Sig := mkSig [] Fz29.dec f (fun avs r => Fz29.enc 0 r)
abbrev Fz29.S (f : Fz29.A → Option Fz29.B) : Prop := Sound Tryd.pinned.checked.prog 34 (Fz29.sig f)
abbrev spec_l04Ok.A : Type := (List (List ((Int × Int) × Int)))
abbrev spec_l04Ok.B : Type := Bool
def spec_l04Ok.dec (avs : List AV) : Option (List (List ((Int × Int) × Int))) := match avs with
  | [a0] => (a0.toList (.row 48 (.st (.pair (.st (.pair (.int .u8) (.int .i16))) (.int .i16))))).bind fun x0 => some x0
  | _ => none
theorem spec_l04Ok.dec_eq {avs : List AV} {x : (List (List ((Int × Int) × Int)))} (h : spec_l04Ok.dec avs = some x) : ∃ e0, avs = [.obj false ⟨e0, (.row 48 (.st (.pair (.st (.pair (.int .u8) (.int .i16))) (.int .i16)))), x⟩] := by
  unfold spec_l04Ok.dec at h
  split at h
  · obtain ⟨x0, hx0, hh1⟩ := Option.bind_eq_some_iff.1 h
    obtain ⟨e0, rfl⟩ := toList_eq hx0
    obtain rfl := Option.some.inj hh1
    exact ⟨e0, rfl⟩
  · cases h
def spec_l04Ok.enc (e : TypeId) (r : Bool) : Res := ⟨[.val .bool r], []⟩
noncomputable def spec_l04Ok.sig (f : spec_l04Ok.A → Option spec_l04Ok.B) : Sig := mkSig [] spec_l04Ok.dec f (fun avs r => spec_l04Ok.enc 0 r)
abbrev spec_l04Ok.S (f : spec_l04Ok.A → Option spec_l04Ok.B) : Prop := Sound Tryd.pinned.checked.prog 15 (spec_l04Ok.sig f)
abbrev Fz24.A : Type := Int
abbrev Fz24.B : Type := ByteArray
def Fz24.dec (avs : List AV) : Option Int := match avs with
  | [a0] => (a0.toVal (.int .i64)).bind fun x0 => some x0
  | _ => none
theorem Fz24.dec_eq {avs : List AV} {x : Int} (h : Fz24.dec avs = some x) : avs = [.val (.int .i64) x] := by
  unfold Fz24.dec at h
  split at h
  · obtain ⟨x0, hx0, hh1⟩ := Option.bind_eq_some_iff.1 h
    obtain rfl := toVal_eq hx0
    obtain rfl := Option.some.inj hh1
    exact rfl
  · cases h
def Fz24.enc (e : TypeId) (r : ByteArray) : Res := ⟨[.val .str r], []⟩
noncomputable def Fz24.sig (f : Fz24.A → Option Fz24.B) : Sig := mkSig [] Fz24.dec f (fun avs r => Fz24.enc 0 r)
abbrev Fz24.S (f : Fz24.A → Option Fz24.B) : Prop := Sound Tryd.pinned.checked.prog 36 (Fz24.sig f)
abbrev Fz28.A : Type := (Int × Int)
abbrev Fz28.B : Type := ByteArray
def Fz28.dec (avs : List AV) : Option (Int × Int) := match avs with
  | [a0] => (a0.toVal (.st (.pair (.int .u8) (.int .i16)))).bind fun x0 => some x0
  | _ => none
theorem Fz28.dec_eq {avs : List AV} {x : (Int × Int)} (h : Fz28.dec avs = some x) : avs = [.val (.st (.pair (.int .u8) (.int .i16))) x] := by
  unfold Fz28.dec at h
  split at h
  · obtain ⟨x0, hx0, hh1⟩ := Option.bind_eq_some_iff.1 h
    obtain rfl := toVal_eq hx0
    obtain rfl := Option.some.inj hh1
    exact rfl
  · cases h
def Fz28.enc (e : TypeId) (r : ByteArray) : Res := ⟨[.val .str r], []⟩
noncomputable def Fz28.sig (f : Fz28.A → Option Fz28.B) : Sig := mkSig [] Fz28.dec f (fun avs r => Fz28.enc 0 r)
abbrev Fz28.S (f : Fz28.A → Option Fz28.B) : Prop := Sound Tryd.pinned.checked.prog 35 (Fz28.sig f)
abbrev Fz32.A : Type := (List (List ((Int × Int) × Int)))
abbrev Fz32.B : Type := ByteArray
def Fz32.dec (avs : List AV) : Option (List (List ((Int × Int) × Int))) := match avs with
  | [a0] => (a0.toList (.row 48 (.st (.pair (.st (.pair (.int .u8) (.int .i16))) (.int .i16))))).bind fun x0 => some x0
  | _ => none
theorem Fz32.dec_eq {avs : List AV} {x : (List (List ((Int × Int) × Int)))} (h : Fz32.dec avs = some x) : ∃ e0, avs = [.obj false ⟨e0, (.row 48 (.st (.pair (.st (.pair (.int .u8) (.int .i16))) (.int .i16)))), x⟩] := by
  unfold Fz32.dec at h
  split at h
  · obtain ⟨x0, hx0, hh1⟩ := Option.bind_eq_some_iff.1 h
    obtain ⟨e0, rfl⟩ := toList_eq hx0
    obtain rfl := Option.some.inj hh1
    exact ⟨e0, rfl⟩
  · cases h
def Fz32.enc (e : TypeId) (r : ByteArray) : Res := ⟨[.val .str r], []⟩
noncomputable def Fz32.sig (f : Fz32.A → Option Fz32.B) : Sig := mkSig [] Fz32.dec f (fun avs r => Fz32.enc 0 r)
abbrev Fz32.S (f : Fz32.A → Option Fz32.B) : Prop := Sound Tryd.pinned.checked.prog 16 (Fz32.sig f)
abbrev Fz25.A : Type := (List (List ((Int × Int) × Int)))
abbrev Fz25.B : Type := ByteArray
def Fz25.dec (avs : List AV) : Option (List (List ((Int × Int) × Int))) := match avs with
  | [a0] => (a0.toList (.row 48 (.st (.pair (.st (.pair (.int .u8) (.int .i16))) (.int .i16))))).bind fun x0 => some x0
  | _ => none
theorem Fz25.dec_eq {avs : List AV} {x : (List (List ((Int × Int) × Int)))} (h : Fz25.dec avs = some x) : ∃ e0, avs = [.obj false ⟨e0, (.row 48 (.st (.pair (.st (.pair (.int .u8) (.int .i16))) (.int .i16)))), x⟩] := by
  unfold Fz25.dec at h
  split at h
  · obtain ⟨x0, hx0, hh1⟩ := Option.bind_eq_some_iff.1 h
    obtain ⟨e0, rfl⟩ := toList_eq hx0
    obtain rfl := Option.some.inj hh1
    exact ⟨e0, rfl⟩
  · cases h
def Fz25.enc (e : TypeId) (r : ByteArray) : Res := ⟨[.val .str r], []⟩
noncomputable def Fz25.sig (f : Fz25.A → Option Fz25.B) : Sig := mkSig [] Fz25.dec f (fun avs r => Fz25.enc 0 r)
abbrev Fz25.S (f : Fz25.A → Option Fz25.B) : Prop := Sound Tryd.pinned.checked.prog 6 (Fz25.sig f)
abbrev Fz1.A : Type := (List (List ((Int × Int) × Int)))
abbrev Fz1.B : Type := ByteArray
def Fz1.dec (avs : List AV) : Option (List (List ((Int × Int) × Int))) := match avs with
  | [a0] => (a0.toList (.row 48 (.st (.pair (.st (.pair (.int .u8) (.int .i16))) (.int .i16))))).bind fun x0 => some x0
  | _ => none
theorem Fz1.dec_eq {avs : List AV} {x : (List (List ((Int × Int) × Int)))} (h : Fz1.dec avs = some x) : ∃ e0, avs = [.obj false ⟨e0, (.row 48 (.st (.pair (.st (.pair (.int .u8) (.int .i16))) (.int .i16)))), x⟩] := by
  unfold Fz1.dec at h
  split at h
  · obtain ⟨x0, hx0, hh1⟩ := Option.bind_eq_some_iff.1 h
    obtain ⟨e0, rfl⟩ := toList_eq hx0
    obtain rfl := Option.some.inj hh1
    exact ⟨e0, rfl⟩
  · cases h
def Fz1.enc (e : TypeId) (r : ByteArray) : Res := ⟨[.val .str r], []⟩
noncomputable def Fz1.sig (f : Fz1.A → Option Fz1.B) : Sig := mkSig [] Fz1.dec f (fun avs r => Fz1.enc 0 r)
abbrev Fz1.S (f : Fz1.A → Option Fz1.B) : Prop := Sound Tryd.pinned.checked.prog 8 (Fz1.sig f)
abbrev Fz10.A : Type := ((Int × Int) × (Int × Int))
abbrev Fz10.B : Type := Bool
def Fz10.dec (avs : List AV) : Option ((Int × Int) × (Int × Int)) := match avs with
  | [a0, a1] => (a0.toVal (.st (.pair (.int .u8) (.int .i16)))).bind fun x0 => (a1.toVal (.st (.pair (.int .u8) (.int .i16)))).bind fun x1 => some (x0, x1)
  | _ => none
theorem Fz10.dec_eq {avs : List AV} {x : ((Int × Int) × (Int × Int))} (h : Fz10.dec avs = some x) : avs = [.val (.st (.pair (.int .u8) (.int .i16))) x.1, .val (.st (.pair (.int .u8) (.int .i16))) x.2] := by
  unfold Fz10.dec at h
  split at h
  · obtain ⟨x0, hx0, hh1⟩ := Option.bind_eq_some_iff.1 h
    obtain rfl := toVal_eq hx0
    obtain ⟨x1, hx1, hh2⟩ := Option.bind_eq_some_iff.1 hh1
    obtain rfl := toVal_eq hx1
    obtain rfl := Option.some.inj hh2
    exact rfl
  · cases h
def Fz10.enc (e : TypeId) (r : Bool) : Res := ⟨[.val .bool r], []⟩
noncomputable def Fz10.sig (f : Fz10.A → Option Fz10.B) : Sig := mkSig [] Fz10.dec f (fun avs r => Fz10.enc 0 r)
abbrev Fz10.S (f : Fz10.A → Option Fz10.B) : Prop := Sound Tryd.pinned.checked.prog 62 (Fz10.sig f)
abbrev Fz12.A : Type := (((Int × Int) × Int) × ((Int × Int) × Int))
abbrev Fz12.B : Type := Bool
def Fz12.dec (avs : List AV) : Option (((Int × Int) × Int) × ((Int × Int) × Int)) := match avs with
  | [a0, a1] => (a0.toVal (.st (.pair (.st (.pair (.int .u8) (.int .i16))) (.int .i16)))).bind fun x0 => (a1.toVal (.st (.pair (.st (.pair (.int .u8) (.int .i16))) (.int .i16)))).bind fun x1 => some (x0, x1)
  | _ => none
theorem Fz12.dec_eq {avs : List AV} {x : (((Int × Int) × Int) × ((Int × Int) × Int))} (h : Fz12.dec avs = some x) : avs = [.val (.st (.pair (.st (.pair (.int .u8) (.int .i16))) (.int .i16))) x.1, .val (.st (.pair (.st (.pair (.int .u8) (.int .i16))) (.int .i16))) x.2] := by
  unfold Fz12.dec at h
  split at h
  · obtain ⟨x0, hx0, hh1⟩ := Option.bind_eq_some_iff.1 h
    obtain rfl := toVal_eq hx0
    obtain ⟨x1, hx1, hh2⟩ := Option.bind_eq_some_iff.1 hh1
    obtain rfl := toVal_eq hx1
    obtain rfl := Option.some.inj hh2
    exact rfl
  · cases h
def Fz12.enc (e : TypeId) (r : Bool) : Res := ⟨[.val .bool r], []⟩
noncomputable def Fz12.sig (f : Fz12.A → Option Fz12.B) : Sig := mkSig [] Fz12.dec f (fun avs r => Fz12.enc 0 r)
abbrev Fz12.S (f : Fz12.A → Option Fz12.B) : Prop := Sound Tryd.pinned.checked.prog 47 (Fz12.sig f)
abbrev Fz13.A : Type := ((List ((Int × Int) × Int)) × (List ((Int × Int) × Int)))
abbrev Fz13.B : Type := Bool
def Fz13.dec (avs : List AV) : Option ((List ((Int × Int) × Int)) × (List ((Int × Int) × Int))) := match avs with
  | [a0, a1] => (a0.toList (.st (.pair (.st (.pair (.int .u8) (.int .i16))) (.int .i16)))).bind fun x0 => (a1.toList (.st (.pair (.st (.pair (.int .u8) (.int .i16))) (.int .i16)))).bind fun x1 => some (x0, x1)
  | _ => none
theorem Fz13.dec_eq {avs : List AV} {x : ((List ((Int × Int) × Int)) × (List ((Int × Int) × Int)))} (h : Fz13.dec avs = some x) : ∃ e0 e1, avs = [.obj false ⟨e0, (.st (.pair (.st (.pair (.int .u8) (.int .i16))) (.int .i16))), x.1⟩, .obj false ⟨e1, (.st (.pair (.st (.pair (.int .u8) (.int .i16))) (.int .i16))), x.2⟩] := by
  unfold Fz13.dec at h
  split at h
  · obtain ⟨x0, hx0, hh1⟩ := Option.bind_eq_some_iff.1 h
    obtain ⟨e0, rfl⟩ := toList_eq hx0
    obtain ⟨x1, hx1, hh2⟩ := Option.bind_eq_some_iff.1 hh1
    obtain ⟨e1, rfl⟩ := toList_eq hx1
    obtain rfl := Option.some.inj hh2
    exact ⟨e0, e1, rfl⟩
  · cases h
def Fz13.enc (e : TypeId) (r : Bool) : Res := ⟨[.val .bool r], []⟩
noncomputable def Fz13.sig (f : Fz13.A → Option Fz13.B) : Sig := mkSig [] Fz13.dec f (fun avs r => Fz13.enc 0 r)
abbrev Fz13.S (f : Fz13.A → Option Fz13.B) : Prop := Sound Tryd.pinned.checked.prog 24 (Fz13.sig f)
abbrev Fz11.A : Type := ((List (List ((Int × Int) × Int))) × (List (List ((Int × Int) × Int))))
abbrev Fz11.B : Type := Bool
def Fz11.dec (avs : List AV) : Option ((List (List ((Int × Int) × Int))) × (List (List ((Int × Int) × Int)))) := match avs with
  | [a0, a1] => (a0.toList (.row 48 (.st (.pair (.st (.pair (.int .u8) (.int .i16))) (.int .i16))))).bind fun x0 => (a1.toList (.row 48 (.st (.pair (.st (.pair (.int .u8) (.int .i16))) (.int .i16))))).bind fun x1 => some (x0, x1)
  | _ => none
theorem Fz11.dec_eq {avs : List AV} {x : ((List (List ((Int × Int) × Int))) × (List (List ((Int × Int) × Int))))} (h : Fz11.dec avs = some x) : ∃ e0 e1, avs = [.obj false ⟨e0, (.row 48 (.st (.pair (.st (.pair (.int .u8) (.int .i16))) (.int .i16)))), x.1⟩, .obj false ⟨e1, (.row 48 (.st (.pair (.st (.pair (.int .u8) (.int .i16))) (.int .i16)))), x.2⟩] := by
  unfold Fz11.dec at h
  split at h
  · obtain ⟨x0, hx0, hh1⟩ := Option.bind_eq_some_iff.1 h
    obtain ⟨e0, rfl⟩ := toList_eq hx0
    obtain ⟨x1, hx1, hh2⟩ := Option.bind_eq_some_iff.1 hh1
    obtain ⟨e1, rfl⟩ := toList_eq hx1
    obtain rfl := Option.some.inj hh2
    exact ⟨e0, e1, rfl⟩
  · cases h
def Fz11.enc (e : TypeId) (r : Bool) : Res := ⟨[.val .bool r], []⟩
noncomputable def Fz11.sig (f : Fz11.A → Option Fz11.B) : Sig := mkSig [] Fz11.dec f (fun avs r => Fz11.enc 0 r)
abbrev Fz11.S (f : Fz11.A → Option Fz11.B) : Prop := Sound Tryd.pinned.checked.prog 9 (Fz11.sig f)
abbrev laws_FnExactRackText.A : Type := (List (List ((Int × Int) × Int)))
abbrev laws_FnExactRackText.B : Type := Bool
def laws_FnExactRackText.dec (avs : List AV) : Option (List (List ((Int × Int) × Int))) := match avs with
  | [a0] => (a0.toList (.row 75 (.st (.pair (.st (.pair (.int .u8) (.int .i16))) (.int .i16))))).bind fun x0 => some x0
  | _ => none
theorem laws_FnExactRackText.dec_eq {avs : List AV} {x : (List (List ((Int × Int) × Int)))} (h : laws_FnExactRackText.dec avs = some x) : ∃ e0, avs = [.obj false ⟨e0, (.row 75 (.st (.pair (.st (.pair (.int .u8) (.int .i16))) (.int .i16)))), x⟩] := by
  unfold laws_FnExactRackText.dec at h
  split at h
  · obtain ⟨x0, hx0, hh1⟩ := Option.bind_eq_some_iff.1 h
    obtain ⟨e0, rfl⟩ := toList_eq hx0
    obtain rfl := Option.some.inj hh1
    exact ⟨e0, rfl⟩
  · cases h
def laws_FnExactRackText.enc (e : TypeId) (r : Bool) : Res := ⟨[.val .bool r], []⟩
noncomputable def laws_FnExactRackText.sig (f : laws_FnExactRackText.A → Option laws_FnExactRackText.B) : Sig := mkSig [] laws_FnExactRackText.dec f (fun avs r => laws_FnExactRackText.enc 0 r)
abbrev laws_FnExactRackText.S (f : laws_FnExactRackText.A → Option laws_FnExactRackText.B) : Prop := Sound Tryd.pinned.checked.prog 3 (laws_FnExactRackText.sig f)
abbrev Fz8.A : Type := (Int × Int × Int)
abbrev Fz8.B : Type := Bool
def Fz8.dec (avs : List AV) : Option (Int × Int × Int) := match avs with
  | [a0, a1, a2] => (a0.toVal (.int .i64)).bind fun x0 => (a1.toVal (.int .i64)).bind fun x1 => (a2.toVal (.int .i64)).bind fun x2 => some (x0, x1, x2)
  | _ => none
theorem Fz8.dec_eq {avs : List AV} {x : (Int × Int × Int)} (h : Fz8.dec avs = some x) : avs = [.val (.int .i64) x.1, .val (.int .i64) x.2.1, .val (.int .i64) x.2.2] := by
  unfold Fz8.dec at h
  split at h
  · obtain ⟨x0, hx0, hh1⟩ := Option.bind_eq_some_iff.1 h
    obtain rfl := toVal_eq hx0
    obtain ⟨x1, hx1, hh2⟩ := Option.bind_eq_some_iff.1 hh1
    obtain rfl := toVal_eq hx1
    obtain ⟨x2, hx2, hh3⟩ := Option.bind_eq_some_iff.1 hh2
    obtain rfl := toVal_eq hx2
    obtain rfl := Option.some.inj hh3
    exact rfl
  · cases h
def Fz8.enc (e : TypeId) (r : Bool) : Res := ⟨[.val .bool r], []⟩
noncomputable def Fz8.sig (f : Fz8.A → Option Fz8.B) : Sig := mkSig [] Fz8.dec f (fun avs r => Fz8.enc 0 r)
abbrev Fz8.S (f : Fz8.A → Option Fz8.B) : Prop := Sound Tryd.pinned.checked.prog 54 (Fz8.sig f)
abbrev Fz2.A : Type := (Int × Int)
abbrev Fz2.B : Type := Bool
def Fz2.dec (avs : List AV) : Option (Int × Int) := match avs with
  | [a0] => (a0.toVal (.st (.pair (.int .u8) (.int .i16)))).bind fun x0 => some x0
  | _ => none
theorem Fz2.dec_eq {avs : List AV} {x : (Int × Int)} (h : Fz2.dec avs = some x) : avs = [.val (.st (.pair (.int .u8) (.int .i16))) x] := by
  unfold Fz2.dec at h
  split at h
  · obtain ⟨x0, hx0, hh1⟩ := Option.bind_eq_some_iff.1 h
    obtain rfl := toVal_eq hx0
    obtain rfl := Option.some.inj hh1
    exact rfl
  · cases h
def Fz2.enc (e : TypeId) (r : Bool) : Res := ⟨[.val .bool r], []⟩
noncomputable def Fz2.sig (f : Fz2.A → Option Fz2.B) : Sig := mkSig [] Fz2.dec f (fun avs r => Fz2.enc 0 r)
abbrev Fz2.S (f : Fz2.A → Option Fz2.B) : Prop := Sound Tryd.pinned.checked.prog 43 (Fz2.sig f)
abbrev Fz7.A : Type := ((Int × Int) × Int)
abbrev Fz7.B : Type := Bool
def Fz7.dec (avs : List AV) : Option ((Int × Int) × Int) := match avs with
  | [a0] => (a0.toVal (.st (.pair (.st (.pair (.int .u8) (.int .i16))) (.int .i16)))).bind fun x0 => some x0
  | _ => none
theorem Fz7.dec_eq {avs : List AV} {x : ((Int × Int) × Int)} (h : Fz7.dec avs = some x) : avs = [.val (.st (.pair (.st (.pair (.int .u8) (.int .i16))) (.int .i16))) x] := by
  unfold Fz7.dec at h
  split at h
  · obtain ⟨x0, hx0, hh1⟩ := Option.bind_eq_some_iff.1 h
    obtain rfl := toVal_eq hx0
    obtain rfl := Option.some.inj hh1
    exact rfl
  · cases h
def Fz7.enc (e : TypeId) (r : Bool) : Res := ⟨[.val .bool r], []⟩
noncomputable def Fz7.sig (f : Fz7.A → Option Fz7.B) : Sig := mkSig [] Fz7.dec f (fun avs r => Fz7.enc 0 r)
abbrev Fz7.S (f : Fz7.A → Option Fz7.B) : Prop := Sound Tryd.pinned.checked.prog 42 (Fz7.sig f)
abbrev Fz5.A : Type := ((Int × Int) × Int)
abbrev Fz5.B : Type := Bool
def Fz5.dec (avs : List AV) : Option ((Int × Int) × Int) := match avs with
  | [a0] => (a0.toVal (.st (.pair (.st (.pair (.int .u8) (.int .i16))) (.int .i16)))).bind fun x0 => some x0
  | _ => none
theorem Fz5.dec_eq {avs : List AV} {x : ((Int × Int) × Int)} (h : Fz5.dec avs = some x) : avs = [.val (.st (.pair (.st (.pair (.int .u8) (.int .i16))) (.int .i16))) x] := by
  unfold Fz5.dec at h
  split at h
  · obtain ⟨x0, hx0, hh1⟩ := Option.bind_eq_some_iff.1 h
    obtain rfl := toVal_eq hx0
    obtain rfl := Option.some.inj hh1
    exact rfl
  · cases h
def Fz5.enc (e : TypeId) (r : Bool) : Res := ⟨[.val .bool r], []⟩
noncomputable def Fz5.sig (f : Fz5.A → Option Fz5.B) : Sig := mkSig [] Fz5.dec f (fun avs r => Fz5.enc 0 r)
abbrev Fz5.S (f : Fz5.A → Option Fz5.B) : Prop := Sound Tryd.pinned.checked.prog 41 (Fz5.sig f)
abbrev Fz23.A : Type := (List ((Int × Int) × Int))
abbrev Fz23.B : Type := Int
def Fz23.dec (avs : List AV) : Option (List ((Int × Int) × Int)) := match avs with
  | [a0, a1] => (a0.toList (.st (.pair (.st (.pair (.int .u8) (.int .i16))) (.int .i16)))).bind fun x0 => (a1.toFn 41).bind fun q1 => match q1 with | [] => some x0 | _ => none
  | _ => none
theorem Fz23.dec_eq {avs : List AV} {x : (List ((Int × Int) × Int))} (h : Fz23.dec avs = some x) : ∃ e0, avs = [.obj false ⟨e0, (.st (.pair (.st (.pair (.int .u8) (.int .i16))) (.int .i16))), x⟩, .fn 41 []] := by
  unfold Fz23.dec at h
  split at h
  · obtain ⟨x0, hx0, hh1⟩ := Option.bind_eq_some_iff.1 h
    obtain ⟨e0, rfl⟩ := toList_eq hx0
    obtain ⟨q1, hq1, hh2⟩ := Option.bind_eq_some_iff.1 hh1
    obtain ⟨w1, rfl, rfl⟩ := toFn_eq hq1
    match w1, hh2 with
    | [], hh3 =>
    obtain rfl := Option.some.inj hh3
    exact ⟨e0, rfl⟩
  · cases h
def Fz23.enc (e : TypeId) (r : Int) : Res := ⟨[.val (.int .i64) r], []⟩
noncomputable def Fz23.sig (f : Fz23.A → Option Fz23.B) : Sig := mkSig [] Fz23.dec f (fun avs r => Fz23.enc 0 r)
abbrev Fz23.S (f : Fz23.A → Option Fz23.B) : Prop := Sound Tryd.pinned.checked.prog 58 (Fz23.sig f)
abbrev Fz21.A : Type := (List ((Int × Int) × Int))
abbrev Fz21.B : Type := Bool
def Fz21.dec (avs : List AV) : Option (List ((Int × Int) × Int)) := match avs with
  | [a0, a1] => (a0.toList (.st (.pair (.st (.pair (.int .u8) (.int .i16))) (.int .i16)))).bind fun x0 => (a1.toFn 41).bind fun q1 => match q1 with | [] => some x0 | _ => none
  | _ => none
theorem Fz21.dec_eq {avs : List AV} {x : (List ((Int × Int) × Int))} (h : Fz21.dec avs = some x) : ∃ e0, avs = [.obj false ⟨e0, (.st (.pair (.st (.pair (.int .u8) (.int .i16))) (.int .i16))), x⟩, .fn 41 []] := by
  unfold Fz21.dec at h
  split at h
  · obtain ⟨x0, hx0, hh1⟩ := Option.bind_eq_some_iff.1 h
    obtain ⟨e0, rfl⟩ := toList_eq hx0
    obtain ⟨q1, hq1, hh2⟩ := Option.bind_eq_some_iff.1 hh1
    obtain ⟨w1, rfl, rfl⟩ := toFn_eq hq1
    match w1, hh2 with
    | [], hh3 =>
    obtain rfl := Option.some.inj hh3
    exact ⟨e0, rfl⟩
  · cases h
def Fz21.enc (e : TypeId) (r : Bool) : Res := ⟨[.val .bool r], []⟩
noncomputable def Fz21.sig (f : Fz21.A → Option Fz21.B) : Sig := mkSig [] Fz21.dec f (fun avs r => Fz21.enc 0 r)
abbrev Fz21.S (f : Fz21.A → Option Fz21.B) : Prop := Sound Tryd.pinned.checked.prog 40 (Fz21.sig f)
abbrev Fz4.A : Type := (List ((Int × Int) × Int))
abbrev Fz4.B : Type := Bool
def Fz4.dec (avs : List AV) : Option (List ((Int × Int) × Int)) := match avs with
  | [a0] => (a0.toList (.st (.pair (.st (.pair (.int .u8) (.int .i16))) (.int .i16)))).bind fun x0 => some x0
  | _ => none
theorem Fz4.dec_eq {avs : List AV} {x : (List ((Int × Int) × Int))} (h : Fz4.dec avs = some x) : ∃ e0, avs = [.obj false ⟨e0, (.st (.pair (.st (.pair (.int .u8) (.int .i16))) (.int .i16))), x⟩] := by
  unfold Fz4.dec at h
  split at h
  · obtain ⟨x0, hx0, hh1⟩ := Option.bind_eq_some_iff.1 h
    obtain ⟨e0, rfl⟩ := toList_eq hx0
    obtain rfl := Option.some.inj hh1
    exact ⟨e0, rfl⟩
  · cases h
def Fz4.enc (e : TypeId) (r : Bool) : Res := ⟨[.val .bool r], []⟩
noncomputable def Fz4.sig (f : Fz4.A → Option Fz4.B) : Sig := mkSig [] Fz4.dec f (fun avs r => Fz4.enc 0 r)
abbrev Fz4.S (f : Fz4.A → Option Fz4.B) : Prop := Sound Tryd.pinned.checked.prog 39 (Fz4.sig f)
abbrev Fz22.A : Type := (List (List ((Int × Int) × Int)))
abbrev Fz22.B : Type := Int
def Fz22.dec (avs : List AV) : Option (List (List ((Int × Int) × Int))) := match avs with
  | [a0, a1] => (a0.toList (.row 48 (.st (.pair (.st (.pair (.int .u8) (.int .i16))) (.int .i16))))).bind fun x0 => (a1.toFn 39).bind fun q1 => match q1 with | [] => some x0 | _ => none
  | _ => none
theorem Fz22.dec_eq {avs : List AV} {x : (List (List ((Int × Int) × Int)))} (h : Fz22.dec avs = some x) : ∃ e0, avs = [.obj false ⟨e0, (.row 48 (.st (.pair (.st (.pair (.int .u8) (.int .i16))) (.int .i16)))), x⟩, .fn 39 []] := by
  unfold Fz22.dec at h
  split at h
  · obtain ⟨x0, hx0, hh1⟩ := Option.bind_eq_some_iff.1 h
    obtain ⟨e0, rfl⟩ := toList_eq hx0
    obtain ⟨q1, hq1, hh2⟩ := Option.bind_eq_some_iff.1 hh1
    obtain ⟨w1, rfl, rfl⟩ := toFn_eq hq1
    match w1, hh2 with
    | [], hh3 =>
    obtain rfl := Option.some.inj hh3
    exact ⟨e0, rfl⟩
  · cases h
def Fz22.enc (e : TypeId) (r : Int) : Res := ⟨[.val (.int .i64) r], []⟩
noncomputable def Fz22.sig (f : Fz22.A → Option Fz22.B) : Sig := mkSig [] Fz22.dec f (fun avs r => Fz22.enc 0 r)
abbrev Fz22.S (f : Fz22.A → Option Fz22.B) : Prop := Sound Tryd.pinned.checked.prog 57 (Fz22.sig f)
abbrev Fz20.A : Type := (List (List ((Int × Int) × Int)))
abbrev Fz20.B : Type := Bool
def Fz20.dec (avs : List AV) : Option (List (List ((Int × Int) × Int))) := match avs with
  | [a0, a1] => (a0.toList (.row 48 (.st (.pair (.st (.pair (.int .u8) (.int .i16))) (.int .i16))))).bind fun x0 => (a1.toFn 39).bind fun q1 => match q1 with | [] => some x0 | _ => none
  | _ => none
theorem Fz20.dec_eq {avs : List AV} {x : (List (List ((Int × Int) × Int)))} (h : Fz20.dec avs = some x) : ∃ e0, avs = [.obj false ⟨e0, (.row 48 (.st (.pair (.st (.pair (.int .u8) (.int .i16))) (.int .i16)))), x⟩, .fn 39 []] := by
  unfold Fz20.dec at h
  split at h
  · obtain ⟨x0, hx0, hh1⟩ := Option.bind_eq_some_iff.1 h
    obtain ⟨e0, rfl⟩ := toList_eq hx0
    obtain ⟨q1, hq1, hh2⟩ := Option.bind_eq_some_iff.1 hh1
    obtain ⟨w1, rfl, rfl⟩ := toFn_eq hq1
    match w1, hh2 with
    | [], hh3 =>
    obtain rfl := Option.some.inj hh3
    exact ⟨e0, rfl⟩
  · cases h
def Fz20.enc (e : TypeId) (r : Bool) : Res := ⟨[.val .bool r], []⟩
noncomputable def Fz20.sig (f : Fz20.A → Option Fz20.B) : Sig := mkSig [] Fz20.dec f (fun avs r => Fz20.enc 0 r)
abbrev Fz20.S (f : Fz20.A → Option Fz20.B) : Prop := Sound Tryd.pinned.checked.prog 38 (Fz20.sig f)
abbrev Fz3.A : Type := (List (List ((Int × Int) × Int)))
abbrev Fz3.B : Type := Bool
def Fz3.dec (avs : List AV) : Option (List (List ((Int × Int) × Int))) := match avs with
  | [a0] => (a0.toList (.row 48 (.st (.pair (.st (.pair (.int .u8) (.int .i16))) (.int .i16))))).bind fun x0 => some x0
  | _ => none
theorem Fz3.dec_eq {avs : List AV} {x : (List (List ((Int × Int) × Int)))} (h : Fz3.dec avs = some x) : ∃ e0, avs = [.obj false ⟨e0, (.row 48 (.st (.pair (.st (.pair (.int .u8) (.int .i16))) (.int .i16)))), x⟩] := by
  unfold Fz3.dec at h
  split at h
  · obtain ⟨x0, hx0, hh1⟩ := Option.bind_eq_some_iff.1 h
    obtain ⟨e0, rfl⟩ := toList_eq hx0
    obtain rfl := Option.some.inj hh1
    exact ⟨e0, rfl⟩
  · cases h
def Fz3.enc (e : TypeId) (r : Bool) : Res := ⟨[.val .bool r], []⟩
noncomputable def Fz3.sig (f : Fz3.A → Option Fz3.B) : Sig := mkSig [] Fz3.dec f (fun avs r => Fz3.enc 0 r)
abbrev Fz3.S (f : Fz3.A → Option Fz3.B) : Prop := Sound Tryd.pinned.checked.prog 18 (Fz3.sig f)
abbrev Fz6.A : Type := Int
abbrev Fz6.B : Type := ByteArray
def Fz6.dec (avs : List AV) : Option Int := match avs with
  | [a0] => (a0.toVal (.int .i64)).bind fun x0 => some x0
  | _ => none
theorem Fz6.dec_eq {avs : List AV} {x : Int} (h : Fz6.dec avs = some x) : avs = [.val (.int .i64) x] := by
  unfold Fz6.dec at h
  split at h
  · obtain ⟨x0, hx0, hh1⟩ := Option.bind_eq_some_iff.1 h
    obtain rfl := toVal_eq hx0
    obtain rfl := Option.some.inj hh1
    exact rfl
  · cases h
def Fz6.enc (e : TypeId) (r : ByteArray) : Res := ⟨[.val .str r], []⟩
noncomputable def Fz6.sig (f : Fz6.A → Option Fz6.B) : Sig := mkSig [] Fz6.dec f (fun avs r => Fz6.enc 0 r)
abbrev Fz6.S (f : Fz6.A → Option Fz6.B) : Prop := Sound Tryd.pinned.checked.prog 20 (Fz6.sig f)
abbrev Fz0.A : Type := (Int × Int)
abbrev Fz0.B : Type := ByteArray
def Fz0.dec (avs : List AV) : Option (Int × Int) := match avs with
  | [a0] => (a0.toVal (.st (.pair (.int .u8) (.int .i16)))).bind fun x0 => some x0
  | _ => none
theorem Fz0.dec_eq {avs : List AV} {x : (Int × Int)} (h : Fz0.dec avs = some x) : avs = [.val (.st (.pair (.int .u8) (.int .i16))) x] := by
  unfold Fz0.dec at h
  split at h
  · obtain ⟨x0, hx0, hh1⟩ := Option.bind_eq_some_iff.1 h
    obtain rfl := toVal_eq hx0
    obtain rfl := Option.some.inj hh1
    exact rfl
  · cases h
def Fz0.enc (e : TypeId) (r : ByteArray) : Res := ⟨[.val .str r], []⟩
noncomputable def Fz0.sig (f : Fz0.A → Option Fz0.B) : Sig := mkSig [] Fz0.dec f (fun avs r => Fz0.enc 0 r)
abbrev Fz0.S (f : Fz0.A → Option Fz0.B) : Prop := Sound Tryd.pinned.checked.prog 19 (Fz0.sig f)
end Go.Proofs.YteaodjahafgbcaaDoor.G
