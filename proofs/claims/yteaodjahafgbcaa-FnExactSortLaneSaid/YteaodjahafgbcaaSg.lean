import Derived.Test.YteaodjahafgbcaaGTT
namespace Go.Proofs.Yteaodjahafgbcaa.G
open Go Go.Proofs
set_option linter.unusedVariables false
set_option linter.unusedSimpArgs false
set_option maxRecDepth 100000
abbrev laws_szStoredS.A : Type := ((List ((Int × Int) × Int)) × Int)
abbrev laws_szStoredS.B : Type := Int
def laws_szStoredS.dec (avs : List AV) : Option ((List ((Int × Int) × Int)) × Int) := match avs with
  | [a0, a1] => (a0.toList (.st (.pair (.st (.pair (.int .u8) (.int .i16))) (.int .i16)))).bind fun x0 => (a1.toVal (.int .i64)).bind fun x1 => some (x0, x1)
  | _ => none
theorem laws_szStoredS.dec_eq {avs : List AV} {x : ((List ((Int × Int) × Int)) × Int)} (h : laws_szStoredS.dec avs = some x) : ∃ e0, avs = [.obj false ⟨e0, (.st (.pair (.st (.pair (.int .u8) (.int .i16))) (.int .i16))), x.1⟩, .val (.int .i64) x.2] := by
  unfold laws_szStoredS.dec at h
  split at h
  · obtain ⟨x0, hx0, hh1⟩ := Option.bind_eq_some_iff.1 h
    obtain ⟨e0, rfl⟩ := toList_eq hx0
    obtain ⟨x1, hx1, hh2⟩ := Option.bind_eq_some_iff.1 hh1
    obtain rfl := toVal_eq hx1
    obtain rfl := Option.some.inj hh2
    exact ⟨e0, rfl⟩
  · cases h
def laws_szStoredS.enc (e : TypeId) (r : Int) : Res := ⟨[.val (.int .i64) r], []⟩
noncomputable def laws_szStoredS.sig (f : laws_szStoredS.A → Option laws_szStoredS.B) : Sig := mkSig [] laws_szStoredS.dec f fun avs r => laws_szStoredS.enc 0 r
abbrev laws_szStoredS.S (f : laws_szStoredS.A → Option laws_szStoredS.B) : Prop := Sound Try.pinned.checked.prog 10 (laws_szStoredS.sig f)
abbrev laws_szRack.A : Type := ((List (List ((Int × Int) × Int))) × Int)
abbrev laws_szRack.B : Type := Int
def laws_szRack.dec (avs : List AV) : Option ((List (List ((Int × Int) × Int))) × Int) := match avs with
  | [a0, a1] => (a0.toList (.row 85 (.st (.pair (.st (.pair (.int .u8) (.int .i16))) (.int .i16))))).bind fun x0 => (a1.toVal (.int .i64)).bind fun x1 => some (x0, x1)
  | _ => none
theorem laws_szRack.dec_eq {avs : List AV} {x : ((List (List ((Int × Int) × Int))) × Int)} (h : laws_szRack.dec avs = some x) : ∃ e0, avs = [.obj false ⟨e0, (.row 85 (.st (.pair (.st (.pair (.int .u8) (.int .i16))) (.int .i16)))), x.1⟩, .val (.int .i64) x.2] := by
  unfold laws_szRack.dec at h
  split at h
  · obtain ⟨x0, hx0, hh1⟩ := Option.bind_eq_some_iff.1 h
    obtain ⟨e0, rfl⟩ := toList_eq hx0
    obtain ⟨x1, hx1, hh2⟩ := Option.bind_eq_some_iff.1 hh1
    obtain rfl := toVal_eq hx1
    obtain rfl := Option.some.inj hh2
    exact ⟨e0, rfl⟩
  · cases h
def laws_szRack.enc (e : TypeId) (r : Int) : Res := ⟨[.val (.int .i64) r], []⟩
noncomputable def laws_szRack.sig (f : laws_szRack.A → Option laws_szRack.B) : Sig := mkSig [] laws_szRack.dec f fun avs r => laws_szRack.enc 0 r
abbrev laws_szRack.S (f : laws_szRack.A → Option laws_szRack.B) : Prop := Sound Try.pinned.checked.prog 15 (laws_szRack.sig f)
abbrev laws_toBottle.A : Type := (Int × Int)
abbrev laws_toBottle.B : Type := (Int × Int)
def laws_toBottle.dec (avs : List AV) : Option (Int × Int) := match avs with
  | [a0] => (a0.toVal (.st (.pair (.int .u8) (.int .i16)))).bind fun x0 => some x0
  | _ => none
theorem laws_toBottle.dec_eq {avs : List AV} {x : (Int × Int)} (h : laws_toBottle.dec avs = some x) : avs = [.val (.st (.pair (.int .u8) (.int .i16))) x] := by
  unfold laws_toBottle.dec at h
  split at h
  · obtain ⟨x0, hx0, hh1⟩ := Option.bind_eq_some_iff.1 h
    obtain rfl := toVal_eq hx0
    obtain rfl := Option.some.inj hh1
    exact rfl
  · cases h
def laws_toBottle.enc (e : TypeId) (r : (Int × Int)) : Res := ⟨[.val (.st (.pair (.int .u8) (.int .i16))) r], []⟩
noncomputable def laws_toBottle.sig (f : laws_toBottle.A → Option laws_toBottle.B) : Sig := mkSig [] laws_toBottle.dec f fun avs r => laws_toBottle.enc 0 r
abbrev laws_toBottle.S (f : laws_toBottle.A → Option laws_toBottle.B) : Prop := Sound Try.pinned.checked.prog 29 (laws_toBottle.sig f)
abbrev laws_toStored.A : Type := ((Int × Int) × Int)
abbrev laws_toStored.B : Type := ((Int × Int) × Int)
def laws_toStored.dec (avs : List AV) : Option ((Int × Int) × Int) := match avs with
  | [a0] => (a0.toVal (.st (.pair (.st (.pair (.int .u8) (.int .i16))) (.int .i16)))).bind fun x0 => some x0
  | _ => none
theorem laws_toStored.dec_eq {avs : List AV} {x : ((Int × Int) × Int)} (h : laws_toStored.dec avs = some x) : avs = [.val (.st (.pair (.st (.pair (.int .u8) (.int .i16))) (.int .i16))) x] := by
  unfold laws_toStored.dec at h
  split at h
  · obtain ⟨x0, hx0, hh1⟩ := Option.bind_eq_some_iff.1 h
    obtain rfl := toVal_eq hx0
    obtain rfl := Option.some.inj hh1
    exact rfl
  · cases h
def laws_toStored.enc (e : TypeId) (r : ((Int × Int) × Int)) : Res := ⟨[.val (.st (.pair (.st (.pair (.int .u8) (.int .i16))) (.int .i16))) r], []⟩
noncomputable def laws_toStored.sig (f : laws_toStored.A → Option laws_toStored.B) : Sig := mkSig [] laws_toStored.dec f fun avs r => laws_toStored.enc 0 r
abbrev laws_toStored.S (f : laws_toStored.A → Option laws_toStored.B) : Prop := Sound Try.pinned.checked.prog 58 (laws_toStored.sig f)
abbrev laws_toStoredS.A : Type := (List ((Int × Int) × Int))
abbrev laws_toStoredS.B : Type := (List ((Int × Int) × Int))
def laws_toStoredS.dec (avs : List AV) : Option (List ((Int × Int) × Int)) := match avs with
  | [a0] => (a0.toList (.st (.pair (.st (.pair (.int .u8) (.int .i16))) (.int .i16)))).bind fun x0 => some x0
  | _ => none
theorem laws_toStoredS.dec_eq {avs : List AV} {x : (List ((Int × Int) × Int))} (h : laws_toStoredS.dec avs = some x) : ∃ e0, avs = [.obj false ⟨e0, (.st (.pair (.st (.pair (.int .u8) (.int .i16))) (.int .i16))), x⟩] := by
  unfold laws_toStoredS.dec at h
  split at h
  · obtain ⟨x0, hx0, hh1⟩ := Option.bind_eq_some_iff.1 h
    obtain ⟨e0, rfl⟩ := toList_eq hx0
    obtain rfl := Option.some.inj hh1
    exact ⟨e0, rfl⟩
  · cases h
def laws_toStoredS.enc (e : TypeId) (r : (List ((Int × Int) × Int))) : Res := ⟨[.own ⟨52, (.st (.pair (.st (.pair (.int .u8) (.int .i16))) (.int .i16))), r⟩], []⟩
noncomputable def laws_toStoredS.sig (f : laws_toStoredS.A → Option laws_toStoredS.B) : Sig := mkSig [] laws_toStoredS.dec f fun avs r => laws_toStoredS.enc 0 r
abbrev laws_toStoredS.S (f : laws_toStoredS.A → Option laws_toStoredS.B) : Prop := Sound Try.pinned.checked.prog 12 (laws_toStoredS.sig f)
abbrev laws_toRack.A : Type := (List (List ((Int × Int) × Int)))
abbrev laws_toRack.B : Type := (List (List ((Int × Int) × Int)))
def laws_toRack.dec (avs : List AV) : Option (List (List ((Int × Int) × Int))) := match avs with
  | [a0] => (a0.toList (.row 85 (.st (.pair (.st (.pair (.int .u8) (.int .i16))) (.int .i16))))).bind fun x0 => some x0
  | _ => none
theorem laws_toRack.dec_eq {avs : List AV} {x : (List (List ((Int × Int) × Int)))} (h : laws_toRack.dec avs = some x) : ∃ e0, avs = [.obj false ⟨e0, (.row 85 (.st (.pair (.st (.pair (.int .u8) (.int .i16))) (.int .i16)))), x⟩] := by
  unfold laws_toRack.dec at h
  split at h
  · obtain ⟨x0, hx0, hh1⟩ := Option.bind_eq_some_iff.1 h
    obtain ⟨e0, rfl⟩ := toList_eq hx0
    obtain rfl := Option.some.inj hh1
    exact ⟨e0, rfl⟩
  · cases h
def laws_toRack.enc (e : TypeId) (r : (List (List ((Int × Int) × Int)))) : Res := ⟨[.own ⟨26, (.row 52 (.st (.pair (.st (.pair (.int .u8) (.int .i16))) (.int .i16)))), r⟩], []⟩
noncomputable def laws_toRack.sig (f : laws_toRack.A → Option laws_toRack.B) : Sig := mkSig [] laws_toRack.dec f fun avs r => laws_toRack.enc 0 r
abbrev laws_toRack.S (f : laws_toRack.A → Option laws_toRack.B) : Prop := Sound Try.pinned.checked.prog 17 (laws_toRack.sig f)
abbrev spec_l00In.A : Type := (Int × Int × Int)
abbrev spec_l00In.B : Type := Bool
def spec_l00In.dec (avs : List AV) : Option (Int × Int × Int) := match avs with
  | [a0, a1, a2] => (a0.toVal (.int .i64)).bind fun x0 => (a1.toVal (.int .i64)).bind fun x1 => (a2.toVal (.int .i64)).bind fun x2 => some (x0, x1, x2)
  | _ => none
theorem spec_l00In.dec_eq {avs : List AV} {x : (Int × Int × Int)} (h : spec_l00In.dec avs = some x) : avs = [.val (.int .i64) x.1, .val (.int .i64) x.2.1, .val (.int .i64) x.2.2] := by
  unfold spec_l00In.dec at h
  split at h
  · obtain ⟨x0, hx0, hh1⟩ := Option.bind_eq_some_iff.1 h
    obtain rfl := toVal_eq hx0
    obtain ⟨x1, hx1, hh2⟩ := Option.bind_eq_some_iff.1 hh1
    obtain rfl := toVal_eq hx1
    obtain ⟨x2, hx2, hh3⟩ := Option.bind_eq_some_iff.1 hh2
    obtain rfl := toVal_eq hx2
    obtain rfl := Option.some.inj hh3
    exact rfl
  · cases h
def spec_l00In.enc (e : TypeId) (r : Bool) : Res := ⟨[.val .bool r], []⟩
noncomputable def spec_l00In.sig (f : spec_l00In.A → Option spec_l00In.B) : Sig := mkSig [] spec_l00In.dec f fun avs r => spec_l00In.enc 0 r
abbrev spec_l00In.S (f : spec_l00In.A → Option spec_l00In.B) : Prop := Sound Try.pinned.checked.prog 98 (spec_l00In.sig f)
abbrev spec_l01Bottle.A : Type := (Int × Int)
abbrev spec_l01Bottle.B : Type := Bool
def spec_l01Bottle.dec (avs : List AV) : Option (Int × Int) := match avs with
  | [a0] => (a0.toVal (.st (.pair (.int .u8) (.int .i16)))).bind fun x0 => some x0
  | _ => none
theorem spec_l01Bottle.dec_eq {avs : List AV} {x : (Int × Int)} (h : spec_l01Bottle.dec avs = some x) : avs = [.val (.st (.pair (.int .u8) (.int .i16))) x] := by
  unfold spec_l01Bottle.dec at h
  split at h
  · obtain ⟨x0, hx0, hh1⟩ := Option.bind_eq_some_iff.1 h
    obtain rfl := toVal_eq hx0
    obtain rfl := Option.some.inj hh1
    exact rfl
  · cases h
def spec_l01Bottle.enc (e : TypeId) (r : Bool) : Res := ⟨[.val .bool r], []⟩
noncomputable def spec_l01Bottle.sig (f : spec_l01Bottle.A → Option spec_l01Bottle.B) : Sig := mkSig [] spec_l01Bottle.dec f fun avs r => spec_l01Bottle.enc 0 r
abbrev spec_l01Bottle.S (f : spec_l01Bottle.A → Option spec_l01Bottle.B) : Prop := Sound Try.pinned.checked.prog 88 (spec_l01Bottle.sig f)
abbrev spec_l04Stored.A : Type := ((Int × Int) × Int)
abbrev spec_l04Stored.B : Type := Bool
def spec_l04Stored.dec (avs : List AV) : Option ((Int × Int) × Int) := match avs with
  | [a0] => (a0.toBox (.st (.pair (.st (.pair (.int .u8) (.int .i16))) (.int .i16)))).bind fun x0 => some x0
  | _ => none
theorem spec_l04Stored.dec_eq {avs : List AV} {x : ((Int × Int) × Int)} (h : spec_l04Stored.dec avs = some x) : ∃ e0, avs = [.obj true ⟨e0, (.st (.pair (.st (.pair (.int .u8) (.int .i16))) (.int .i16))), [x]⟩] := by
  unfold spec_l04Stored.dec at h
  split at h
  · obtain ⟨x0, hx0, hh1⟩ := Option.bind_eq_some_iff.1 h
    obtain ⟨e0, rfl⟩ := toBox_eq hx0
    obtain rfl := Option.some.inj hh1
    exact ⟨e0, rfl⟩
  · cases h
def spec_l04Stored.enc (e : TypeId) (r : Bool) : Res := ⟨[.val .bool r], []⟩
noncomputable def spec_l04Stored.sig (f : spec_l04Stored.A → Option spec_l04Stored.B) : Sig := mkSig [] spec_l04Stored.dec f fun avs r => spec_l04Stored.enc 0 r
abbrev spec_l04Stored.S (f : spec_l04Stored.A → Option spec_l04Stored.B) : Prop := Sound Try.pinned.checked.prog 97 (spec_l04Stored.sig f)
abbrev spec_l04All.A : Type := (List ((Int × Int) × Int))
abbrev spec_l04All.B : Type := Bool
def spec_l04All.dec (avs : List AV) : Option (List ((Int × Int) × Int)) := match avs with
  | [a0] => (a0.toList (.st (.pair (.st (.pair (.int .u8) (.int .i16))) (.int .i16)))).bind fun x0 => some x0
  | _ => none
theorem spec_l04All.dec_eq {avs : List AV} {x : (List ((Int × Int) × Int))} (h : spec_l04All.dec avs = some x) : ∃ e0, avs = [.obj false ⟨e0, (.st (.pair (.st (.pair (.int .u8) (.int .i16))) (.int .i16))), x⟩] := by
  unfold spec_l04All.dec at h
  split at h
  · obtain ⟨x0, hx0, hh1⟩ := Option.bind_eq_some_iff.1 h
    obtain ⟨e0, rfl⟩ := toList_eq hx0
    obtain rfl := Option.some.inj hh1
    exact ⟨e0, rfl⟩
  · cases h
def spec_l04All.enc (e : TypeId) (r : Bool) : Res := ⟨[.val .bool r], []⟩
noncomputable def spec_l04All.sig (f : spec_l04All.A → Option spec_l04All.B) : Sig := mkSig [] spec_l04All.dec f fun avs r => spec_l04All.enc 0 r
abbrev spec_l04All.S (f : spec_l04All.A → Option spec_l04All.B) : Prop := Sound Try.pinned.checked.prog 55 (spec_l04All.sig f)
abbrev spec_l04Ok.A : Type := (List (List ((Int × Int) × Int)))
abbrev spec_l04Ok.B : Type := Bool
def spec_l04Ok.dec (avs : List AV) : Option (List (List ((Int × Int) × Int))) := match avs with
  | [a0] => (a0.toList (.row 52 (.st (.pair (.st (.pair (.int .u8) (.int .i16))) (.int .i16))))).bind fun x0 => some x0
  | _ => none
theorem spec_l04Ok.dec_eq {avs : List AV} {x : (List (List ((Int × Int) × Int)))} (h : spec_l04Ok.dec avs = some x) : ∃ e0, avs = [.obj false ⟨e0, (.row 52 (.st (.pair (.st (.pair (.int .u8) (.int .i16))) (.int .i16)))), x⟩] := by
  unfold spec_l04Ok.dec at h
  split at h
  · obtain ⟨x0, hx0, hh1⟩ := Option.bind_eq_some_iff.1 h
    obtain ⟨e0, rfl⟩ := toList_eq hx0
    obtain rfl := Option.some.inj hh1
    exact ⟨e0, rfl⟩
  · cases h
def spec_l04Ok.enc (e : TypeId) (r : Bool) : Res := ⟨[.val .bool r], []⟩
noncomputable def spec_l04Ok.sig (f : spec_l04Ok.A → Option spec_l04Ok.B) : Sig := mkSig [] spec_l04Ok.dec f fun avs r => spec_l04Ok.enc 0 r
abbrev spec_l04Ok.S (f : spec_l04Ok.A → Option spec_l04Ok.B) : Prop := Sound Try.pinned.checked.prog 63 (spec_l04Ok.sig f)
abbrev spec_l04Lane.A : Type := ((List (List ((Int × Int) × Int))) × Int)
abbrev spec_l04Lane.B : Type := Bool
def spec_l04Lane.dec (avs : List AV) : Option ((List (List ((Int × Int) × Int))) × Int) := match avs with
  | [a0, a1] => (a0.toList (.row 52 (.st (.pair (.st (.pair (.int .u8) (.int .i16))) (.int .i16))))).bind fun x0 => (a1.toVal (.int .i64)).bind fun x1 => some (x0, x1)
  | _ => none
theorem spec_l04Lane.dec_eq {avs : List AV} {x : ((List (List ((Int × Int) × Int))) × Int)} (h : spec_l04Lane.dec avs = some x) : ∃ e0, avs = [.obj false ⟨e0, (.row 52 (.st (.pair (.st (.pair (.int .u8) (.int .i16))) (.int .i16)))), x.1⟩, .val (.int .i64) x.2] := by
  unfold spec_l04Lane.dec at h
  split at h
  · obtain ⟨x0, hx0, hh1⟩ := Option.bind_eq_some_iff.1 h
    obtain ⟨e0, rfl⟩ := toList_eq hx0
    obtain ⟨x1, hx1, hh2⟩ := Option.bind_eq_some_iff.1 hh1
    obtain rfl := toVal_eq hx1
    obtain rfl := Option.some.inj hh2
    exact ⟨e0, rfl⟩
  · cases h
def spec_l04Lane.enc (e : TypeId) (r : Bool) : Res := ⟨[.val .bool r], []⟩
noncomputable def spec_l04Lane.sig (f : spec_l04Lane.A → Option spec_l04Lane.B) : Sig := mkSig [] spec_l04Lane.dec f fun avs r => spec_l04Lane.enc 0 r
abbrev spec_l04Lane.S (f : spec_l04Lane.A → Option spec_l04Lane.B) : Prop := Sound Try.pinned.checked.prog 69 (spec_l04Lane.sig f)
abbrev spec_l04Own.A : Type := (List (List ((Int × Int) × Int)))
abbrev spec_l04Own.B : Type := (List (List ((Int × Int) × Int)))
def spec_l04Own.dec (avs : List AV) : Option (List (List ((Int × Int) × Int))) := match avs with
  | [a0] => (a0.toList (.row 52 (.st (.pair (.st (.pair (.int .u8) (.int .i16))) (.int .i16))))).bind fun x0 => some x0
  | _ => none
theorem spec_l04Own.dec_eq {avs : List AV} {x : (List (List ((Int × Int) × Int)))} (h : spec_l04Own.dec avs = some x) : ∃ e0, avs = [.obj false ⟨e0, (.row 52 (.st (.pair (.st (.pair (.int .u8) (.int .i16))) (.int .i16)))), x⟩] := by
  unfold spec_l04Own.dec at h
  split at h
  · obtain ⟨x0, hx0, hh1⟩ := Option.bind_eq_some_iff.1 h
    obtain ⟨e0, rfl⟩ := toList_eq hx0
    obtain rfl := Option.some.inj hh1
    exact ⟨e0, rfl⟩
  · cases h
def spec_l04Own.enc (e : TypeId) (r : (List (List ((Int × Int) × Int)))) : Res := ⟨[.own ⟨26, (.row 52 (.st (.pair (.st (.pair (.int .u8) (.int .i16))) (.int .i16)))), r⟩], []⟩
noncomputable def spec_l04Own.sig (f : spec_l04Own.A → Option spec_l04Own.B) : Sig := mkSig [] spec_l04Own.dec f fun avs r => spec_l04Own.enc 0 r
abbrev spec_l04Own.S (f : spec_l04Own.A → Option spec_l04Own.B) : Prop := Sound Try.pinned.checked.prog 64 (spec_l04Own.sig f)
abbrev spec_SortLane.A : Type := ((List (List ((Int × Int) × Int))) × Int)
abbrev spec_SortLane.B : Type := ((List (List ((Int × Int) × Int))) × Int)
def spec_SortLane.dec (avs : List AV) : Option ((List (List ((Int × Int) × Int))) × Int) := match avs with
  | [a0, a1] => (a0.toList (.row 52 (.st (.pair (.st (.pair (.int .u8) (.int .i16))) (.int .i16))))).bind fun x0 => (a1.toVal (.int .i64)).bind fun x1 => some (x0, x1)
  | _ => none
theorem spec_SortLane.dec_eq {avs : List AV} {x : ((List (List ((Int × Int) × Int))) × Int)} (h : spec_SortLane.dec avs = some x) : ∃ e0, avs = [.obj false ⟨e0, (.row 52 (.st (.pair (.st (.pair (.int .u8) (.int .i16))) (.int .i16)))), x.1⟩, .val (.int .i64) x.2] := by
  unfold spec_SortLane.dec at h
  split at h
  · obtain ⟨x0, hx0, hh1⟩ := Option.bind_eq_some_iff.1 h
    obtain ⟨e0, rfl⟩ := toList_eq hx0
    obtain ⟨x1, hx1, hh2⟩ := Option.bind_eq_some_iff.1 hh1
    obtain rfl := toVal_eq hx1
    obtain rfl := Option.some.inj hh2
    exact ⟨e0, rfl⟩
  · cases h
def spec_SortLane.enc (e : TypeId) (r : ((List (List ((Int × Int) × Int))) × Int)) : Res := ⟨[.own ⟨26, (.row 52 (.st (.pair (.st (.pair (.int .u8) (.int .i16))) (.int .i16)))), r.1⟩, .val (.int .i64) r.2], []⟩
noncomputable def spec_SortLane.sig (f : spec_SortLane.A → Option spec_SortLane.B) : Sig := mkSig [] spec_SortLane.dec f fun avs r => spec_SortLane.enc 0 r
abbrev spec_SortLane.S (f : spec_SortLane.A → Option spec_SortLane.B) : Prop := Sound Try.pinned.checked.prog 26 (spec_SortLane.sig f)
abbrev impl_within.A : Type := (Int × Int × Int)
abbrev impl_within.B : Type := Bool
def impl_within.dec (avs : List AV) : Option (Int × Int × Int) := match avs with
  | [a0, a1, a2] => (a0.toVal (.int .i64)).bind fun x0 => (a1.toVal (.int .i64)).bind fun x1 => (a2.toVal (.int .i64)).bind fun x2 => some (x0, x1, x2)
  | _ => none
theorem impl_within.dec_eq {avs : List AV} {x : (Int × Int × Int)} (h : impl_within.dec avs = some x) : avs = [.val (.int .i64) x.1, .val (.int .i64) x.2.1, .val (.int .i64) x.2.2] := by
  unfold impl_within.dec at h
  split at h
  · obtain ⟨x0, hx0, hh1⟩ := Option.bind_eq_some_iff.1 h
    obtain rfl := toVal_eq hx0
    obtain ⟨x1, hx1, hh2⟩ := Option.bind_eq_some_iff.1 hh1
    obtain rfl := toVal_eq hx1
    obtain ⟨x2, hx2, hh3⟩ := Option.bind_eq_some_iff.1 hh2
    obtain rfl := toVal_eq hx2
    obtain rfl := Option.some.inj hh3
    exact rfl
  · cases h
def impl_within.enc (e : TypeId) (r : Bool) : Res := ⟨[.val .bool r], []⟩
noncomputable def impl_within.sig (f : impl_within.A → Option impl_within.B) : Sig := mkSig [] impl_within.dec f fun avs r => impl_within.enc 0 r
abbrev impl_within.S (f : impl_within.A → Option impl_within.B) : Prop := Sound Try.pinned.checked.prog 102 (impl_within.sig f)
abbrev impl_ValidBottle.A : Type := (Int × Int)
abbrev impl_ValidBottle.B : Type := Bool
def impl_ValidBottle.dec (avs : List AV) : Option (Int × Int) := match avs with
  | [a0] => (a0.toVal (.st (.pair (.int .u8) (.int .i16)))).bind fun x0 => some x0
  | _ => none
theorem impl_ValidBottle.dec_eq {avs : List AV} {x : (Int × Int)} (h : impl_ValidBottle.dec avs = some x) : avs = [.val (.st (.pair (.int .u8) (.int .i16))) x] := by
  unfold impl_ValidBottle.dec at h
  split at h
  · obtain ⟨x0, hx0, hh1⟩ := Option.bind_eq_some_iff.1 h
    obtain rfl := toVal_eq hx0
    obtain rfl := Option.some.inj hh1
    exact rfl
  · cases h
def impl_ValidBottle.enc (e : TypeId) (r : Bool) : Res := ⟨[.val .bool r], []⟩
noncomputable def impl_ValidBottle.sig (f : impl_ValidBottle.A → Option impl_ValidBottle.B) : Sig := mkSig [] impl_ValidBottle.dec f fun avs r => impl_ValidBottle.enc 0 r
abbrev impl_ValidBottle.S (f : impl_ValidBottle.A → Option impl_ValidBottle.B) : Prop := Sound Try.pinned.checked.prog 75 (impl_ValidBottle.sig f)
abbrev impl_validStored.A : Type := ((Int × Int) × Int)
abbrev impl_validStored.B : Type := Bool
def impl_validStored.dec (avs : List AV) : Option ((Int × Int) × Int) := match avs with
  | [a0] => (a0.toVal (.st (.pair (.st (.pair (.int .u8) (.int .i16))) (.int .i16)))).bind fun x0 => some x0
  | _ => none
theorem impl_validStored.dec_eq {avs : List AV} {x : ((Int × Int) × Int)} (h : impl_validStored.dec avs = some x) : avs = [.val (.st (.pair (.st (.pair (.int .u8) (.int .i16))) (.int .i16))) x] := by
  unfold impl_validStored.dec at h
  split at h
  · obtain ⟨x0, hx0, hh1⟩ := Option.bind_eq_some_iff.1 h
    obtain rfl := toVal_eq hx0
    obtain rfl := Option.some.inj hh1
    exact rfl
  · cases h
def impl_validStored.enc (e : TypeId) (r : Bool) : Res := ⟨[.val .bool r], []⟩
noncomputable def impl_validStored.sig (f : impl_validStored.A → Option impl_validStored.B) : Sig := mkSig [] impl_validStored.dec f fun avs r => impl_validStored.enc 0 r
abbrev impl_validStored.S (f : impl_validStored.A → Option impl_validStored.B) : Prop := Sound Try.pinned.checked.prog 101 (impl_validStored.sig f)
abbrev impl_ValidRack_1_1.A : Type := ((Int × Int) × Int)
abbrev impl_ValidRack_1_1.B : Type := Bool
def impl_ValidRack_1_1.dec (avs : List AV) : Option ((Int × Int) × Int) := match avs with
  | [a0] => (a0.toVal (.st (.pair (.st (.pair (.int .u8) (.int .i16))) (.int .i16)))).bind fun x0 => some x0
  | _ => none
theorem impl_ValidRack_1_1.dec_eq {avs : List AV} {x : ((Int × Int) × Int)} (h : impl_ValidRack_1_1.dec avs = some x) : avs = [.val (.st (.pair (.st (.pair (.int .u8) (.int .i16))) (.int .i16))) x] := by
  unfold impl_ValidRack_1_1.dec at h
  split at h
  · obtain ⟨x0, hx0, hh1⟩ := Option.bind_eq_some_iff.1 h
    obtain rfl := toVal_eq hx0
    obtain rfl := Option.some.inj hh1
    exact rfl
  · cases h
def impl_ValidRack_1_1.enc (e : TypeId) (r : Bool) : Res := ⟨[.val .bool r], []⟩
noncomputable def impl_ValidRack_1_1.sig (f : impl_ValidRack_1_1.A → Option impl_ValidRack_1_1.B) : Sig := mkSig [] impl_ValidRack_1_1.dec f fun avs r => impl_ValidRack_1_1.enc 0 r
abbrev impl_ValidRack_1_1.S (f : impl_ValidRack_1_1.A → Option impl_ValidRack_1_1.B) : Prop := Sound Try.pinned.checked.prog 105 (impl_ValidRack_1_1.sig f)
abbrev slices_IndexFunc_impl_Stored_impl_Stored__impl_ValidRack_1_1.A : Type := (List ((Int × Int) × Int))
abbrev slices_IndexFunc_impl_Stored_impl_Stored__impl_ValidRack_1_1.B : Type := Int
def slices_IndexFunc_impl_Stored_impl_Stored__impl_ValidRack_1_1.dec (avs : List AV) : Option (List ((Int × Int) × Int)) := match avs with
  | [a0, a1] => (a0.toList (.st (.pair (.st (.pair (.int .u8) (.int .i16))) (.int .i16)))).bind fun x0 => (a1.toFn 105).bind fun q1 => match q1 with | [] => some x0 | _ => none
  | _ => none
theorem slices_IndexFunc_impl_Stored_impl_Stored__impl_ValidRack_1_1.dec_eq {avs : List AV} {x : (List ((Int × Int) × Int))} (h : slices_IndexFunc_impl_Stored_impl_Stored__impl_ValidRack_1_1.dec avs = some x) : ∃ e0, avs = [.obj false ⟨e0, (.st (.pair (.st (.pair (.int .u8) (.int .i16))) (.int .i16))), x⟩, .fn 105 []] := by
  unfold slices_IndexFunc_impl_Stored_impl_Stored__impl_ValidRack_1_1.dec at h
  split at h
  · obtain ⟨x0, hx0, hh1⟩ := Option.bind_eq_some_iff.1 h
    obtain ⟨e0, rfl⟩ := toList_eq hx0
    obtain ⟨q1, hq1, hh2⟩ := Option.bind_eq_some_iff.1 hh1
    obtain ⟨w1, rfl, rfl⟩ := toFn_eq hq1
    match w1, hh2 with
    | [], hh3 =>
    obtain rfl := Option.some.inj hh3
    exact ⟨e0, rfl⟩
  · cases h
def slices_IndexFunc_impl_Stored_impl_Stored__impl_ValidRack_1_1.enc (e : TypeId) (r : Int) : Res := ⟨[.val (.int .i64) r], []⟩
noncomputable def slices_IndexFunc_impl_Stored_impl_Stored__impl_ValidRack_1_1.sig (f : slices_IndexFunc_impl_Stored_impl_Stored__impl_ValidRack_1_1.A → Option slices_IndexFunc_impl_Stored_impl_Stored__impl_ValidRack_1_1.B) : Sig := mkSig [] slices_IndexFunc_impl_Stored_impl_Stored__impl_ValidRack_1_1.dec f fun avs r => slices_IndexFunc_impl_Stored_impl_Stored__impl_ValidRack_1_1.enc 0 r
abbrev slices_IndexFunc_impl_Stored_impl_Stored__impl_ValidRack_1_1.S (f : slices_IndexFunc_impl_Stored_impl_Stored__impl_ValidRack_1_1.A → Option slices_IndexFunc_impl_Stored_impl_Stored__impl_ValidRack_1_1.B) : Prop := Sound Try.pinned.checked.prog 125 (slices_IndexFunc_impl_Stored_impl_Stored__impl_ValidRack_1_1.sig f)
abbrev slices_ContainsFunc_impl_Stored_impl_Stored__impl_ValidRack_1_1.A : Type := (List ((Int × Int) × Int))
abbrev slices_ContainsFunc_impl_Stored_impl_Stored__impl_ValidRack_1_1.B : Type := Bool
def slices_ContainsFunc_impl_Stored_impl_Stored__impl_ValidRack_1_1.dec (avs : List AV) : Option (List ((Int × Int) × Int)) := match avs with
  | [a0, a1] => (a0.toList (.st (.pair (.st (.pair (.int .u8) (.int .i16))) (.int .i16)))).bind fun x0 => (a1.toFn 105).bind fun q1 => match q1 with | [] => some x0 | _ => none
  | _ => none
theorem slices_ContainsFunc_impl_Stored_impl_Stored__impl_ValidRack_1_1.dec_eq {avs : List AV} {x : (List ((Int × Int) × Int))} (h : slices_ContainsFunc_impl_Stored_impl_Stored__impl_ValidRack_1_1.dec avs = some x) : ∃ e0, avs = [.obj false ⟨e0, (.st (.pair (.st (.pair (.int .u8) (.int .i16))) (.int .i16))), x⟩, .fn 105 []] := by
  unfold slices_ContainsFunc_impl_Stored_impl_Stored__impl_ValidRack_1_1.dec at h
  split at h
  · obtain ⟨x0, hx0, hh1⟩ := Option.bind_eq_some_iff.1 h
    obtain ⟨e0, rfl⟩ := toList_eq hx0
    obtain ⟨q1, hq1, hh2⟩ := Option.bind_eq_some_iff.1 hh1
    obtain ⟨w1, rfl, rfl⟩ := toFn_eq hq1
    match w1, hh2 with
    | [], hh3 =>
    obtain rfl := Option.some.inj hh3
    exact ⟨e0, rfl⟩
  · cases h
def slices_ContainsFunc_impl_Stored_impl_Stored__impl_ValidRack_1_1.enc (e : TypeId) (r : Bool) : Res := ⟨[.val .bool r], []⟩
noncomputable def slices_ContainsFunc_impl_Stored_impl_Stored__impl_ValidRack_1_1.sig (f : slices_ContainsFunc_impl_Stored_impl_Stored__impl_ValidRack_1_1.A → Option slices_ContainsFunc_impl_Stored_impl_Stored__impl_ValidRack_1_1.B) : Sig := mkSig [] slices_ContainsFunc_impl_Stored_impl_Stored__impl_ValidRack_1_1.dec f fun avs r => slices_ContainsFunc_impl_Stored_impl_Stored__impl_ValidRack_1_1.enc 0 r
abbrev slices_ContainsFunc_impl_Stored_impl_Stored__impl_ValidRack_1_1.S (f : slices_ContainsFunc_impl_Stored_impl_Stored__impl_ValidRack_1_1.A → Option slices_ContainsFunc_impl_Stored_impl_Stored__impl_ValidRack_1_1.B) : Prop := Sound Try.pinned.checked.prog 99 (slices_ContainsFunc_impl_Stored_impl_Stored__impl_ValidRack_1_1.sig f)
abbrev impl_ValidRack_1.A : Type := (List ((Int × Int) × Int))
abbrev impl_ValidRack_1.B : Type := Bool
def impl_ValidRack_1.dec (avs : List AV) : Option (List ((Int × Int) × Int)) := match avs with
  | [a0] => (a0.toList (.st (.pair (.st (.pair (.int .u8) (.int .i16))) (.int .i16)))).bind fun x0 => some x0
  | _ => none
theorem impl_ValidRack_1.dec_eq {avs : List AV} {x : (List ((Int × Int) × Int))} (h : impl_ValidRack_1.dec avs = some x) : ∃ e0, avs = [.obj false ⟨e0, (.st (.pair (.st (.pair (.int .u8) (.int .i16))) (.int .i16))), x⟩] := by
  unfold impl_ValidRack_1.dec at h
  split at h
  · obtain ⟨x0, hx0, hh1⟩ := Option.bind_eq_some_iff.1 h
    obtain ⟨e0, rfl⟩ := toList_eq hx0
    obtain rfl := Option.some.inj hh1
    exact ⟨e0, rfl⟩
  · cases h
def impl_ValidRack_1.enc (e : TypeId) (r : Bool) : Res := ⟨[.val .bool r], []⟩
noncomputable def impl_ValidRack_1.sig (f : impl_ValidRack_1.A → Option impl_ValidRack_1.B) : Sig := mkSig [] impl_ValidRack_1.dec f fun avs r => impl_ValidRack_1.enc 0 r
abbrev impl_ValidRack_1.S (f : impl_ValidRack_1.A → Option impl_ValidRack_1.B) : Prop := Sound Try.pinned.checked.prog 104 (impl_ValidRack_1.sig f)
abbrev slices_IndexFunc_impl_Rack_impl_Stored__impl_ValidRack_1.A : Type := (List (List ((Int × Int) × Int)))
abbrev slices_IndexFunc_impl_Rack_impl_Stored__impl_ValidRack_1.B : Type := Int
def slices_IndexFunc_impl_Rack_impl_Stored__impl_ValidRack_1.dec (avs : List AV) : Option (List (List ((Int × Int) × Int))) := match avs with
  | [a0, a1] => (a0.toList (.row 52 (.st (.pair (.st (.pair (.int .u8) (.int .i16))) (.int .i16))))).bind fun x0 => (a1.toFn 104).bind fun q1 => match q1 with | [] => some x0 | _ => none
  | _ => none
theorem slices_IndexFunc_impl_Rack_impl_Stored__impl_ValidRack_1.dec_eq {avs : List AV} {x : (List (List ((Int × Int) × Int)))} (h : slices_IndexFunc_impl_Rack_impl_Stored__impl_ValidRack_1.dec avs = some x) : ∃ e0, avs = [.obj false ⟨e0, (.row 52 (.st (.pair (.st (.pair (.int .u8) (.int .i16))) (.int .i16)))), x⟩, .fn 104 []] := by
  unfold slices_IndexFunc_impl_Rack_impl_Stored__impl_ValidRack_1.dec at h
  split at h
  · obtain ⟨x0, hx0, hh1⟩ := Option.bind_eq_some_iff.1 h
    obtain ⟨e0, rfl⟩ := toList_eq hx0
    obtain ⟨q1, hq1, hh2⟩ := Option.bind_eq_some_iff.1 hh1
    obtain ⟨w1, rfl, rfl⟩ := toFn_eq hq1
    match w1, hh2 with
    | [], hh3 =>
    obtain rfl := Option.some.inj hh3
    exact ⟨e0, rfl⟩
  · cases h
def slices_IndexFunc_impl_Rack_impl_Stored__impl_ValidRack_1.enc (e : TypeId) (r : Int) : Res := ⟨[.val (.int .i64) r], []⟩
noncomputable def slices_IndexFunc_impl_Rack_impl_Stored__impl_ValidRack_1.sig (f : slices_IndexFunc_impl_Rack_impl_Stored__impl_ValidRack_1.A → Option slices_IndexFunc_impl_Rack_impl_Stored__impl_ValidRack_1.B) : Sig := mkSig [] slices_IndexFunc_impl_Rack_impl_Stored__impl_ValidRack_1.dec f fun avs r => slices_IndexFunc_impl_Rack_impl_Stored__impl_ValidRack_1.enc 0 r
abbrev slices_IndexFunc_impl_Rack_impl_Stored__impl_ValidRack_1.S (f : slices_IndexFunc_impl_Rack_impl_Stored__impl_ValidRack_1.A → Option slices_IndexFunc_impl_Rack_impl_Stored__impl_ValidRack_1.B) : Prop := Sound Try.pinned.checked.prog 126 (slices_IndexFunc_impl_Rack_impl_Stored__impl_ValidRack_1.sig f)
abbrev slices_ContainsFunc_impl_Rack_impl_Stored__impl_ValidRack_1.A : Type := (List (List ((Int × Int) × Int)))
abbrev slices_ContainsFunc_impl_Rack_impl_Stored__impl_ValidRack_1.B : Type := Bool
def slices_ContainsFunc_impl_Rack_impl_Stored__impl_ValidRack_1.dec (avs : List AV) : Option (List (List ((Int × Int) × Int))) := match avs with
  | [a0, a1] => (a0.toList (.row 52 (.st (.pair (.st (.pair (.int .u8) (.int .i16))) (.int .i16))))).bind fun x0 => (a1.toFn 104).bind fun q1 => match q1 with | [] => some x0 | _ => none
  | _ => none
theorem slices_ContainsFunc_impl_Rack_impl_Stored__impl_ValidRack_1.dec_eq {avs : List AV} {x : (List (List ((Int × Int) × Int)))} (h : slices_ContainsFunc_impl_Rack_impl_Stored__impl_ValidRack_1.dec avs = some x) : ∃ e0, avs = [.obj false ⟨e0, (.row 52 (.st (.pair (.st (.pair (.int .u8) (.int .i16))) (.int .i16)))), x⟩, .fn 104 []] := by
  unfold slices_ContainsFunc_impl_Rack_impl_Stored__impl_ValidRack_1.dec at h
  split at h
  · obtain ⟨x0, hx0, hh1⟩ := Option.bind_eq_some_iff.1 h
    obtain ⟨e0, rfl⟩ := toList_eq hx0
    obtain ⟨q1, hq1, hh2⟩ := Option.bind_eq_some_iff.1 hh1
    obtain ⟨w1, rfl, rfl⟩ := toFn_eq hq1
    match w1, hh2 with
    | [], hh3 =>
    obtain rfl := Option.some.inj hh3
    exact ⟨e0, rfl⟩
  · cases h
def slices_ContainsFunc_impl_Rack_impl_Stored__impl_ValidRack_1.enc (e : TypeId) (r : Bool) : Res := ⟨[.val .bool r], []⟩
noncomputable def slices_ContainsFunc_impl_Rack_impl_Stored__impl_ValidRack_1.sig (f : slices_ContainsFunc_impl_Rack_impl_Stored__impl_ValidRack_1.A → Option slices_ContainsFunc_impl_Rack_impl_Stored__impl_ValidRack_1.B) : Sig := mkSig [] slices_ContainsFunc_impl_Rack_impl_Stored__impl_ValidRack_1.dec f fun avs r => slices_ContainsFunc_impl_Rack_impl_Stored__impl_ValidRack_1.enc 0 r
abbrev slices_ContainsFunc_impl_Rack_impl_Stored__impl_ValidRack_1.S (f : slices_ContainsFunc_impl_Rack_impl_Stored__impl_ValidRack_1.A → Option slices_ContainsFunc_impl_Rack_impl_Stored__impl_ValidRack_1.B) : Prop := Sound Try.pinned.checked.prog 103 (slices_ContainsFunc_impl_Rack_impl_Stored__impl_ValidRack_1.sig f)
abbrev impl_ValidRack.A : Type := (List (List ((Int × Int) × Int)))
abbrev impl_ValidRack.B : Type := Bool
def impl_ValidRack.dec (avs : List AV) : Option (List (List ((Int × Int) × Int))) := match avs with
  | [a0] => (a0.toList (.row 52 (.st (.pair (.st (.pair (.int .u8) (.int .i16))) (.int .i16))))).bind fun x0 => some x0
  | _ => none
theorem impl_ValidRack.dec_eq {avs : List AV} {x : (List (List ((Int × Int) × Int)))} (h : impl_ValidRack.dec avs = some x) : ∃ e0, avs = [.obj false ⟨e0, (.row 52 (.st (.pair (.st (.pair (.int .u8) (.int .i16))) (.int .i16)))), x⟩] := by
  unfold impl_ValidRack.dec at h
  split at h
  · obtain ⟨x0, hx0, hh1⟩ := Option.bind_eq_some_iff.1 h
    obtain ⟨e0, rfl⟩ := toList_eq hx0
    obtain rfl := Option.some.inj hh1
    exact ⟨e0, rfl⟩
  · cases h
def impl_ValidRack.enc (e : TypeId) (r : Bool) : Res := ⟨[.val .bool r], []⟩
noncomputable def impl_ValidRack.sig (f : impl_ValidRack.A → Option impl_ValidRack.B) : Sig := mkSig [] impl_ValidRack.dec f fun avs r => impl_ValidRack.enc 0 r
abbrev impl_ValidRack.S (f : impl_ValidRack.A → Option impl_ValidRack.B) : Prop := Sound Try.pinned.checked.prog 66 (impl_ValidRack.sig f)
abbrev impl_Rack_hasLane.A : Type := ((List (List ((Int × Int) × Int))) × Int)
abbrev impl_Rack_hasLane.B : Type := Bool
def impl_Rack_hasLane.dec (avs : List AV) : Option ((List (List ((Int × Int) × Int))) × Int) := match avs with
  | [a0, a1] => (a0.toList (.row 52 (.st (.pair (.st (.pair (.int .u8) (.int .i16))) (.int .i16))))).bind fun x0 => (a1.toVal (.int .i64)).bind fun x1 => some (x0, x1)
  | _ => none
theorem impl_Rack_hasLane.dec_eq {avs : List AV} {x : ((List (List ((Int × Int) × Int))) × Int)} (h : impl_Rack_hasLane.dec avs = some x) : ∃ e0, avs = [.obj false ⟨e0, (.row 52 (.st (.pair (.st (.pair (.int .u8) (.int .i16))) (.int .i16)))), x.1⟩, .val (.int .i64) x.2] := by
  unfold impl_Rack_hasLane.dec at h
  split at h
  · obtain ⟨x0, hx0, hh1⟩ := Option.bind_eq_some_iff.1 h
    obtain ⟨e0, rfl⟩ := toList_eq hx0
    obtain ⟨x1, hx1, hh2⟩ := Option.bind_eq_some_iff.1 hh1
    obtain rfl := toVal_eq hx1
    obtain rfl := Option.some.inj hh2
    exact ⟨e0, rfl⟩
  · cases h
def impl_Rack_hasLane.enc (e : TypeId) (r : Bool) : Res := ⟨[.val .bool r], []⟩
noncomputable def impl_Rack_hasLane.sig (f : impl_Rack_hasLane.A → Option impl_Rack_hasLane.B) : Sig := mkSig [] impl_Rack_hasLane.dec f fun avs r => impl_Rack_hasLane.enc 0 r
abbrev impl_Rack_hasLane.S (f : impl_Rack_hasLane.A → Option impl_Rack_hasLane.B) : Prop := Sound Try.pinned.checked.prog 70 (impl_Rack_hasLane.sig f)
abbrev impl_codeOf.A : Type := (Bool × Bool)
abbrev impl_codeOf.B : Type := Int
def impl_codeOf.dec (avs : List AV) : Option (Bool × Bool) := match avs with
  | [a0, a1] => (a0.toVal .bool).bind fun x0 => (a1.toVal .bool).bind fun x1 => some (x0, x1)
  | _ => none
theorem impl_codeOf.dec_eq {avs : List AV} {x : (Bool × Bool)} (h : impl_codeOf.dec avs = some x) : avs = [.val .bool x.1, .val .bool x.2] := by
  unfold impl_codeOf.dec at h
  split at h
  · obtain ⟨x0, hx0, hh1⟩ := Option.bind_eq_some_iff.1 h
    obtain rfl := toVal_eq hx0
    obtain ⟨x1, hx1, hh2⟩ := Option.bind_eq_some_iff.1 hh1
    obtain rfl := toVal_eq hx1
    obtain rfl := Option.some.inj hh2
    exact rfl
  · cases h
def impl_codeOf.enc (e : TypeId) (r : Int) : Res := ⟨[.val (.int .i64) r], []⟩
noncomputable def impl_codeOf.sig (f : impl_codeOf.A → Option impl_codeOf.B) : Sig := mkSig [] impl_codeOf.dec f fun avs r => impl_codeOf.enc 0 r
abbrev impl_codeOf.S (f : impl_codeOf.A → Option impl_codeOf.B) : Prop := Sound Try.pinned.checked.prog 59 (impl_codeOf.sig f)
abbrev impl_Rack_cloned.A : Type := (List (List ((Int × Int) × Int)))
abbrev impl_Rack_cloned.B : Type := (List (List ((Int × Int) × Int)))
def impl_Rack_cloned.dec (avs : List AV) : Option (List (List ((Int × Int) × Int))) := match avs with
  | [a0] => (a0.toList (.row 52 (.st (.pair (.st (.pair (.int .u8) (.int .i16))) (.int .i16))))).bind fun x0 => some x0
  | _ => none
theorem impl_Rack_cloned.dec_eq {avs : List AV} {x : (List (List ((Int × Int) × Int)))} (h : impl_Rack_cloned.dec avs = some x) : ∃ e0, avs = [.obj false ⟨e0, (.row 52 (.st (.pair (.st (.pair (.int .u8) (.int .i16))) (.int .i16)))), x⟩] := by
  unfold impl_Rack_cloned.dec at h
  split at h
  · obtain ⟨x0, hx0, hh1⟩ := Option.bind_eq_some_iff.1 h
    obtain ⟨e0, rfl⟩ := toList_eq hx0
    obtain rfl := Option.some.inj hh1
    exact ⟨e0, rfl⟩
  · cases h
def impl_Rack_cloned.enc (e : TypeId) (r : (List (List ((Int × Int) × Int)))) : Res := ⟨[.own ⟨26, (.row 52 (.st (.pair (.st (.pair (.int .u8) (.int .i16))) (.int .i16)))), r⟩], []⟩
noncomputable def impl_Rack_cloned.sig (f : impl_Rack_cloned.A → Option impl_Rack_cloned.B) : Sig := mkSig [] impl_Rack_cloned.dec f fun avs r => impl_Rack_cloned.enc 0 r
abbrev impl_Rack_cloned.S (f : impl_Rack_cloned.A → Option impl_Rack_cloned.B) : Prop := Sound Try.pinned.checked.prog 67 (impl_Rack_cloned.sig f)
abbrev impl_SortLane_1.A : Type := (((Int × Int) × Int) × ((Int × Int) × Int))
abbrev impl_SortLane_1.B : Type := Int
def impl_SortLane_1.dec (avs : List AV) : Option (((Int × Int) × Int) × ((Int × Int) × Int)) := match avs with
  | [a0, a1] => (a0.toVal (.st (.pair (.st (.pair (.int .u8) (.int .i16))) (.int .i16)))).bind fun x0 => (a1.toVal (.st (.pair (.st (.pair (.int .u8) (.int .i16))) (.int .i16)))).bind fun x1 => some (x0, x1)
  | _ => none
theorem impl_SortLane_1.dec_eq {avs : List AV} {x : (((Int × Int) × Int) × ((Int × Int) × Int))} (h : impl_SortLane_1.dec avs = some x) : avs = [.val (.st (.pair (.st (.pair (.int .u8) (.int .i16))) (.int .i16))) x.1, .val (.st (.pair (.st (.pair (.int .u8) (.int .i16))) (.int .i16))) x.2] := by
  unfold impl_SortLane_1.dec at h
  split at h
  · obtain ⟨x0, hx0, hh1⟩ := Option.bind_eq_some_iff.1 h
    obtain rfl := toVal_eq hx0
    obtain ⟨x1, hx1, hh2⟩ := Option.bind_eq_some_iff.1 hh1
    obtain rfl := toVal_eq hx1
    obtain rfl := Option.some.inj hh2
    exact rfl
  · cases h
def impl_SortLane_1.enc (e : TypeId) (r : Int) : Res := ⟨[.val (.int .i64) r], []⟩
noncomputable def impl_SortLane_1.sig (f : impl_SortLane_1.A → Option impl_SortLane_1.B) : Sig := mkSig [] impl_SortLane_1.dec f fun avs r => impl_SortLane_1.enc 0 r
abbrev impl_SortLane_1.S (f : impl_SortLane_1.A → Option impl_SortLane_1.B) : Prop := Sound Try.pinned.checked.prog 72 (impl_SortLane_1.sig f)
abbrev slices_insertionSortCmpFunc_impl_Stored__impl_SortLane_1.A : Type := ((List ((Int × Int) × Int)) × Int × Int)
abbrev slices_insertionSortCmpFunc_impl_Stored__impl_SortLane_1.B : Type := (List ((Int × Int) × Int))
def slices_insertionSortCmpFunc_impl_Stored__impl_SortLane_1.dec (avs : List AV) : Option ((List ((Int × Int) × Int)) × Int × Int) := match avs with
  | [a0, a1, a2, a3] => (a0.toList (.st (.pair (.st (.pair (.int .u8) (.int .i16))) (.int .i16)))).bind fun x0 => (a1.toVal (.int .i64)).bind fun x1 => (a2.toVal (.int .i64)).bind fun x2 => (a3.toFn 72).bind fun q3 => match q3 with | [] => some (x0, x1, x2) | _ => none
  | _ => none
theorem slices_insertionSortCmpFunc_impl_Stored__impl_SortLane_1.dec_eq {avs : List AV} {x : ((List ((Int × Int) × Int)) × Int × Int)} (h : slices_insertionSortCmpFunc_impl_Stored__impl_SortLane_1.dec avs = some x) : ∃ e0, avs = [.obj false ⟨e0, (.st (.pair (.st (.pair (.int .u8) (.int .i16))) (.int .i16))), x.1⟩, .val (.int .i64) x.2.1, .val (.int .i64) x.2.2, .fn 72 []] := by
  unfold slices_insertionSortCmpFunc_impl_Stored__impl_SortLane_1.dec at h
  split at h
  · obtain ⟨x0, hx0, hh1⟩ := Option.bind_eq_some_iff.1 h
    obtain ⟨e0, rfl⟩ := toList_eq hx0
    obtain ⟨x1, hx1, hh2⟩ := Option.bind_eq_some_iff.1 hh1
    obtain rfl := toVal_eq hx1
    obtain ⟨x2, hx2, hh3⟩ := Option.bind_eq_some_iff.1 hh2
    obtain rfl := toVal_eq hx2
    obtain ⟨q3, hq3, hh4⟩ := Option.bind_eq_some_iff.1 hh3
    obtain ⟨w3, rfl, rfl⟩ := toFn_eq hq3
    match w3, hh4 with
    | [], hh5 =>
    obtain rfl := Option.some.inj hh5
    exact ⟨e0, rfl⟩
  · cases h
def slices_insertionSortCmpFunc_impl_Stored__impl_SortLane_1.enc (e : TypeId) (r : (List ((Int × Int) × Int))) : Res := ⟨[], [⟨e, (.st (.pair (.st (.pair (.int .u8) (.int .i16))) (.int .i16))), r⟩]⟩
noncomputable def slices_insertionSortCmpFunc_impl_Stored__impl_SortLane_1.sig (f : slices_insertionSortCmpFunc_impl_Stored__impl_SortLane_1.A → Option slices_insertionSortCmpFunc_impl_Stored__impl_SortLane_1.B) : Sig := mkSig [0] slices_insertionSortCmpFunc_impl_Stored__impl_SortLane_1.dec f fun avs r => slices_insertionSortCmpFunc_impl_Stored__impl_SortLane_1.enc (avs.getD 0 (.val .bool false)).elem r
abbrev slices_insertionSortCmpFunc_impl_Stored__impl_SortLane_1.S (f : slices_insertionSortCmpFunc_impl_Stored__impl_SortLane_1.A → Option slices_insertionSortCmpFunc_impl_Stored__impl_SortLane_1.B) : Prop := Sound Try.pinned.checked.prog 127 (slices_insertionSortCmpFunc_impl_Stored__impl_SortLane_1.sig f)
abbrev slices_symMergeCmpFunc_impl_Stored__impl_SortLane_1.A : Type := ((List ((Int × Int) × Int)) × Int × Int × Int)
abbrev slices_symMergeCmpFunc_impl_Stored__impl_SortLane_1.B : Type := (List ((Int × Int) × Int))
def slices_symMergeCmpFunc_impl_Stored__impl_SortLane_1.dec (avs : List AV) : Option ((List ((Int × Int) × Int)) × Int × Int × Int) := match avs with
  | [a0, a1, a2, a3, a4] => (a0.toList (.st (.pair (.st (.pair (.int .u8) (.int .i16))) (.int .i16)))).bind fun x0 => (a1.toVal (.int .i64)).bind fun x1 => (a2.toVal (.int .i64)).bind fun x2 => (a3.toVal (.int .i64)).bind fun x3 => (a4.toFn 72).bind fun q4 => match q4 with | [] => some (x0, x1, x2, x3) | _ => none
  | _ => none
theorem slices_symMergeCmpFunc_impl_Stored__impl_SortLane_1.dec_eq {avs : List AV} {x : ((List ((Int × Int) × Int)) × Int × Int × Int)} (h : slices_symMergeCmpFunc_impl_Stored__impl_SortLane_1.dec avs = some x) : ∃ e0, avs = [.obj false ⟨e0, (.st (.pair (.st (.pair (.int .u8) (.int .i16))) (.int .i16))), x.1⟩, .val (.int .i64) x.2.1, .val (.int .i64) x.2.2.1, .val (.int .i64) x.2.2.2, .fn 72 []] := by
  unfold slices_symMergeCmpFunc_impl_Stored__impl_SortLane_1.dec at h
  split at h
  · obtain ⟨x0, hx0, hh1⟩ := Option.bind_eq_some_iff.1 h
    obtain ⟨e0, rfl⟩ := toList_eq hx0
    obtain ⟨x1, hx1, hh2⟩ := Option.bind_eq_some_iff.1 hh1
    obtain rfl := toVal_eq hx1
    obtain ⟨x2, hx2, hh3⟩ := Option.bind_eq_some_iff.1 hh2
    obtain rfl := toVal_eq hx2
    obtain ⟨x3, hx3, hh4⟩ := Option.bind_eq_some_iff.1 hh3
    obtain rfl := toVal_eq hx3
    obtain ⟨q4, hq4, hh5⟩ := Option.bind_eq_some_iff.1 hh4
    obtain ⟨w4, rfl, rfl⟩ := toFn_eq hq4
    match w4, hh5 with
    | [], hh6 =>
    obtain rfl := Option.some.inj hh6
    exact ⟨e0, rfl⟩
  · cases h
def slices_symMergeCmpFunc_impl_Stored__impl_SortLane_1.enc (e : TypeId) (r : (List ((Int × Int) × Int))) : Res := ⟨[], [⟨e, (.st (.pair (.st (.pair (.int .u8) (.int .i16))) (.int .i16))), r⟩]⟩
noncomputable def slices_symMergeCmpFunc_impl_Stored__impl_SortLane_1.sig (f : slices_symMergeCmpFunc_impl_Stored__impl_SortLane_1.A → Option slices_symMergeCmpFunc_impl_Stored__impl_SortLane_1.B) : Sig := mkSig [0] slices_symMergeCmpFunc_impl_Stored__impl_SortLane_1.dec f fun avs r => slices_symMergeCmpFunc_impl_Stored__impl_SortLane_1.enc (avs.getD 0 (.val .bool false)).elem r
abbrev slices_symMergeCmpFunc_impl_Stored__impl_SortLane_1.S (f : slices_symMergeCmpFunc_impl_Stored__impl_SortLane_1.A → Option slices_symMergeCmpFunc_impl_Stored__impl_SortLane_1.B) : Prop := Sound Try.pinned.checked.prog 128 (slices_symMergeCmpFunc_impl_Stored__impl_SortLane_1.sig f)
abbrev slices_stableCmpFunc_impl_Stored__impl_SortLane_1.A : Type := ((List ((Int × Int) × Int)) × Int)
abbrev slices_stableCmpFunc_impl_Stored__impl_SortLane_1.B : Type := (List ((Int × Int) × Int))
def slices_stableCmpFunc_impl_Stored__impl_SortLane_1.dec (avs : List AV) : Option ((List ((Int × Int) × Int)) × Int) := match avs with
  | [a0, a1, a2] => (a0.toList (.st (.pair (.st (.pair (.int .u8) (.int .i16))) (.int .i16)))).bind fun x0 => (a1.toVal (.int .i64)).bind fun x1 => (a2.toFn 72).bind fun q2 => match q2 with | [] => some (x0, x1) | _ => none
  | _ => none
theorem slices_stableCmpFunc_impl_Stored__impl_SortLane_1.dec_eq {avs : List AV} {x : ((List ((Int × Int) × Int)) × Int)} (h : slices_stableCmpFunc_impl_Stored__impl_SortLane_1.dec avs = some x) : ∃ e0, avs = [.obj false ⟨e0, (.st (.pair (.st (.pair (.int .u8) (.int .i16))) (.int .i16))), x.1⟩, .val (.int .i64) x.2, .fn 72 []] := by
  unfold slices_stableCmpFunc_impl_Stored__impl_SortLane_1.dec at h
  split at h
  · obtain ⟨x0, hx0, hh1⟩ := Option.bind_eq_some_iff.1 h
    obtain ⟨e0, rfl⟩ := toList_eq hx0
    obtain ⟨x1, hx1, hh2⟩ := Option.bind_eq_some_iff.1 hh1
    obtain rfl := toVal_eq hx1
    obtain ⟨q2, hq2, hh3⟩ := Option.bind_eq_some_iff.1 hh2
    obtain ⟨w2, rfl, rfl⟩ := toFn_eq hq2
    match w2, hh3 with
    | [], hh4 =>
    obtain rfl := Option.some.inj hh4
    exact ⟨e0, rfl⟩
  · cases h
def slices_stableCmpFunc_impl_Stored__impl_SortLane_1.enc (e : TypeId) (r : (List ((Int × Int) × Int))) : Res := ⟨[], [⟨e, (.st (.pair (.st (.pair (.int .u8) (.int .i16))) (.int .i16))), r⟩]⟩
noncomputable def slices_stableCmpFunc_impl_Stored__impl_SortLane_1.sig (f : slices_stableCmpFunc_impl_Stored__impl_SortLane_1.A → Option slices_stableCmpFunc_impl_Stored__impl_SortLane_1.B) : Sig := mkSig [0] slices_stableCmpFunc_impl_Stored__impl_SortLane_1.dec f fun avs r => slices_stableCmpFunc_impl_Stored__impl_SortLane_1.enc (avs.getD 0 (.val .bool false)).elem r
abbrev slices_stableCmpFunc_impl_Stored__impl_SortLane_1.S (f : slices_stableCmpFunc_impl_Stored__impl_SortLane_1.A → Option slices_stableCmpFunc_impl_Stored__impl_SortLane_1.B) : Prop := Sound Try.pinned.checked.prog 107 (slices_stableCmpFunc_impl_Stored__impl_SortLane_1.sig f)
abbrev slices_SortStableFunc_impl_Stored_impl_Stored__impl_SortLane_1.A : Type := (List ((Int × Int) × Int))
abbrev slices_SortStableFunc_impl_Stored_impl_Stored__impl_SortLane_1.B : Type := (List ((Int × Int) × Int))
def slices_SortStableFunc_impl_Stored_impl_Stored__impl_SortLane_1.dec (avs : List AV) : Option (List ((Int × Int) × Int)) := match avs with
  | [a0, a1] => (a0.toList (.st (.pair (.st (.pair (.int .u8) (.int .i16))) (.int .i16)))).bind fun x0 => (a1.toFn 72).bind fun q1 => match q1 with | [] => some x0 | _ => none
  | _ => none
theorem slices_SortStableFunc_impl_Stored_impl_Stored__impl_SortLane_1.dec_eq {avs : List AV} {x : (List ((Int × Int) × Int))} (h : slices_SortStableFunc_impl_Stored_impl_Stored__impl_SortLane_1.dec avs = some x) : ∃ e0, avs = [.obj false ⟨e0, (.st (.pair (.st (.pair (.int .u8) (.int .i16))) (.int .i16))), x⟩, .fn 72 []] := by
  unfold slices_SortStableFunc_impl_Stored_impl_Stored__impl_SortLane_1.dec at h
  split at h
  · obtain ⟨x0, hx0, hh1⟩ := Option.bind_eq_some_iff.1 h
    obtain ⟨e0, rfl⟩ := toList_eq hx0
    obtain ⟨q1, hq1, hh2⟩ := Option.bind_eq_some_iff.1 hh1
    obtain ⟨w1, rfl, rfl⟩ := toFn_eq hq1
    match w1, hh2 with
    | [], hh3 =>
    obtain rfl := Option.some.inj hh3
    exact ⟨e0, rfl⟩
  · cases h
def slices_SortStableFunc_impl_Stored_impl_Stored__impl_SortLane_1.enc (e : TypeId) (r : (List ((Int × Int) × Int))) : Res := ⟨[], [⟨e, (.st (.pair (.st (.pair (.int .u8) (.int .i16))) (.int .i16))), r⟩]⟩
noncomputable def slices_SortStableFunc_impl_Stored_impl_Stored__impl_SortLane_1.sig (f : slices_SortStableFunc_impl_Stored_impl_Stored__impl_SortLane_1.A → Option slices_SortStableFunc_impl_Stored_impl_Stored__impl_SortLane_1.B) : Sig := mkSig [0] slices_SortStableFunc_impl_Stored_impl_Stored__impl_SortLane_1.dec f fun avs r => slices_SortStableFunc_impl_Stored_impl_Stored__impl_SortLane_1.enc (avs.getD 0 (.val .bool false)).elem r
abbrev slices_SortStableFunc_impl_Stored_impl_Stored__impl_SortLane_1.S (f : slices_SortStableFunc_impl_Stored_impl_Stored__impl_SortLane_1.A → Option slices_SortStableFunc_impl_Stored_impl_Stored__impl_SortLane_1.B) : Prop := Sound Try.pinned.checked.prog 71 (slices_SortStableFunc_impl_Stored_impl_Stored__impl_SortLane_1.sig f)
abbrev impl_SortLane.A : Type := ((List (List ((Int × Int) × Int))) × Int)
abbrev impl_SortLane.B : Type := ((List (List ((Int × Int) × Int))) × Int)
def impl_SortLane.dec (avs : List AV) : Option ((List (List ((Int × Int) × Int))) × Int) := match avs with
  | [a0, a1] => (a0.toList (.row 52 (.st (.pair (.st (.pair (.int .u8) (.int .i16))) (.int .i16))))).bind fun x0 => (a1.toVal (.int .i64)).bind fun x1 => some (x0, x1)
  | _ => none
theorem impl_SortLane.dec_eq {avs : List AV} {x : ((List (List ((Int × Int) × Int))) × Int)} (h : impl_SortLane.dec avs = some x) : ∃ e0, avs = [.obj false ⟨e0, (.row 52 (.st (.pair (.st (.pair (.int .u8) (.int .i16))) (.int .i16)))), x.1⟩, .val (.int .i64) x.2] := by
  unfold impl_SortLane.dec at h
  split at h
  · obtain ⟨x0, hx0, hh1⟩ := Option.bind_eq_some_iff.1 h
    obtain ⟨e0, rfl⟩ := toList_eq hx0
    obtain ⟨x1, hx1, hh2⟩ := Option.bind_eq_some_iff.1 hh1
    obtain rfl := toVal_eq hx1
    obtain rfl := Option.some.inj hh2
    exact ⟨e0, rfl⟩
  · cases h
def impl_SortLane.enc (e : TypeId) (r : ((List (List ((Int × Int) × Int))) × Int)) : Res := ⟨[.own ⟨26, (.row 52 (.st (.pair (.st (.pair (.int .u8) (.int .i16))) (.int .i16)))), r.1⟩, .val (.int .i64) r.2], []⟩
noncomputable def impl_SortLane.sig (f : impl_SortLane.A → Option impl_SortLane.B) : Sig := mkSig [] impl_SortLane.dec f fun avs r => impl_SortLane.enc 0 r
abbrev impl_SortLane.S (f : impl_SortLane.A → Option impl_SortLane.B) : Prop := Sound Try.pinned.checked.prog 27 (impl_SortLane.sig f)
abbrev laws_eqBottle.A : Type := ((Int × Int) × (Int × Int))
abbrev laws_eqBottle.B : Type := Bool
def laws_eqBottle.dec (avs : List AV) : Option ((Int × Int) × (Int × Int)) := match avs with
  | [a0, a1] => (a0.toVal (.st (.pair (.int .u8) (.int .i16)))).bind fun x0 => (a1.toVal (.st (.pair (.int .u8) (.int .i16)))).bind fun x1 => some (x0, x1)
  | _ => none
theorem laws_eqBottle.dec_eq {avs : List AV} {x : ((Int × Int) × (Int × Int))} (h : laws_eqBottle.dec avs = some x) : avs = [.val (.st (.pair (.int .u8) (.int .i16))) x.1, .val (.st (.pair (.int .u8) (.int .i16))) x.2] := by
  unfold laws_eqBottle.dec at h
  split at h
  · obtain ⟨x0, hx0, hh1⟩ := Option.bind_eq_some_iff.1 h
    obtain rfl := toVal_eq hx0
    obtain ⟨x1, hx1, hh2⟩ := Option.bind_eq_some_iff.1 hh1
    obtain rfl := toVal_eq hx1
    obtain rfl := Option.some.inj hh2
    exact rfl
  · cases h
def laws_eqBottle.enc (e : TypeId) (r : Bool) : Res := ⟨[.val .bool r], []⟩
noncomputable def laws_eqBottle.sig (f : laws_eqBottle.A → Option laws_eqBottle.B) : Sig := mkSig [] laws_eqBottle.dec f fun avs r => laws_eqBottle.enc 0 r
abbrev laws_eqBottle.S (f : laws_eqBottle.A → Option laws_eqBottle.B) : Prop := Sound Try.pinned.checked.prog 77 (laws_eqBottle.sig f)
abbrev laws_eqStored.A : Type := (((Int × Int) × Int) × ((Int × Int) × Int))
abbrev laws_eqStored.B : Type := Bool
def laws_eqStored.dec (avs : List AV) : Option (((Int × Int) × Int) × ((Int × Int) × Int)) := match avs with
  | [a0, a1] => (a0.toVal (.st (.pair (.st (.pair (.int .u8) (.int .i16))) (.int .i16)))).bind fun x0 => (a1.toVal (.st (.pair (.st (.pair (.int .u8) (.int .i16))) (.int .i16)))).bind fun x1 => some (x0, x1)
  | _ => none
theorem laws_eqStored.dec_eq {avs : List AV} {x : (((Int × Int) × Int) × ((Int × Int) × Int))} (h : laws_eqStored.dec avs = some x) : avs = [.val (.st (.pair (.st (.pair (.int .u8) (.int .i16))) (.int .i16))) x.1, .val (.st (.pair (.st (.pair (.int .u8) (.int .i16))) (.int .i16))) x.2] := by
  unfold laws_eqStored.dec at h
  split at h
  · obtain ⟨x0, hx0, hh1⟩ := Option.bind_eq_some_iff.1 h
    obtain rfl := toVal_eq hx0
    obtain ⟨x1, hx1, hh2⟩ := Option.bind_eq_some_iff.1 hh1
    obtain rfl := toVal_eq hx1
    obtain rfl := Option.some.inj hh2
    exact rfl
  · cases h
def laws_eqStored.enc (e : TypeId) (r : Bool) : Res := ⟨[.val .bool r], []⟩
noncomputable def laws_eqStored.sig (f : laws_eqStored.A → Option laws_eqStored.B) : Sig := mkSig [] laws_eqStored.dec f fun avs r => laws_eqStored.enc 0 r
abbrev laws_eqStored.S (f : laws_eqStored.A → Option laws_eqStored.B) : Prop := Sound Try.pinned.checked.prog 31 (laws_eqStored.sig f)
abbrev laws_eqStoredS.A : Type := ((List ((Int × Int) × Int)) × (List ((Int × Int) × Int)))
abbrev laws_eqStoredS.B : Type := Bool
def laws_eqStoredS.dec (avs : List AV) : Option ((List ((Int × Int) × Int)) × (List ((Int × Int) × Int))) := match avs with
  | [a0, a1] => (a0.toList (.st (.pair (.st (.pair (.int .u8) (.int .i16))) (.int .i16)))).bind fun x0 => (a1.toList (.st (.pair (.st (.pair (.int .u8) (.int .i16))) (.int .i16)))).bind fun x1 => some (x0, x1)
  | _ => none
theorem laws_eqStoredS.dec_eq {avs : List AV} {x : ((List ((Int × Int) × Int)) × (List ((Int × Int) × Int)))} (h : laws_eqStoredS.dec avs = some x) : ∃ e0 e1, avs = [.obj false ⟨e0, (.st (.pair (.st (.pair (.int .u8) (.int .i16))) (.int .i16))), x.1⟩, .obj false ⟨e1, (.st (.pair (.st (.pair (.int .u8) (.int .i16))) (.int .i16))), x.2⟩] := by
  unfold laws_eqStoredS.dec at h
  split at h
  · obtain ⟨x0, hx0, hh1⟩ := Option.bind_eq_some_iff.1 h
    obtain ⟨e0, rfl⟩ := toList_eq hx0
    obtain ⟨x1, hx1, hh2⟩ := Option.bind_eq_some_iff.1 hh1
    obtain ⟨e1, rfl⟩ := toList_eq hx1
    obtain rfl := Option.some.inj hh2
    exact ⟨e0, e1, rfl⟩
  · cases h
def laws_eqStoredS.enc (e : TypeId) (r : Bool) : Res := ⟨[.val .bool r], []⟩
noncomputable def laws_eqStoredS.sig (f : laws_eqStoredS.A → Option laws_eqStoredS.B) : Sig := mkSig [] laws_eqStoredS.dec f fun avs r => laws_eqStoredS.enc 0 r
abbrev laws_eqStoredS.S (f : laws_eqStoredS.A → Option laws_eqStoredS.B) : Prop := Sound Try.pinned.checked.prog 14 (laws_eqStoredS.sig f)
abbrev laws_eqRack.A : Type := ((List (List ((Int × Int) × Int))) × (List (List ((Int × Int) × Int))))
abbrev laws_eqRack.B : Type := Bool
def laws_eqRack.dec (avs : List AV) : Option ((List (List ((Int × Int) × Int))) × (List (List ((Int × Int) × Int)))) := match avs with
  | [a0, a1] => (a0.toList (.row 52 (.st (.pair (.st (.pair (.int .u8) (.int .i16))) (.int .i16))))).bind fun x0 => (a1.toList (.row 52 (.st (.pair (.st (.pair (.int .u8) (.int .i16))) (.int .i16))))).bind fun x1 => some (x0, x1)
  | _ => none
theorem laws_eqRack.dec_eq {avs : List AV} {x : ((List (List ((Int × Int) × Int))) × (List (List ((Int × Int) × Int))))} (h : laws_eqRack.dec avs = some x) : ∃ e0 e1, avs = [.obj false ⟨e0, (.row 52 (.st (.pair (.st (.pair (.int .u8) (.int .i16))) (.int .i16)))), x.1⟩, .obj false ⟨e1, (.row 52 (.st (.pair (.st (.pair (.int .u8) (.int .i16))) (.int .i16)))), x.2⟩] := by
  unfold laws_eqRack.dec at h
  split at h
  · obtain ⟨x0, hx0, hh1⟩ := Option.bind_eq_some_iff.1 h
    obtain ⟨e0, rfl⟩ := toList_eq hx0
    obtain ⟨x1, hx1, hh2⟩ := Option.bind_eq_some_iff.1 hh1
    obtain ⟨e1, rfl⟩ := toList_eq hx1
    obtain rfl := Option.some.inj hh2
    exact ⟨e0, e1, rfl⟩
  · cases h
def laws_eqRack.enc (e : TypeId) (r : Bool) : Res := ⟨[.val .bool r], []⟩
noncomputable def laws_eqRack.sig (f : laws_eqRack.A → Option laws_eqRack.B) : Sig := mkSig [] laws_eqRack.dec f fun avs r => laws_eqRack.enc 0 r
abbrev laws_eqRack.S (f : laws_eqRack.A → Option laws_eqRack.B) : Prop := Sound Try.pinned.checked.prog 19 (laws_eqRack.sig f)
abbrev laws_markStoredS.A : Type := ((List ((Int × Int) × Int)) × Int)
abbrev laws_markStoredS.B : Type := (Int × (List ((Int × Int) × Int)))
def laws_markStoredS.dec (avs : List AV) : Option ((List ((Int × Int) × Int)) × Int) := match avs with
  | [a0, a1] => (a0.toList (.st (.pair (.st (.pair (.int .u8) (.int .i16))) (.int .i16)))).bind fun x0 => (a1.toVal (.int .i64)).bind fun x1 => some (x0, x1)
  | _ => none
theorem laws_markStoredS.dec_eq {avs : List AV} {x : ((List ((Int × Int) × Int)) × Int)} (h : laws_markStoredS.dec avs = some x) : ∃ e0, avs = [.obj false ⟨e0, (.st (.pair (.st (.pair (.int .u8) (.int .i16))) (.int .i16))), x.1⟩, .val (.int .i64) x.2] := by
  unfold laws_markStoredS.dec at h
  split at h
  · obtain ⟨x0, hx0, hh1⟩ := Option.bind_eq_some_iff.1 h
    obtain ⟨e0, rfl⟩ := toList_eq hx0
    obtain ⟨x1, hx1, hh2⟩ := Option.bind_eq_some_iff.1 hh1
    obtain rfl := toVal_eq hx1
    obtain rfl := Option.some.inj hh2
    exact ⟨e0, rfl⟩
  · cases h
def laws_markStoredS.enc (e : TypeId) (r : (Int × (List ((Int × Int) × Int)))) : Res := ⟨[.val (.int .i64) r.1], [⟨e, (.st (.pair (.st (.pair (.int .u8) (.int .i16))) (.int .i16))), r.2⟩]⟩
noncomputable def laws_markStoredS.sig (f : laws_markStoredS.A → Option laws_markStoredS.B) : Sig := mkSig [0] laws_markStoredS.dec f fun avs r => laws_markStoredS.enc (avs.getD 0 (.val .bool false)).elem r
abbrev laws_markStoredS.S (f : laws_markStoredS.A → Option laws_markStoredS.B) : Prop := Sound Try.pinned.checked.prog 22 (laws_markStoredS.sig f)
abbrev laws_markRack.A : Type := ((List (List ((Int × Int) × Int))) × Int)
abbrev laws_markRack.B : Type := (Int × (List (List ((Int × Int) × Int))))
def laws_markRack.dec (avs : List AV) : Option ((List (List ((Int × Int) × Int))) × Int) := match avs with
  | [a0, a1] => (a0.toList (.row 52 (.st (.pair (.st (.pair (.int .u8) (.int .i16))) (.int .i16))))).bind fun x0 => (a1.toVal (.int .i64)).bind fun x1 => some (x0, x1)
  | _ => none
theorem laws_markRack.dec_eq {avs : List AV} {x : ((List (List ((Int × Int) × Int))) × Int)} (h : laws_markRack.dec avs = some x) : ∃ e0, avs = [.obj false ⟨e0, (.row 52 (.st (.pair (.st (.pair (.int .u8) (.int .i16))) (.int .i16)))), x.1⟩, .val (.int .i64) x.2] := by
  unfold laws_markRack.dec at h
  split at h
  · obtain ⟨x0, hx0, hh1⟩ := Option.bind_eq_some_iff.1 h
    obtain ⟨e0, rfl⟩ := toList_eq hx0
    obtain ⟨x1, hx1, hh2⟩ := Option.bind_eq_some_iff.1 hh1
    obtain rfl := toVal_eq hx1
    obtain rfl := Option.some.inj hh2
    exact ⟨e0, rfl⟩
  · cases h
def laws_markRack.enc (e : TypeId) (r : (Int × (List (List ((Int × Int) × Int))))) : Res := ⟨[.val (.int .i64) r.1], [⟨e, (.row 52 (.st (.pair (.st (.pair (.int .u8) (.int .i16))) (.int .i16)))), r.2⟩]⟩
noncomputable def laws_markRack.sig (f : laws_markRack.A → Option laws_markRack.B) : Sig := mkSig [0] laws_markRack.dec f fun avs r => laws_markRack.enc (avs.getD 0 (.val .bool false)).elem r
abbrev laws_markRack.S (f : laws_markRack.A → Option laws_markRack.B) : Prop := Sound Try.pinned.checked.prog 21 (laws_markRack.sig f)
abbrev laws_heldStoredS.A : Type := ((List ((Int × Int) × Int)) × Int)
abbrev laws_heldStoredS.B : Type := Int
def laws_heldStoredS.dec (avs : List AV) : Option ((List ((Int × Int) × Int)) × Int) := match avs with
  | [a0, a1] => (a0.toList (.st (.pair (.st (.pair (.int .u8) (.int .i16))) (.int .i16)))).bind fun x0 => (a1.toVal (.int .i64)).bind fun x1 => some (x0, x1)
  | _ => none
theorem laws_heldStoredS.dec_eq {avs : List AV} {x : ((List ((Int × Int) × Int)) × Int)} (h : laws_heldStoredS.dec avs = some x) : ∃ e0, avs = [.obj false ⟨e0, (.st (.pair (.st (.pair (.int .u8) (.int .i16))) (.int .i16))), x.1⟩, .val (.int .i64) x.2] := by
  unfold laws_heldStoredS.dec at h
  split at h
  · obtain ⟨x0, hx0, hh1⟩ := Option.bind_eq_some_iff.1 h
    obtain ⟨e0, rfl⟩ := toList_eq hx0
    obtain ⟨x1, hx1, hh2⟩ := Option.bind_eq_some_iff.1 hh1
    obtain rfl := toVal_eq hx1
    obtain rfl := Option.some.inj hh2
    exact ⟨e0, rfl⟩
  · cases h
def laws_heldStoredS.enc (e : TypeId) (r : Int) : Res := ⟨[.val (.int .i64) r], []⟩
noncomputable def laws_heldStoredS.sig (f : laws_heldStoredS.A → Option laws_heldStoredS.B) : Sig := mkSig [] laws_heldStoredS.dec f fun avs r => laws_heldStoredS.enc 0 r
abbrev laws_heldStoredS.S (f : laws_heldStoredS.A → Option laws_heldStoredS.B) : Prop := Sound Try.pinned.checked.prog 38 (laws_heldStoredS.sig f)
abbrev laws_heldRack.A : Type := ((List (List ((Int × Int) × Int))) × Int)
abbrev laws_heldRack.B : Type := Int
def laws_heldRack.dec (avs : List AV) : Option ((List (List ((Int × Int) × Int))) × Int) := match avs with
  | [a0, a1] => (a0.toList (.row 52 (.st (.pair (.st (.pair (.int .u8) (.int .i16))) (.int .i16))))).bind fun x0 => (a1.toVal (.int .i64)).bind fun x1 => some (x0, x1)
  | _ => none
theorem laws_heldRack.dec_eq {avs : List AV} {x : ((List (List ((Int × Int) × Int))) × Int)} (h : laws_heldRack.dec avs = some x) : ∃ e0, avs = [.obj false ⟨e0, (.row 52 (.st (.pair (.st (.pair (.int .u8) (.int .i16))) (.int .i16)))), x.1⟩, .val (.int .i64) x.2] := by
  unfold laws_heldRack.dec at h
  split at h
  · obtain ⟨x0, hx0, hh1⟩ := Option.bind_eq_some_iff.1 h
    obtain ⟨e0, rfl⟩ := toList_eq hx0
    obtain ⟨x1, hx1, hh2⟩ := Option.bind_eq_some_iff.1 hh1
    obtain rfl := toVal_eq hx1
    obtain rfl := Option.some.inj hh2
    exact ⟨e0, rfl⟩
  · cases h
def laws_heldRack.enc (e : TypeId) (r : Int) : Res := ⟨[.val (.int .i64) r], []⟩
noncomputable def laws_heldRack.sig (f : laws_heldRack.A → Option laws_heldRack.B) : Sig := mkSig [] laws_heldRack.dec f fun avs r => laws_heldRack.enc 0 r
abbrev laws_heldRack.S (f : laws_heldRack.A → Option laws_heldRack.B) : Prop := Sound Try.pinned.checked.prog 24 (laws_heldRack.sig f)
abbrev laws_FnExactSortLane.A : Type := ((List (List ((Int × Int) × Int))) × Int)
abbrev laws_FnExactSortLane.B : Type := Bool
def laws_FnExactSortLane.dec (avs : List AV) : Option ((List (List ((Int × Int) × Int))) × Int) := match avs with
  | [a0, a1] => (a0.toList (.row 85 (.st (.pair (.st (.pair (.int .u8) (.int .i16))) (.int .i16))))).bind fun x0 => (a1.toVal (.int .i64)).bind fun x1 => some (x0, x1)
  | _ => none
theorem laws_FnExactSortLane.dec_eq {avs : List AV} {x : ((List (List ((Int × Int) × Int))) × Int)} (h : laws_FnExactSortLane.dec avs = some x) : ∃ e0, avs = [.obj false ⟨e0, (.row 85 (.st (.pair (.st (.pair (.int .u8) (.int .i16))) (.int .i16)))), x.1⟩, .val (.int .i64) x.2] := by
  unfold laws_FnExactSortLane.dec at h
  split at h
  · obtain ⟨x0, hx0, hh1⟩ := Option.bind_eq_some_iff.1 h
    obtain ⟨e0, rfl⟩ := toList_eq hx0
    obtain ⟨x1, hx1, hh2⟩ := Option.bind_eq_some_iff.1 hh1
    obtain rfl := toVal_eq hx1
    obtain rfl := Option.some.inj hh2
    exact ⟨e0, rfl⟩
  · cases h
def laws_FnExactSortLane.enc (e : TypeId) (r : Bool) : Res := ⟨[.val .bool r], []⟩
noncomputable def laws_FnExactSortLane.sig (f : laws_FnExactSortLane.A → Option laws_FnExactSortLane.B) : Sig := mkSig [] laws_FnExactSortLane.dec f fun avs r => laws_FnExactSortLane.enc 0 r
abbrev laws_FnExactSortLane.S (f : laws_FnExactSortLane.A → Option laws_FnExactSortLane.B) : Prop := Sound Try.pinned.checked.prog 5 (laws_FnExactSortLane.sig f)
end Go.Proofs.Yteaodjahafgbcaa.G
