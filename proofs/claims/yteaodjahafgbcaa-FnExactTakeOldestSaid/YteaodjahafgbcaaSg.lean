import Derived.Test.YteaodjahafgbcaaGTT
namespace Go.Proofs.Yteaodjahafgbcaa.G
open Go Go.Proofs
set_option linter.unusedVariables false
set_option linter.unusedSimpArgs false
set_option maxRecDepth 100000
abbrev laws_szStoredS.A : Type := ((List ((Int × Int) × Int)) × Int)
abbrev laws_szStoredS.B : Type := Int
def laws_szStoredS.dec (avs : List AV) : Option ((List ((Int × Int) × Int)) × Int) := match avs with
  | [a0, a1] => (a0.toList (.st (.pair (.st (.pair (.int .u8) (.int .i16))) (.int .i16)))).bind fun x0 => (a1.toVal (.int .i64)).bind fun x1 => some (x0, x1)
  | _ => none
theorem laws_szStoredS.dec_eq {avs : List AV} {x : ((List ((Int × Int) × Int)) × Int)} (h : laws_szStoredS.dec avs = some x) : ∃ e0, avs = [.obj false ⟨e0, (.st (.pair (.st (.pair (.int .u8) (.int .i16))) (.int .i16))), x.1⟩, .val (.int .i64) x.2] := by
  unfold laws_szStoredS.dec at h
  split at h
  · obtain ⟨x0, hx0, hh1⟩ := Option.bind_eq_some_iff.1 h
    obtain ⟨e0, rfl⟩ := toList_eq hx0
    obtain ⟨x1, hx1, hh2⟩ := Option.bind_eq_some_iff.1 hh1
    obtain rfl := toVal_eq hx1
    obtain rfl := Option.some.inj hh2
    exact ⟨e0, rfl⟩
  · cases h
def laws_szStoredS.enc (e : TypeId) (r : Int) : Res := ⟨[.val (.int .i64) r], []⟩
noncomputable def laws_szStoredS.sig (f : laws_szStoredS.A → Option laws_szStoredS.B) : Sig := mkSig [] laws_szStoredS.dec f fun avs r => laws_szStoredS.enc 0 r
abbrev laws_szStoredS.S (f : laws_szStoredS.A → Option laws_szStoredS.B) : Prop := Sound Try.pinned.checked.prog 10 (laws_szStoredS.sig f)
abbrev laws_szRack.A : Type := ((List (List ((Int × Int) × Int))) × Int)
abbrev laws_szRack.B : Type := Int
def laws_szRack.dec (avs : List AV) : Option ((List (List ((Int × Int) × Int))) × Int) := match avs with
  | [a0, a1] => (a0.toList (.row 85 (.st (.pair (.st (.pair (.int .u8) (.int .i16))) (.int .i16))))).bind fun x0 => (a1.toVal (.int .i64)).bind fun x1 => some (x0, x1)
  | _ => none
theorem laws_szRack.dec_eq {avs : List AV} {x : ((List (List ((Int × Int) × Int))) × Int)} (h : laws_szRack.dec avs = some x) : ∃ e0, avs = [.obj false ⟨e0, (.row 85 (.st (.pair (.st (.pair (.int .u8) (.int .i16))) (.int .i16)))), x.1⟩, .val (.int .i64) x.2] := by
  unfold laws_szRack.dec at h
  split at h
  · obtain ⟨x0, hx0, hh1⟩ := Option.bind_eq_some_iff.1 h
    obtain ⟨e0, rfl⟩ := toList_eq hx0
    obtain ⟨x1, hx1, hh2⟩ := Option.bind_eq_some_iff.1 hh1
    obtain rfl := toVal_eq hx1
    obtain rfl := Option.some.inj hh2
    exact ⟨e0, rfl⟩
  · cases h
def laws_szRack.enc (e : TypeId) (r : Int) : Res := ⟨[.val (.int .i64) r], []⟩
noncomputable def laws_szRack.sig (f : laws_szRack.A → Option laws_szRack.B) : Sig := mkSig [] laws_szRack.dec f fun avs r => laws_szRack.enc 0 r
abbrev laws_szRack.S (f : laws_szRack.A → Option laws_szRack.B) : Prop := Sound Try.pinned.checked.prog 15 (laws_szRack.sig f)
abbrev laws_toBottle.A : Type := (Int × Int)
abbrev laws_toBottle.B : Type := (Int × Int)
def laws_toBottle.dec (avs : List AV) : Option (Int × Int) := match avs with
  | [a0] => (a0.toVal (.st (.pair (.int .u8) (.int .i16)))).bind fun x0 => some x0
  | _ => none
theorem laws_toBottle.dec_eq {avs : List AV} {x : (Int × Int)} (h : laws_toBottle.dec avs = some x) : avs = [.val (.st (.pair (.int .u8) (.int .i16))) x] := by
  unfold laws_toBottle.dec at h
  split at h
  · obtain ⟨x0, hx0, hh1⟩ := Option.bind_eq_some_iff.1 h
    obtain rfl := toVal_eq hx0
    obtain rfl := Option.some.inj hh1
    exact rfl
  · cases h
def laws_toBottle.enc (e : TypeId) (r : (Int × Int)) : Res := ⟨[.val (.st (.pair (.int .u8) (.int .i16))) r], []⟩
noncomputable def laws_toBottle.sig (f : laws_toBottle.A → Option laws_toBottle.B) : Sig := mkSig [] laws_toBottle.dec f fun avs r => laws_toBottle.enc 0 r
abbrev laws_toBottle.S (f : laws_toBottle.A → Option laws_toBottle.B) : Prop := Sound Try.pinned.checked.prog 29 (laws_toBottle.sig f)
abbrev laws_toStored.A : Type := ((Int × Int) × Int)
abbrev laws_toStored.B : Type := ((Int × Int) × Int)
def laws_toStored.dec (avs : List AV) : Option ((Int × Int) × Int) := match avs with
  | [a0] => (a0.toVal (.st (.pair (.st (.pair (.int .u8) (.int .i16))) (.int .i16)))).bind fun x0 => some x0
  | _ => none
theorem laws_toStored.dec_eq {avs : List AV} {x : ((Int × Int) × Int)} (h : laws_toStored.dec avs = some x) : avs = [.val (.st (.pair (.st (.pair (.int .u8) (.int .i16))) (.int .i16))) x] := by
  unfold laws_toStored.dec at h
  split at h
  · obtain ⟨x0, hx0, hh1⟩ := Option.bind_eq_some_iff.1 h
    obtain rfl := toVal_eq hx0
    obtain rfl := Option.some.inj hh1
    exact rfl
  · cases h
def laws_toStored.enc (e : TypeId) (r : ((Int × Int) × Int)) : Res := ⟨[.val (.st (.pair (.st (.pair (.int .u8) (.int .i16))) (.int .i16))) r], []⟩
noncomputable def laws_toStored.sig (f : laws_toStored.A → Option laws_toStored.B) : Sig := mkSig [] laws_toStored.dec f fun avs r => laws_toStored.enc 0 r
abbrev laws_toStored.S (f : laws_toStored.A → Option laws_toStored.B) : Prop := Sound Try.pinned.checked.prog 58 (laws_toStored.sig f)
abbrev laws_toStoredS.A : Type := (List ((Int × Int) × Int))
abbrev laws_toStoredS.B : Type := (List ((Int × Int) × Int))
def laws_toStoredS.dec (avs : List AV) : Option (List ((Int × Int) × Int)) := match avs with
  | [a0] => (a0.toList (.st (.pair (.st (.pair (.int .u8) (.int .i16))) (.int .i16)))).bind fun x0 => some x0
  | _ => none
theorem laws_toStoredS.dec_eq {avs : List AV} {x : (List ((Int × Int) × Int))} (h : laws_toStoredS.dec avs = some x) : ∃ e0, avs = [.obj false ⟨e0, (.st (.pair (.st (.pair (.int .u8) (.int .i16))) (.int .i16))), x⟩] := by
  unfold laws_toStoredS.dec at h
  split at h
  · obtain ⟨x0, hx0, hh1⟩ := Option.bind_eq_some_iff.1 h
    obtain ⟨e0, rfl⟩ := toList_eq hx0
    obtain rfl := Option.some.inj hh1
    exact ⟨e0, rfl⟩
  · cases h
def laws_toStoredS.enc (e : TypeId) (r : (List ((Int × Int) × Int))) : Res := ⟨[.own ⟨52, (.st (.pair (.st (.pair (.int .u8) (.int .i16))) (.int .i16))), r⟩], []⟩
noncomputable def laws_toStoredS.sig (f : laws_toStoredS.A → Option laws_toStoredS.B) : Sig := mkSig [] laws_toStoredS.dec f fun avs r => laws_toStoredS.enc 0 r
abbrev laws_toStoredS.S (f : laws_toStoredS.A → Option laws_toStoredS.B) : Prop := Sound Try.pinned.checked.prog 12 (laws_toStoredS.sig f)
abbrev laws_toRack.A : Type := (List (List ((Int × Int) × Int)))
abbrev laws_toRack.B : Type := (List (List ((Int × Int) × Int)))
def laws_toRack.dec (avs : List AV) : Option (List (List ((Int × Int) × Int))) := match avs with
  | [a0] => (a0.toList (.row 85 (.st (.pair (.st (.pair (.int .u8) (.int .i16))) (.int .i16))))).bind fun x0 => some x0
  | _ => none
theorem laws_toRack.dec_eq {avs : List AV} {x : (List (List ((Int × Int) × Int)))} (h : laws_toRack.dec avs = some x) : ∃ e0, avs = [.obj false ⟨e0, (.row 85 (.st (.pair (.st (.pair (.int .u8) (.int .i16))) (.int .i16)))), x⟩] := by
  unfold laws_toRack.dec at h
  split at h
  · obtain ⟨x0, hx0, hh1⟩ := Option.bind_eq_some_iff.1 h
    obtain ⟨e0, rfl⟩ := toList_eq hx0
    obtain rfl := Option.some.inj hh1
    exact ⟨e0, rfl⟩
  · cases h
def laws_toRack.enc (e : TypeId) (r : (List (List ((Int × Int) × Int)))) : Res := ⟨[.own ⟨26, (.row 52 (.st (.pair (.st (.pair (.int .u8) (.int .i16))) (.int .i16)))), r⟩], []⟩
noncomputable def laws_toRack.sig (f : laws_toRack.A → Option laws_toRack.B) : Sig := mkSig [] laws_toRack.dec f fun avs r => laws_toRack.enc 0 r
abbrev laws_toRack.S (f : laws_toRack.A → Option laws_toRack.B) : Prop := Sound Try.pinned.checked.prog 17 (laws_toRack.sig f)
abbrev spec_l00In.A : Type := (Int × Int × Int)
abbrev spec_l00In.B : Type := Bool
def spec_l00In.dec (avs : List AV) : Option (Int × Int × Int) := match avs with
  | [a0, a1, a2] => (a0.toVal (.int .i64)).bind fun x0 => (a1.toVal (.int .i64)).bind fun x1 => (a2.toVal (.int .i64)).bind fun x2 => some (x0, x1, x2)
  | _ => none
theorem spec_l00In.dec_eq {avs : List AV} {x : (Int × Int × Int)} (h : spec_l00In.dec avs = some x) : avs = [.val (.int .i64) x.1, .val (.int .i64) x.2.1, .val (.int .i64) x.2.2] := by
  unfold spec_l00In.dec at h
  split at h
  · obtain ⟨x0, hx0, hh1⟩ := Option.bind_eq_some_iff.1 h
    obtain rfl := toVal_eq hx0
    obtain ⟨x1, hx1, hh2⟩ := Option.bind_eq_some_iff.1 hh1
    obtain rfl := toVal_eq hx1
    obtain ⟨x2, hx2, hh3⟩ := Option.bind_eq_some_iff.1 hh2
    obtain rfl := toVal_eq hx2
    obtain rfl := Option.some.inj hh3
    exact rfl
  · cases h
def spec_l00In.enc (e : TypeId) (r : Bool) : Res := ⟨[.val .bool r], []⟩
noncomputable def spec_l00In.sig (f : spec_l00In.A → Option spec_l00In.B) : Sig := mkSig [] spec_l00In.dec f fun avs r => spec_l00In.enc 0 r
abbrev spec_l00In.S (f : spec_l00In.A → Option spec_l00In.B) : Prop := Sound Try.pinned.checked.prog 98 (spec_l00In.sig f)
abbrev spec_l01Bottle.A : Type := (Int × Int)
abbrev spec_l01Bottle.B : Type := Bool
def spec_l01Bottle.dec (avs : List AV) : Option (Int × Int) := match avs with
  | [a0] => (a0.toVal (.st (.pair (.int .u8) (.int .i16)))).bind fun x0 => some x0
  | _ => none
theorem spec_l01Bottle.dec_eq {avs : List AV} {x : (Int × Int)} (h : spec_l01Bottle.dec avs = some x) : avs = [.val (.st (.pair (.int .u8) (.int .i16))) x] := by
  unfold spec_l01Bottle.dec at h
  split at h
  · obtain ⟨x0, hx0, hh1⟩ := Option.bind_eq_some_iff.1 h
    obtain rfl := toVal_eq hx0
    obtain rfl := Option.some.inj hh1
    exact rfl
  · cases h
def spec_l01Bottle.enc (e : TypeId) (r : Bool) : Res := ⟨[.val .bool r], []⟩
noncomputable def spec_l01Bottle.sig (f : spec_l01Bottle.A → Option spec_l01Bottle.B) : Sig := mkSig [] spec_l01Bottle.dec f fun avs r => spec_l01Bottle.enc 0 r
abbrev spec_l01Bottle.S (f : spec_l01Bottle.A → Option spec_l01Bottle.B) : Prop := Sound Try.pinned.checked.prog 88 (spec_l01Bottle.sig f)
abbrev spec_l04Stored.A : Type := ((Int × Int) × Int)
abbrev spec_l04Stored.B : Type := Bool
def spec_l04Stored.dec (avs : List AV) : Option ((Int × Int) × Int) := match avs with
  | [a0] => (a0.toBox (.st (.pair (.st (.pair (.int .u8) (.int .i16))) (.int .i16)))).bind fun x0 => some x0
  | _ => none
theorem spec_l04Stored.dec_eq {avs : List AV} {x : ((Int × Int) × Int)} (h : spec_l04Stored.dec avs = some x) : ∃ e0, avs = [.obj true ⟨e0, (.st (.pair (.st (.pair (.int .u8) (.int .i16))) (.int .i16))), [x]⟩] := by
  unfold spec_l04Stored.dec at h
  split at h
  · obtain ⟨x0, hx0, hh1⟩ := Option.bind_eq_some_iff.1 h
    obtain ⟨e0, rfl⟩ := toBox_eq hx0
    obtain rfl := Option.some.inj hh1
    exact ⟨e0, rfl⟩
  · cases h
def spec_l04Stored.enc (e : TypeId) (r : Bool) : Res := ⟨[.val .bool r], []⟩
noncomputable def spec_l04Stored.sig (f : spec_l04Stored.A → Option spec_l04Stored.B) : Sig := mkSig [] spec_l04Stored.dec f fun avs r => spec_l04Stored.enc 0 r
abbrev spec_l04Stored.S (f : spec_l04Stored.A → Option spec_l04Stored.B) : Prop := Sound Try.pinned.checked.prog 97 (spec_l04Stored.sig f)
abbrev spec_l04All.A : Type := (List ((Int × Int) × Int))
abbrev spec_l04All.B : Type := Bool
def spec_l04All.dec (avs : List AV) : Option (List ((Int × Int) × Int)) := match avs with
  | [a0] => (a0.toList (.st (.pair (.st (.pair (.int .u8) (.int .i16))) (.int .i16)))).bind fun x0 => some x0
  | _ => none
theorem spec_l04All.dec_eq {avs : List AV} {x : (List ((Int × Int) × Int))} (h : spec_l04All.dec avs = some x) : ∃ e0, avs = [.obj false ⟨e0, (.st (.pair (.st (.pair (.int .u8) (.int .i16))) (.int .i16))), x⟩] := by
  unfold spec_l04All.dec at h
  split at h
  · obtain ⟨x0, hx0, hh1⟩ := Option.bind_eq_some_iff.1 h
    obtain ⟨e0, rfl⟩ := toList_eq hx0
    obtain rfl := Option.some.inj hh1
    exact ⟨e0, rfl⟩
  · cases h
def spec_l04All.enc (e : TypeId) (r : Bool) : Res := ⟨[.val .bool r], []⟩
noncomputable def spec_l04All.sig (f : spec_l04All.A → Option spec_l04All.B) : Sig := mkSig [] spec_l04All.dec f fun avs r => spec_l04All.enc 0 r
abbrev spec_l04All.S (f : spec_l04All.A → Option spec_l04All.B) : Prop := Sound Try.pinned.checked.prog 55 (spec_l04All.sig f)
abbrev spec_l04Ok.A : Type := (List (List ((Int × Int) × Int)))
abbrev spec_l04Ok.B : Type := Bool
def spec_l04Ok.dec (avs : List AV) : Option (List (List ((Int × Int) × Int))) := match avs with
  | [a0] => (a0.toList (.row 52 (.st (.pair (.st (.pair (.int .u8) (.int .i16))) (.int .i16))))).bind fun x0 => some x0
  | _ => none
theorem spec_l04Ok.dec_eq {avs : List AV} {x : (List (List ((Int × Int) × Int)))} (h : spec_l04Ok.dec avs = some x) : ∃ e0, avs = [.obj false ⟨e0, (.row 52 (.st (.pair (.st (.pair (.int .u8) (.int .i16))) (.int .i16)))), x⟩] := by
  unfold spec_l04Ok.dec at h
  split at h
  · obtain ⟨x0, hx0, hh1⟩ := Option.bind_eq_some_iff.1 h
    obtain ⟨e0, rfl⟩ := toList_eq hx0
    obtain rfl := Option.some.inj hh1
    exact ⟨e0, rfl⟩
  · cases h
def spec_l04Ok.enc (e : TypeId) (r : Bool) : Res := ⟨[.val .bool r], []⟩
noncomputable def spec_l04Ok.sig (f : spec_l04Ok.A → Option spec_l04Ok.B) : Sig := mkSig [] spec_l04Ok.dec f fun avs r => spec_l04Ok.enc 0 r
abbrev spec_l04Ok.S (f : spec_l04Ok.A → Option spec_l04Ok.B) : Prop := Sound Try.pinned.checked.prog 63 (spec_l04Ok.sig f)
abbrev spec_l04Slack.A : Type := Int
abbrev spec_l04Slack.B : Type := Bool
def spec_l04Slack.dec (avs : List AV) : Option Int := match avs with
  | [a0] => (a0.toVal (.int .i64)).bind fun x0 => some x0
  | _ => none
theorem spec_l04Slack.dec_eq {avs : List AV} {x : Int} (h : spec_l04Slack.dec avs = some x) : avs = [.val (.int .i64) x] := by
  unfold spec_l04Slack.dec at h
  split at h
  · obtain ⟨x0, hx0, hh1⟩ := Option.bind_eq_some_iff.1 h
    obtain rfl := toVal_eq hx0
    obtain rfl := Option.some.inj hh1
    exact rfl
  · cases h
def spec_l04Slack.enc (e : TypeId) (r : Bool) : Res := ⟨[.val .bool r], []⟩
noncomputable def spec_l04Slack.sig (f : spec_l04Slack.A → Option spec_l04Slack.B) : Sig := mkSig [] spec_l04Slack.dec f fun avs r => spec_l04Slack.enc 0 r
abbrev spec_l04Slack.S (f : spec_l04Slack.A → Option spec_l04Slack.B) : Prop := Sound Try.pinned.checked.prog 56 (spec_l04Slack.sig f)
abbrev spec_l04Taken.A : Type := ((List (List ((Int × Int) × Int))) × (List (Int × Int)) × Int)
abbrev spec_l04Taken.B : Type := Int
def spec_l04Taken.dec (avs : List AV) : Option ((List (List ((Int × Int) × Int))) × (List (Int × Int)) × Int) := match avs with
  | [a0, a1, a2] => (a0.toList (.row 52 (.st (.pair (.st (.pair (.int .u8) (.int .i16))) (.int .i16))))).bind fun x0 => (a1.toList (.st (.pair (.int .u8) (.int .i16)))).bind fun x1 => (a2.toVal (.int .i64)).bind fun x2 => some (x0, x1, x2)
  | _ => none
theorem spec_l04Taken.dec_eq {avs : List AV} {x : ((List (List ((Int × Int) × Int))) × (List (Int × Int)) × Int)} (h : spec_l04Taken.dec avs = some x) : ∃ e0 e1, avs = [.obj false ⟨e0, (.row 52 (.st (.pair (.st (.pair (.int .u8) (.int .i16))) (.int .i16)))), x.1⟩, .obj false ⟨e1, (.st (.pair (.int .u8) (.int .i16))), x.2.1⟩, .val (.int .i64) x.2.2] := by
  unfold spec_l04Taken.dec at h
  split at h
  · obtain ⟨x0, hx0, hh1⟩ := Option.bind_eq_some_iff.1 h
    obtain ⟨e0, rfl⟩ := toList_eq hx0
    obtain ⟨x1, hx1, hh2⟩ := Option.bind_eq_some_iff.1 hh1
    obtain ⟨e1, rfl⟩ := toList_eq hx1
    obtain ⟨x2, hx2, hh3⟩ := Option.bind_eq_some_iff.1 hh2
    obtain rfl := toVal_eq hx2
    obtain rfl := Option.some.inj hh3
    exact ⟨e0, e1, rfl⟩
  · cases h
def spec_l04Taken.enc (e : TypeId) (r : Int) : Res := ⟨[.val (.int .i64) r], []⟩
noncomputable def spec_l04Taken.sig (f : spec_l04Taken.A → Option spec_l04Taken.B) : Sig := mkSig [] spec_l04Taken.dec f fun avs r => spec_l04Taken.enc 0 r
abbrev spec_l04Taken.S (f : spec_l04Taken.A → Option spec_l04Taken.B) : Prop := Sound Try.pinned.checked.prog 73 (spec_l04Taken.sig f)
abbrev spec_l04Oldest.A : Type := ((List (List ((Int × Int) × Int))) × (Int × Int))
abbrev spec_l04Oldest.B : Type := (Int × Int)
def spec_l04Oldest.dec (avs : List AV) : Option ((List (List ((Int × Int) × Int))) × (Int × Int)) := match avs with
  | [a0, a1] => (a0.toList (.row 52 (.st (.pair (.st (.pair (.int .u8) (.int .i16))) (.int .i16))))).bind fun x0 => (a1.toVal (.st (.pair (.int .u8) (.int .i16)))).bind fun x1 => some (x0, x1)
  | _ => none
theorem spec_l04Oldest.dec_eq {avs : List AV} {x : ((List (List ((Int × Int) × Int))) × (Int × Int))} (h : spec_l04Oldest.dec avs = some x) : ∃ e0, avs = [.obj false ⟨e0, (.row 52 (.st (.pair (.st (.pair (.int .u8) (.int .i16))) (.int .i16)))), x.1⟩, .val (.st (.pair (.int .u8) (.int .i16))) x.2] := by
  unfold spec_l04Oldest.dec at h
  split at h
  · obtain ⟨x0, hx0, hh1⟩ := Option.bind_eq_some_iff.1 h
    obtain ⟨e0, rfl⟩ := toList_eq hx0
    obtain ⟨x1, hx1, hh2⟩ := Option.bind_eq_some_iff.1 hh1
    obtain rfl := toVal_eq hx1
    obtain rfl := Option.some.inj hh2
    exact ⟨e0, rfl⟩
  · cases h
def spec_l04Oldest.enc (e : TypeId) (r : (Int × Int)) : Res := ⟨[.val (.int .i64) r.1, .val (.int .i64) r.2], []⟩
noncomputable def spec_l04Oldest.sig (f : spec_l04Oldest.A → Option spec_l04Oldest.B) : Sig := mkSig [] spec_l04Oldest.dec f fun avs r => spec_l04Oldest.enc 0 r
abbrev spec_l04Oldest.S (f : spec_l04Oldest.A → Option spec_l04Oldest.B) : Prop := Sound Try.pinned.checked.prog 89 (spec_l04Oldest.sig f)
abbrev spec_l04Choice.A : Type := ((List (List ((Int × Int) × Int))) × (Int × Int) × Int)
abbrev spec_l04Choice.B : Type := (Int × Int)
def spec_l04Choice.dec (avs : List AV) : Option ((List (List ((Int × Int) × Int))) × (Int × Int) × Int) := match avs with
  | [a0, a1, a2] => (a0.toList (.row 52 (.st (.pair (.st (.pair (.int .u8) (.int .i16))) (.int .i16))))).bind fun x0 => (a1.toVal (.st (.pair (.int .u8) (.int .i16)))).bind fun x1 => (a2.toVal (.int .i64)).bind fun x2 => some (x0, x1, x2)
  | _ => none
theorem spec_l04Choice.dec_eq {avs : List AV} {x : ((List (List ((Int × Int) × Int))) × (Int × Int) × Int)} (h : spec_l04Choice.dec avs = some x) : ∃ e0, avs = [.obj false ⟨e0, (.row 52 (.st (.pair (.st (.pair (.int .u8) (.int .i16))) (.int .i16)))), x.1⟩, .val (.st (.pair (.int .u8) (.int .i16))) x.2.1, .val (.int .i64) x.2.2] := by
  unfold spec_l04Choice.dec at h
  split at h
  · obtain ⟨x0, hx0, hh1⟩ := Option.bind_eq_some_iff.1 h
    obtain ⟨e0, rfl⟩ := toList_eq hx0
    obtain ⟨x1, hx1, hh2⟩ := Option.bind_eq_some_iff.1 hh1
    obtain rfl := toVal_eq hx1
    obtain ⟨x2, hx2, hh3⟩ := Option.bind_eq_some_iff.1 hh2
    obtain rfl := toVal_eq hx2
    obtain rfl := Option.some.inj hh3
    exact ⟨e0, rfl⟩
  · cases h
def spec_l04Choice.enc (e : TypeId) (r : (Int × Int)) : Res := ⟨[.val (.int .i64) r.1, .val (.int .i64) r.2], []⟩
noncomputable def spec_l04Choice.sig (f : spec_l04Choice.A → Option spec_l04Choice.B) : Sig := mkSig [] spec_l04Choice.dec f fun avs r => spec_l04Choice.enc 0 r
abbrev spec_l04Choice.S (f : spec_l04Choice.A → Option spec_l04Choice.B) : Prop := Sound Try.pinned.checked.prog 91 (spec_l04Choice.sig f)
abbrev spec_l04Own.A : Type := (List (List ((Int × Int) × Int)))
abbrev spec_l04Own.B : Type := (List (List ((Int × Int) × Int)))
def spec_l04Own.dec (avs : List AV) : Option (List (List ((Int × Int) × Int))) := match avs with
  | [a0] => (a0.toList (.row 52 (.st (.pair (.st (.pair (.int .u8) (.int .i16))) (.int .i16))))).bind fun x0 => some x0
  | _ => none
theorem spec_l04Own.dec_eq {avs : List AV} {x : (List (List ((Int × Int) × Int)))} (h : spec_l04Own.dec avs = some x) : ∃ e0, avs = [.obj false ⟨e0, (.row 52 (.st (.pair (.st (.pair (.int .u8) (.int .i16))) (.int .i16)))), x⟩] := by
  unfold spec_l04Own.dec at h
  split at h
  · obtain ⟨x0, hx0, hh1⟩ := Option.bind_eq_some_iff.1 h
    obtain ⟨e0, rfl⟩ := toList_eq hx0
    obtain rfl := Option.some.inj hh1
    exact ⟨e0, rfl⟩
  · cases h
def spec_l04Own.enc (e : TypeId) (r : (List (List ((Int × Int) × Int)))) : Res := ⟨[.own ⟨26, (.row 52 (.st (.pair (.st (.pair (.int .u8) (.int .i16))) (.int .i16)))), r⟩], []⟩
noncomputable def spec_l04Own.sig (f : spec_l04Own.A → Option spec_l04Own.B) : Sig := mkSig [] spec_l04Own.dec f fun avs r => spec_l04Own.enc 0 r
abbrev spec_l04Own.S (f : spec_l04Own.A → Option spec_l04Own.B) : Prop := Sound Try.pinned.checked.prog 64 (spec_l04Own.sig f)
abbrev spec_l04Room.A : Type := ((List (List ((Int × Int) × Int))) × Int)
abbrev spec_l04Room.B : Type := Int
def spec_l04Room.dec (avs : List AV) : Option ((List (List ((Int × Int) × Int))) × Int) := match avs with
  | [a0, a1] => (a0.toList (.row 52 (.st (.pair (.st (.pair (.int .u8) (.int .i16))) (.int .i16))))).bind fun x0 => (a1.toVal (.int .i64)).bind fun x1 => some (x0, x1)
  | _ => none
theorem spec_l04Room.dec_eq {avs : List AV} {x : ((List (List ((Int × Int) × Int))) × Int)} (h : spec_l04Room.dec avs = some x) : ∃ e0, avs = [.obj false ⟨e0, (.row 52 (.st (.pair (.st (.pair (.int .u8) (.int .i16))) (.int .i16)))), x.1⟩, .val (.int .i64) x.2] := by
  unfold spec_l04Room.dec at h
  split at h
  · obtain ⟨x0, hx0, hh1⟩ := Option.bind_eq_some_iff.1 h
    obtain ⟨e0, rfl⟩ := toList_eq hx0
    obtain ⟨x1, hx1, hh2⟩ := Option.bind_eq_some_iff.1 hh1
    obtain rfl := toVal_eq hx1
    obtain rfl := Option.some.inj hh2
    exact ⟨e0, rfl⟩
  · cases h
def spec_l04Room.enc (e : TypeId) (r : Int) : Res := ⟨[.val (.int .i64) r], []⟩
noncomputable def spec_l04Room.sig (f : spec_l04Room.A → Option spec_l04Room.B) : Sig := mkSig [] spec_l04Room.dec f fun avs r => spec_l04Room.enc 0 r
abbrev spec_l04Room.S (f : spec_l04Room.A → Option spec_l04Room.B) : Prop := Sound Try.pinned.checked.prog 129 (spec_l04Room.sig f)
abbrev spec_l04Reach.A : Type := ((List (List ((Int × Int) × Int))) × Int × Int)
abbrev spec_l04Reach.B : Type := ((List (List ((Int × Int) × Int))) × ((Int × Int) × Int) × Int × Int)
def spec_l04Reach.dec (avs : List AV) : Option ((List (List ((Int × Int) × Int))) × Int × Int) := match avs with
  | [a0, a1, a2] => (a0.toList (.row 52 (.st (.pair (.st (.pair (.int .u8) (.int .i16))) (.int .i16))))).bind fun x0 => (a1.toVal (.int .i64)).bind fun x1 => (a2.toVal (.int .i64)).bind fun x2 => some (x0, x1, x2)
  | _ => none
theorem spec_l04Reach.dec_eq {avs : List AV} {x : ((List (List ((Int × Int) × Int))) × Int × Int)} (h : spec_l04Reach.dec avs = some x) : ∃ e0, avs = [.obj false ⟨e0, (.row 52 (.st (.pair (.st (.pair (.int .u8) (.int .i16))) (.int .i16)))), x.1⟩, .val (.int .i64) x.2.1, .val (.int .i64) x.2.2] := by
  unfold spec_l04Reach.dec at h
  split at h
  · obtain ⟨x0, hx0, hh1⟩ := Option.bind_eq_some_iff.1 h
    obtain ⟨e0, rfl⟩ := toList_eq hx0
    obtain ⟨x1, hx1, hh2⟩ := Option.bind_eq_some_iff.1 hh1
    obtain rfl := toVal_eq hx1
    obtain ⟨x2, hx2, hh3⟩ := Option.bind_eq_some_iff.1 hh2
    obtain rfl := toVal_eq hx2
    obtain rfl := Option.some.inj hh3
    exact ⟨e0, rfl⟩
  · cases h
def spec_l04Reach.enc (e : TypeId) (r : ((List (List ((Int × Int) × Int))) × ((Int × Int) × Int) × Int × Int)) : Res := ⟨[.own ⟨26, (.row 52 (.st (.pair (.st (.pair (.int .u8) (.int .i16))) (.int .i16)))), r.1⟩, .val (.st (.pair (.st (.pair (.int .u8) (.int .i16))) (.int .i16))) r.2.1, .val (.int .i64) r.2.2.1, .val (.int .i64) r.2.2.2], []⟩
noncomputable def spec_l04Reach.sig (f : spec_l04Reach.A → Option spec_l04Reach.B) : Sig := mkSig [] spec_l04Reach.dec f fun avs r => spec_l04Reach.enc 0 r
abbrev spec_l04Reach.S (f : spec_l04Reach.A → Option spec_l04Reach.B) : Prop := Sound Try.pinned.checked.prog 108 (spec_l04Reach.sig f)
abbrev spec_l04Take.A : Type := ((List (List ((Int × Int) × Int))) × (Int × Int) × Int)
abbrev spec_l04Take.B : Type := ((List (List ((Int × Int) × Int))) × ((Int × Int) × Int) × Int × Int)
def spec_l04Take.dec (avs : List AV) : Option ((List (List ((Int × Int) × Int))) × (Int × Int) × Int) := match avs with
  | [a0, a1, a2] => (a0.toList (.row 52 (.st (.pair (.st (.pair (.int .u8) (.int .i16))) (.int .i16))))).bind fun x0 => (a1.toVal (.st (.pair (.int .u8) (.int .i16)))).bind fun x1 => (a2.toVal (.int .i64)).bind fun x2 => some (x0, x1, x2)
  | _ => none
theorem spec_l04Take.dec_eq {avs : List AV} {x : ((List (List ((Int × Int) × Int))) × (Int × Int) × Int)} (h : spec_l04Take.dec avs = some x) : ∃ e0, avs = [.obj false ⟨e0, (.row 52 (.st (.pair (.st (.pair (.int .u8) (.int .i16))) (.int .i16)))), x.1⟩, .val (.st (.pair (.int .u8) (.int .i16))) x.2.1, .val (.int .i64) x.2.2] := by
  unfold spec_l04Take.dec at h
  split at h
  · obtain ⟨x0, hx0, hh1⟩ := Option.bind_eq_some_iff.1 h
    obtain ⟨e0, rfl⟩ := toList_eq hx0
    obtain ⟨x1, hx1, hh2⟩ := Option.bind_eq_some_iff.1 hh1
    obtain rfl := toVal_eq hx1
    obtain ⟨x2, hx2, hh3⟩ := Option.bind_eq_some_iff.1 hh2
    obtain rfl := toVal_eq hx2
    obtain rfl := Option.some.inj hh3
    exact ⟨e0, rfl⟩
  · cases h
def spec_l04Take.enc (e : TypeId) (r : ((List (List ((Int × Int) × Int))) × ((Int × Int) × Int) × Int × Int)) : Res := ⟨[.own ⟨26, (.row 52 (.st (.pair (.st (.pair (.int .u8) (.int .i16))) (.int .i16)))), r.1⟩, .val (.st (.pair (.st (.pair (.int .u8) (.int .i16))) (.int .i16))) r.2.1, .val (.int .i64) r.2.2.1, .val (.int .i64) r.2.2.2], []⟩
noncomputable def spec_l04Take.sig (f : spec_l04Take.A → Option spec_l04Take.B) : Sig := mkSig [] spec_l04Take.dec f fun avs r => spec_l04Take.enc 0 r
abbrev spec_l04Take.S (f : spec_l04Take.A → Option spec_l04Take.B) : Prop := Sound Try.pinned.checked.prog 74 (spec_l04Take.sig f)
abbrev spec_TakeOldest.A : Type := ((List (List ((Int × Int) × Int))) × (Int × Int) × Int)
abbrev spec_TakeOldest.B : Type := ((List (List ((Int × Int) × Int))) × ((Int × Int) × Int) × Int × Int)
def spec_TakeOldest.dec (avs : List AV) : Option ((List (List ((Int × Int) × Int))) × (Int × Int) × Int) := match avs with
  | [a0, a1, a2] => (a0.toList (.row 52 (.st (.pair (.st (.pair (.int .u8) (.int .i16))) (.int .i16))))).bind fun x0 => (a1.toVal (.st (.pair (.int .u8) (.int .i16)))).bind fun x1 => (a2.toVal (.int .i64)).bind fun x2 => some (x0, x1, x2)
  | _ => none
theorem spec_TakeOldest.dec_eq {avs : List AV} {x : ((List (List ((Int × Int) × Int))) × (Int × Int) × Int)} (h : spec_TakeOldest.dec avs = some x) : ∃ e0, avs = [.obj false ⟨e0, (.row 52 (.st (.pair (.st (.pair (.int .u8) (.int .i16))) (.int .i16)))), x.1⟩, .val (.st (.pair (.int .u8) (.int .i16))) x.2.1, .val (.int .i64) x.2.2] := by
  unfold spec_TakeOldest.dec at h
  split at h
  · obtain ⟨x0, hx0, hh1⟩ := Option.bind_eq_some_iff.1 h
    obtain ⟨e0, rfl⟩ := toList_eq hx0
    obtain ⟨x1, hx1, hh2⟩ := Option.bind_eq_some_iff.1 hh1
    obtain rfl := toVal_eq hx1
    obtain ⟨x2, hx2, hh3⟩ := Option.bind_eq_some_iff.1 hh2
    obtain rfl := toVal_eq hx2
    obtain rfl := Option.some.inj hh3
    exact ⟨e0, rfl⟩
  · cases h
def spec_TakeOldest.enc (e : TypeId) (r : ((List (List ((Int × Int) × Int))) × ((Int × Int) × Int) × Int × Int)) : Res := ⟨[.own ⟨26, (.row 52 (.st (.pair (.st (.pair (.int .u8) (.int .i16))) (.int .i16)))), r.1⟩, .val (.st (.pair (.st (.pair (.int .u8) (.int .i16))) (.int .i16))) r.2.1, .val (.int .i64) r.2.2.1, .val (.int .i64) r.2.2.2], []⟩
noncomputable def spec_TakeOldest.sig (f : spec_TakeOldest.A → Option spec_TakeOldest.B) : Sig := mkSig [] spec_TakeOldest.dec f fun avs r => spec_TakeOldest.enc 0 r
abbrev spec_TakeOldest.S (f : spec_TakeOldest.A → Option spec_TakeOldest.B) : Prop := Sound Try.pinned.checked.prog 28 (spec_TakeOldest.sig f)
abbrev impl_within.A : Type := (Int × Int × Int)
abbrev impl_within.B : Type := Bool
def impl_within.dec (avs : List AV) : Option (Int × Int × Int) := match avs with
  | [a0, a1, a2] => (a0.toVal (.int .i64)).bind fun x0 => (a1.toVal (.int .i64)).bind fun x1 => (a2.toVal (.int .i64)).bind fun x2 => some (x0, x1, x2)
  | _ => none
theorem impl_within.dec_eq {avs : List AV} {x : (Int × Int × Int)} (h : impl_within.dec avs = some x) : avs = [.val (.int .i64) x.1, .val (.int .i64) x.2.1, .val (.int .i64) x.2.2] := by
  unfold impl_within.dec at h
  split at h
  · obtain ⟨x0, hx0, hh1⟩ := Option.bind_eq_some_iff.1 h
    obtain rfl := toVal_eq hx0
    obtain ⟨x1, hx1, hh2⟩ := Option.bind_eq_some_iff.1 hh1
    obtain rfl := toVal_eq hx1
    obtain ⟨x2, hx2, hh3⟩ := Option.bind_eq_some_iff.1 hh2
    obtain rfl := toVal_eq hx2
    obtain rfl := Option.some.inj hh3
    exact rfl
  · cases h
def impl_within.enc (e : TypeId) (r : Bool) : Res := ⟨[.val .bool r], []⟩
noncomputable def impl_within.sig (f : impl_within.A → Option impl_within.B) : Sig := mkSig [] impl_within.dec f fun avs r => impl_within.enc 0 r
abbrev impl_within.S (f : impl_within.A → Option impl_within.B) : Prop := Sound Try.pinned.checked.prog 102 (impl_within.sig f)
abbrev impl_ValidBottle.A : Type := (Int × Int)
abbrev impl_ValidBottle.B : Type := Bool
def impl_ValidBottle.dec (avs : List AV) : Option (Int × Int) := match avs with
  | [a0] => (a0.toVal (.st (.pair (.int .u8) (.int .i16)))).bind fun x0 => some x0
  | _ => none
theorem impl_ValidBottle.dec_eq {avs : List AV} {x : (Int × Int)} (h : impl_ValidBottle.dec avs = some x) : avs = [.val (.st (.pair (.int .u8) (.int .i16))) x] := by
  unfold impl_ValidBottle.dec at h
  split at h
  · obtain ⟨x0, hx0, hh1⟩ := Option.bind_eq_some_iff.1 h
    obtain rfl := toVal_eq hx0
    obtain rfl := Option.some.inj hh1
    exact rfl
  · cases h
def impl_ValidBottle.enc (e : TypeId) (r : Bool) : Res := ⟨[.val .bool r], []⟩
noncomputable def impl_ValidBottle.sig (f : impl_ValidBottle.A → Option impl_ValidBottle.B) : Sig := mkSig [] impl_ValidBottle.dec f fun avs r => impl_ValidBottle.enc 0 r
abbrev impl_ValidBottle.S (f : impl_ValidBottle.A → Option impl_ValidBottle.B) : Prop := Sound Try.pinned.checked.prog 75 (impl_ValidBottle.sig f)
abbrev impl_validStored.A : Type := ((Int × Int) × Int)
abbrev impl_validStored.B : Type := Bool
def impl_validStored.dec (avs : List AV) : Option ((Int × Int) × Int) := match avs with
  | [a0] => (a0.toVal (.st (.pair (.st (.pair (.int .u8) (.int .i16))) (.int .i16)))).bind fun x0 => some x0
  | _ => none
theorem impl_validStored.dec_eq {avs : List AV} {x : ((Int × Int) × Int)} (h : impl_validStored.dec avs = some x) : avs = [.val (.st (.pair (.st (.pair (.int .u8) (.int .i16))) (.int .i16))) x] := by
  unfold impl_validStored.dec at h
  split at h
  · obtain ⟨x0, hx0, hh1⟩ := Option.bind_eq_some_iff.1 h
    obtain rfl := toVal_eq hx0
    obtain rfl := Option.some.inj hh1
    exact rfl
  · cases h
def impl_validStored.enc (e : TypeId) (r : Bool) : Res := ⟨[.val .bool r], []⟩
noncomputable def impl_validStored.sig (f : impl_validStored.A → Option impl_validStored.B) : Sig := mkSig [] impl_validStored.dec f fun avs r => impl_validStored.enc 0 r
abbrev impl_validStored.S (f : impl_validStored.A → Option impl_validStored.B) : Prop := Sound Try.pinned.checked.prog 101 (impl_validStored.sig f)
abbrev impl_ValidRack_1_1.A : Type := ((Int × Int) × Int)
abbrev impl_ValidRack_1_1.B : Type := Bool
def impl_ValidRack_1_1.dec (avs : List AV) : Option ((Int × Int) × Int) := match avs with
  | [a0] => (a0.toVal (.st (.pair (.st (.pair (.int .u8) (.int .i16))) (.int .i16)))).bind fun x0 => some x0
  | _ => none
theorem impl_ValidRack_1_1.dec_eq {avs : List AV} {x : ((Int × Int) × Int)} (h : impl_ValidRack_1_1.dec avs = some x) : avs = [.val (.st (.pair (.st (.pair (.int .u8) (.int .i16))) (.int .i16))) x] := by
  unfold impl_ValidRack_1_1.dec at h
  split at h
  · obtain ⟨x0, hx0, hh1⟩ := Option.bind_eq_some_iff.1 h
    obtain rfl := toVal_eq hx0
    obtain rfl := Option.some.inj hh1
    exact rfl
  · cases h
def impl_ValidRack_1_1.enc (e : TypeId) (r : Bool) : Res := ⟨[.val .bool r], []⟩
noncomputable def impl_ValidRack_1_1.sig (f : impl_ValidRack_1_1.A → Option impl_ValidRack_1_1.B) : Sig := mkSig [] impl_ValidRack_1_1.dec f fun avs r => impl_ValidRack_1_1.enc 0 r
abbrev impl_ValidRack_1_1.S (f : impl_ValidRack_1_1.A → Option impl_ValidRack_1_1.B) : Prop := Sound Try.pinned.checked.prog 105 (impl_ValidRack_1_1.sig f)
abbrev slices_IndexFunc_impl_Stored_impl_Stored__impl_ValidRack_1_1.A : Type := (List ((Int × Int) × Int))
abbrev slices_IndexFunc_impl_Stored_impl_Stored__impl_ValidRack_1_1.B : Type := Int
def slices_IndexFunc_impl_Stored_impl_Stored__impl_ValidRack_1_1.dec (avs : List AV) : Option (List ((Int × Int) × Int)) := match avs with
  | [a0, a1] => (a0.toList (.st (.pair (.st (.pair (.int .u8) (.int .i16))) (.int .i16)))).bind fun x0 => (a1.toFn 105).bind fun q1 => match q1 with | [] => some x0 | _ => none
  | _ => none
theorem slices_IndexFunc_impl_Stored_impl_Stored__impl_ValidRack_1_1.dec_eq {avs : List AV} {x : (List ((Int × Int) × Int))} (h : slices_IndexFunc_impl_Stored_impl_Stored__impl_ValidRack_1_1.dec avs = some x) : ∃ e0, avs = [.obj false ⟨e0, (.st (.pair (.st (.pair (.int .u8) (.int .i16))) (.int .i16))), x⟩, .fn 105 []] := by
  unfold slices_IndexFunc_impl_Stored_impl_Stored__impl_ValidRack_1_1.dec at h
  split at h
  · obtain ⟨x0, hx0, hh1⟩ := Option.bind_eq_some_iff.1 h
    obtain ⟨e0, rfl⟩ := toList_eq hx0
    obtain ⟨q1, hq1, hh2⟩ := Option.bind_eq_some_iff.1 hh1
    obtain ⟨w1, rfl, rfl⟩ := toFn_eq hq1
    match w1, hh2 with
    | [], hh3 =>
    obtain rfl := Option.some.inj hh3
    exact ⟨e0, rfl⟩
  · cases h
def slices_IndexFunc_impl_Stored_impl_Stored__impl_ValidRack_1_1.enc (e : TypeId) (r : Int) : Res := ⟨[.val (.int .i64) r], []⟩
noncomputable def slices_IndexFunc_impl_Stored_impl_Stored__impl_ValidRack_1_1.sig (f : slices_IndexFunc_impl_Stored_impl_Stored__impl_ValidRack_1_1.A → Option slices_IndexFunc_impl_Stored_impl_Stored__impl_ValidRack_1_1.B) : Sig := mkSig [] slices_IndexFunc_impl_Stored_impl_Stored__impl_ValidRack_1_1.dec f fun avs r => slices_IndexFunc_impl_Stored_impl_Stored__impl_ValidRack_1_1.enc 0 r
abbrev slices_IndexFunc_impl_Stored_impl_Stored__impl_ValidRack_1_1.S (f : slices_IndexFunc_impl_Stored_impl_Stored__impl_ValidRack_1_1.A → Option slices_IndexFunc_impl_Stored_impl_Stored__impl_ValidRack_1_1.B) : Prop := Sound Try.pinned.checked.prog 125 (slices_IndexFunc_impl_Stored_impl_Stored__impl_ValidRack_1_1.sig f)
abbrev slices_ContainsFunc_impl_Stored_impl_Stored__impl_ValidRack_1_1.A : Type := (List ((Int × Int) × Int))
abbrev slices_ContainsFunc_impl_Stored_impl_Stored__impl_ValidRack_1_1.B : Type := Bool
def slices_ContainsFunc_impl_Stored_impl_Stored__impl_ValidRack_1_1.dec (avs : List AV) : Option (List ((Int × Int) × Int)) := match avs with
  | [a0, a1] => (a0.toList (.st (.pair (.st (.pair (.int .u8) (.int .i16))) (.int .i16)))).bind fun x0 => (a1.toFn 105).bind fun q1 => match q1 with | [] => some x0 | _ => none
  | _ => none
theorem slices_ContainsFunc_impl_Stored_impl_Stored__impl_ValidRack_1_1.dec_eq {avs : List AV} {x : (List ((Int × Int) × Int))} (h : slices_ContainsFunc_impl_Stored_impl_Stored__impl_ValidRack_1_1.dec avs = some x) : ∃ e0, avs = [.obj false ⟨e0, (.st (.pair (.st (.pair (.int .u8) (.int .i16))) (.int .i16))), x⟩, .fn 105 []] := by
  unfold slices_ContainsFunc_impl_Stored_impl_Stored__impl_ValidRack_1_1.dec at h
  split at h
  · obtain ⟨x0, hx0, hh1⟩ := Option.bind_eq_some_iff.1 h
    obtain ⟨e0, rfl⟩ := toList_eq hx0
    obtain ⟨q1, hq1, hh2⟩ := Option.bind_eq_some_iff.1 hh1
    obtain ⟨w1, rfl, rfl⟩ := toFn_eq hq1
    match w1, hh2 with
    | [], hh3 =>
    obtain rfl := Option.some.inj hh3
    exact ⟨e0, rfl⟩
  · cases h
def slices_ContainsFunc_impl_Stored_impl_Stored__impl_ValidRack_1_1.enc (e : TypeId) (r : Bool) : Res := ⟨[.val .bool r], []⟩
noncomputable def slices_ContainsFunc_impl_Stored_impl_Stored__impl_ValidRack_1_1.sig (f : slices_ContainsFunc_impl_Stored_impl_Stored__impl_ValidRack_1_1.A → Option slices_ContainsFunc_impl_Stored_impl_Stored__impl_ValidRack_1_1.B) : Sig := mkSig [] slices_ContainsFunc_impl_Stored_impl_Stored__impl_ValidRack_1_1.dec f fun avs r => slices_ContainsFunc_impl_Stored_impl_Stored__impl_ValidRack_1_1.enc 0 r
abbrev slices_ContainsFunc_impl_Stored_impl_Stored__impl_ValidRack_1_1.S (f : slices_ContainsFunc_impl_Stored_impl_Stored__impl_ValidRack_1_1.A → Option slices_ContainsFunc_impl_Stored_impl_Stored__impl_ValidRack_1_1.B) : Prop := Sound Try.pinned.checked.prog 99 (slices_ContainsFunc_impl_Stored_impl_Stored__impl_ValidRack_1_1.sig f)
abbrev impl_ValidRack_1.A : Type := (List ((Int × Int) × Int))
abbrev impl_ValidRack_1.B : Type := Bool
def impl_ValidRack_1.dec (avs : List AV) : Option (List ((Int × Int) × Int)) := match avs with
  | [a0] => (a0.toList (.st (.pair (.st (.pair (.int .u8) (.int .i16))) (.int .i16)))).bind fun x0 => some x0
  | _ => none
theorem impl_ValidRack_1.dec_eq {avs : List AV} {x : (List ((Int × Int) × Int))} (h : impl_ValidRack_1.dec avs = some x) : ∃ e0, avs = [.obj false ⟨e0, (.st (.pair (.st (.pair (.int .u8) (.int .i16))) (.int .i16))), x⟩] := by
  unfold impl_ValidRack_1.dec at h
  split at h
  · obtain ⟨x0, hx0, hh1⟩ := Option.bind_eq_some_iff.1 h
    obtain ⟨e0, rfl⟩ := toList_eq hx0
    obtain rfl := Option.some.inj hh1
    exact ⟨e0, rfl⟩
  · cases h
def impl_ValidRack_1.enc (e : TypeId) (r : Bool) : Res := ⟨[.val .bool r], []⟩
noncomputable def impl_ValidRack_1.sig (f : impl_ValidRack_1.A → Option impl_ValidRack_1.B) : Sig := mkSig [] impl_ValidRack_1.dec f fun avs r => impl_ValidRack_1.enc 0 r
abbrev impl_ValidRack_1.S (f : impl_ValidRack_1.A → Option impl_ValidRack_1.B) : Prop := Sound Try.pinned.checked.prog 104 (impl_ValidRack_1.sig f)
abbrev slices_IndexFunc_impl_Rack_impl_Stored__impl_ValidRack_1.A : Type := (List (List ((Int × Int) × Int)))
abbrev slices_IndexFunc_impl_Rack_impl_Stored__impl_ValidRack_1.B : Type := Int
def slices_IndexFunc_impl_Rack_impl_Stored__impl_ValidRack_1.dec (avs : List AV) : Option (List (List ((Int × Int) × Int))) := match avs with
  | [a0, a1] => (a0.toList (.row 52 (.st (.pair (.st (.pair (.int .u8) (.int .i16))) (.int .i16))))).bind fun x0 => (a1.toFn 104).bind fun q1 => match q1 with | [] => some x0 | _ => none
  | _ => none
theorem slices_IndexFunc_impl_Rack_impl_Stored__impl_ValidRack_1.dec_eq {avs : List AV} {x : (List (List ((Int × Int) × Int)))} (h : slices_IndexFunc_impl_Rack_impl_Stored__impl_ValidRack_1.dec avs = some x) : ∃ e0, avs = [.obj false ⟨e0, (.row 52 (.st (.pair (.st (.pair (.int .u8) (.int .i16))) (.int .i16)))), x⟩, .fn 104 []] := by
  unfold slices_IndexFunc_impl_Rack_impl_Stored__impl_ValidRack_1.dec at h
  split at h
  · obtain ⟨x0, hx0, hh1⟩ := Option.bind_eq_some_iff.1 h
    obtain ⟨e0, rfl⟩ := toList_eq hx0
    obtain ⟨q1, hq1, hh2⟩ := Option.bind_eq_some_iff.1 hh1
    obtain ⟨w1, rfl, rfl⟩ := toFn_eq hq1
    match w1, hh2 with
    | [], hh3 =>
    obtain rfl := Option.some.inj hh3
    exact ⟨e0, rfl⟩
  · cases h
def slices_IndexFunc_impl_Rack_impl_Stored__impl_ValidRack_1.enc (e : TypeId) (r : Int) : Res := ⟨[.val (.int .i64) r], []⟩
noncomputable def slices_IndexFunc_impl_Rack_impl_Stored__impl_ValidRack_1.sig (f : slices_IndexFunc_impl_Rack_impl_Stored__impl_ValidRack_1.A → Option slices_IndexFunc_impl_Rack_impl_Stored__impl_ValidRack_1.B) : Sig := mkSig [] slices_IndexFunc_impl_Rack_impl_Stored__impl_ValidRack_1.dec f fun avs r => slices_IndexFunc_impl_Rack_impl_Stored__impl_ValidRack_1.enc 0 r
abbrev slices_IndexFunc_impl_Rack_impl_Stored__impl_ValidRack_1.S (f : slices_IndexFunc_impl_Rack_impl_Stored__impl_ValidRack_1.A → Option slices_IndexFunc_impl_Rack_impl_Stored__impl_ValidRack_1.B) : Prop := Sound Try.pinned.checked.prog 126 (slices_IndexFunc_impl_Rack_impl_Stored__impl_ValidRack_1.sig f)
abbrev slices_ContainsFunc_impl_Rack_impl_Stored__impl_ValidRack_1.A : Type := (List (List ((Int × Int) × Int)))
abbrev slices_ContainsFunc_impl_Rack_impl_Stored__impl_ValidRack_1.B : Type := Bool
def slices_ContainsFunc_impl_Rack_impl_Stored__impl_ValidRack_1.dec (avs : List AV) : Option (List (List ((Int × Int) × Int))) := match avs with
  | [a0, a1] => (a0.toList (.row 52 (.st (.pair (.st (.pair (.int .u8) (.int .i16))) (.int .i16))))).bind fun x0 => (a1.toFn 104).bind fun q1 => match q1 with | [] => some x0 | _ => none
  | _ => none
theorem slices_ContainsFunc_impl_Rack_impl_Stored__impl_ValidRack_1.dec_eq {avs : List AV} {x : (List (List ((Int × Int) × Int)))} (h : slices_ContainsFunc_impl_Rack_impl_Stored__impl_ValidRack_1.dec avs = some x) : ∃ e0, avs = [.obj false ⟨e0, (.row 52 (.st (.pair (.st (.pair (.int .u8) (.int .i16))) (.int .i16)))), x⟩, .fn 104 []] := by
  unfold slices_ContainsFunc_impl_Rack_impl_Stored__impl_ValidRack_1.dec at h
  split at h
  · obtain ⟨x0, hx0, hh1⟩ := Option.bind_eq_some_iff.1 h
    obtain ⟨e0, rfl⟩ := toList_eq hx0
    obtain ⟨q1, hq1, hh2⟩ := Option.bind_eq_some_iff.1 hh1
    obtain ⟨w1, rfl, rfl⟩ := toFn_eq hq1
    match w1, hh2 with
    | [], hh3 =>
    obtain rfl := Option.some.inj hh3
    exact ⟨e0, rfl⟩
  · cases h
def slices_ContainsFunc_impl_Rack_impl_Stored__impl_ValidRack_1.enc (e : TypeId) (r : Bool) : Res := ⟨[.val .bool r], []⟩
noncomputable def slices_ContainsFunc_impl_Rack_impl_Stored__impl_ValidRack_1.sig (f : slices_ContainsFunc_impl_Rack_impl_Stored__impl_ValidRack_1.A → Option slices_ContainsFunc_impl_Rack_impl_Stored__impl_ValidRack_1.B) : Sig := mkSig [] slices_ContainsFunc_impl_Rack_impl_Stored__impl_ValidRack_1.dec f fun avs r => slices_ContainsFunc_impl_Rack_impl_Stored__impl_ValidRack_1.enc 0 r
abbrev slices_ContainsFunc_impl_Rack_impl_Stored__impl_ValidRack_1.S (f : slices_ContainsFunc_impl_Rack_impl_Stored__impl_ValidRack_1.A → Option slices_ContainsFunc_impl_Rack_impl_Stored__impl_ValidRack_1.B) : Prop := Sound Try.pinned.checked.prog 103 (slices_ContainsFunc_impl_Rack_impl_Stored__impl_ValidRack_1.sig f)
abbrev impl_ValidRack.A : Type := (List (List ((Int × Int) × Int)))
abbrev impl_ValidRack.B : Type := Bool
def impl_ValidRack.dec (avs : List AV) : Option (List (List ((Int × Int) × Int))) := match avs with
  | [a0] => (a0.toList (.row 52 (.st (.pair (.st (.pair (.int .u8) (.int .i16))) (.int .i16))))).bind fun x0 => some x0
  | _ => none
theorem impl_ValidRack.dec_eq {avs : List AV} {x : (List (List ((Int × Int) × Int)))} (h : impl_ValidRack.dec avs = some x) : ∃ e0, avs = [.obj false ⟨e0, (.row 52 (.st (.pair (.st (.pair (.int .u8) (.int .i16))) (.int .i16)))), x⟩] := by
  unfold impl_ValidRack.dec at h
  split at h
  · obtain ⟨x0, hx0, hh1⟩ := Option.bind_eq_some_iff.1 h
    obtain ⟨e0, rfl⟩ := toList_eq hx0
    obtain rfl := Option.some.inj hh1
    exact ⟨e0, rfl⟩
  · cases h
def impl_ValidRack.enc (e : TypeId) (r : Bool) : Res := ⟨[.val .bool r], []⟩
noncomputable def impl_ValidRack.sig (f : impl_ValidRack.A → Option impl_ValidRack.B) : Sig := mkSig [] impl_ValidRack.dec f fun avs r => impl_ValidRack.enc 0 r
abbrev impl_ValidRack.S (f : impl_ValidRack.A → Option impl_ValidRack.B) : Prop := Sound Try.pinned.checked.prog 66 (impl_ValidRack.sig f)
abbrev impl_isSlack.A : Type := Int
abbrev impl_isSlack.B : Type := Bool
def impl_isSlack.dec (avs : List AV) : Option Int := match avs with
  | [a0] => (a0.toVal (.int .i64)).bind fun x0 => some x0
  | _ => none
theorem impl_isSlack.dec_eq {avs : List AV} {x : Int} (h : impl_isSlack.dec avs = some x) : avs = [.val (.int .i64) x] := by
  unfold impl_isSlack.dec at h
  split at h
  · obtain ⟨x0, hx0, hh1⟩ := Option.bind_eq_some_iff.1 h
    obtain rfl := toVal_eq hx0
    obtain rfl := Option.some.inj hh1
    exact rfl
  · cases h
def impl_isSlack.enc (e : TypeId) (r : Bool) : Res := ⟨[.val .bool r], []⟩
noncomputable def impl_isSlack.sig (f : impl_isSlack.A → Option impl_isSlack.B) : Sig := mkSig [] impl_isSlack.dec f fun avs r => impl_isSlack.enc 0 r
abbrev impl_isSlack.S (f : impl_isSlack.A → Option impl_isSlack.B) : Prop := Sound Try.pinned.checked.prog 61 (impl_isSlack.sig f)
abbrev impl_codeOf.A : Type := (Bool × Bool)
abbrev impl_codeOf.B : Type := Int
def impl_codeOf.dec (avs : List AV) : Option (Bool × Bool) := match avs with
  | [a0, a1] => (a0.toVal .bool).bind fun x0 => (a1.toVal .bool).bind fun x1 => some (x0, x1)
  | _ => none
theorem impl_codeOf.dec_eq {avs : List AV} {x : (Bool × Bool)} (h : impl_codeOf.dec avs = some x) : avs = [.val .bool x.1, .val .bool x.2] := by
  unfold impl_codeOf.dec at h
  split at h
  · obtain ⟨x0, hx0, hh1⟩ := Option.bind_eq_some_iff.1 h
    obtain rfl := toVal_eq hx0
    obtain ⟨x1, hx1, hh2⟩ := Option.bind_eq_some_iff.1 hh1
    obtain rfl := toVal_eq hx1
    obtain rfl := Option.some.inj hh2
    exact rfl
  · cases h
def impl_codeOf.enc (e : TypeId) (r : Int) : Res := ⟨[.val (.int .i64) r], []⟩
noncomputable def impl_codeOf.sig (f : impl_codeOf.A → Option impl_codeOf.B) : Sig := mkSig [] impl_codeOf.dec f fun avs r => impl_codeOf.enc 0 r
abbrev impl_codeOf.S (f : impl_codeOf.A → Option impl_codeOf.B) : Prop := Sound Try.pinned.checked.prog 59 (impl_codeOf.sig f)
abbrev impl_Rack_spots.A : Type := ((List (List ((Int × Int) × Int))) × (Int × Int))
abbrev impl_Rack_spots.B : Type := (List (Int × (Int × ((Int × Int) × Int))))
def impl_Rack_spots.dec (avs : List AV) : Option ((List (List ((Int × Int) × Int))) × (Int × Int)) := match avs with
  | [a0, a1] => (a0.toList (.row 52 (.st (.pair (.st (.pair (.int .u8) (.int .i16))) (.int .i16))))).bind fun x0 => (a1.toVal (.st (.pair (.int .u8) (.int .i16)))).bind fun x1 => some (x0, x1)
  | _ => none
theorem impl_Rack_spots.dec_eq {avs : List AV} {x : ((List (List ((Int × Int) × Int))) × (Int × Int))} (h : impl_Rack_spots.dec avs = some x) : ∃ e0, avs = [.obj false ⟨e0, (.row 52 (.st (.pair (.st (.pair (.int .u8) (.int .i16))) (.int .i16)))), x.1⟩, .val (.st (.pair (.int .u8) (.int .i16))) x.2] := by
  unfold impl_Rack_spots.dec at h
  split at h
  · obtain ⟨x0, hx0, hh1⟩ := Option.bind_eq_some_iff.1 h
    obtain ⟨e0, rfl⟩ := toList_eq hx0
    obtain ⟨x1, hx1, hh2⟩ := Option.bind_eq_some_iff.1 hh1
    obtain rfl := toVal_eq hx1
    obtain rfl := Option.some.inj hh2
    exact ⟨e0, rfl⟩
  · cases h
def impl_Rack_spots.enc (e : TypeId) (r : (List (Int × (Int × ((Int × Int) × Int))))) : Res := ⟨[.own ⟨115, (.st (.pair (.int .i64) (.pair (.int .i64) (.st (.pair (.st (.pair (.int .u8) (.int .i16))) (.int .i16)))))), r⟩], []⟩
noncomputable def impl_Rack_spots.sig (f : impl_Rack_spots.A → Option impl_Rack_spots.B) : Sig := mkSig [] impl_Rack_spots.dec f fun avs r => impl_Rack_spots.enc 0 r
abbrev impl_Rack_spots.S (f : impl_Rack_spots.A → Option impl_Rack_spots.B) : Prop := Sound Try.pinned.checked.prog 86 (impl_Rack_spots.sig f)
abbrev impl_oldest_1.A : Type := ((Int × (Int × ((Int × Int) × Int))) × (Int × (Int × ((Int × Int) × Int))))
abbrev impl_oldest_1.B : Type := Int
def impl_oldest_1.dec (avs : List AV) : Option ((Int × (Int × ((Int × Int) × Int))) × (Int × (Int × ((Int × Int) × Int)))) := match avs with
  | [a0, a1] => (a0.toVal (.st (.pair (.int .i64) (.pair (.int .i64) (.st (.pair (.st (.pair (.int .u8) (.int .i16))) (.int .i16))))))).bind fun x0 => (a1.toVal (.st (.pair (.int .i64) (.pair (.int .i64) (.st (.pair (.st (.pair (.int .u8) (.int .i16))) (.int .i16))))))).bind fun x1 => some (x0, x1)
  | _ => none
theorem impl_oldest_1.dec_eq {avs : List AV} {x : ((Int × (Int × ((Int × Int) × Int))) × (Int × (Int × ((Int × Int) × Int))))} (h : impl_oldest_1.dec avs = some x) : avs = [.val (.st (.pair (.int .i64) (.pair (.int .i64) (.st (.pair (.st (.pair (.int .u8) (.int .i16))) (.int .i16)))))) x.1, .val (.st (.pair (.int .i64) (.pair (.int .i64) (.st (.pair (.st (.pair (.int .u8) (.int .i16))) (.int .i16)))))) x.2] := by
  unfold impl_oldest_1.dec at h
  split at h
  · obtain ⟨x0, hx0, hh1⟩ := Option.bind_eq_some_iff.1 h
    obtain rfl := toVal_eq hx0
    obtain ⟨x1, hx1, hh2⟩ := Option.bind_eq_some_iff.1 hh1
    obtain rfl := toVal_eq hx1
    obtain rfl := Option.some.inj hh2
    exact rfl
  · cases h
def impl_oldest_1.enc (e : TypeId) (r : Int) : Res := ⟨[.val (.int .i64) r], []⟩
noncomputable def impl_oldest_1.sig (f : impl_oldest_1.A → Option impl_oldest_1.B) : Sig := mkSig [] impl_oldest_1.dec f fun avs r => impl_oldest_1.enc 0 r
abbrev impl_oldest_1.S (f : impl_oldest_1.A → Option impl_oldest_1.B) : Prop := Sound Try.pinned.checked.prog 120 (impl_oldest_1.sig f)
abbrev slices_MinFunc_impl_spot_impl_spot__impl_oldest_1.A : Type := (List (Int × (Int × ((Int × Int) × Int))))
abbrev slices_MinFunc_impl_spot_impl_spot__impl_oldest_1.B : Type := (Int × (Int × ((Int × Int) × Int)))
def slices_MinFunc_impl_spot_impl_spot__impl_oldest_1.dec (avs : List AV) : Option (List (Int × (Int × ((Int × Int) × Int)))) := match avs with
  | [a0, a1] => (a0.toList (.st (.pair (.int .i64) (.pair (.int .i64) (.st (.pair (.st (.pair (.int .u8) (.int .i16))) (.int .i16))))))).bind fun x0 => (a1.toFn 120).bind fun q1 => match q1 with | [] => some x0 | _ => none
  | _ => none
theorem slices_MinFunc_impl_spot_impl_spot__impl_oldest_1.dec_eq {avs : List AV} {x : (List (Int × (Int × ((Int × Int) × Int))))} (h : slices_MinFunc_impl_spot_impl_spot__impl_oldest_1.dec avs = some x) : ∃ e0, avs = [.obj false ⟨e0, (.st (.pair (.int .i64) (.pair (.int .i64) (.st (.pair (.st (.pair (.int .u8) (.int .i16))) (.int .i16)))))), x⟩, .fn 120 []] := by
  unfold slices_MinFunc_impl_spot_impl_spot__impl_oldest_1.dec at h
  split at h
  · obtain ⟨x0, hx0, hh1⟩ := Option.bind_eq_some_iff.1 h
    obtain ⟨e0, rfl⟩ := toList_eq hx0
    obtain ⟨q1, hq1, hh2⟩ := Option.bind_eq_some_iff.1 hh1
    obtain ⟨w1, rfl, rfl⟩ := toFn_eq hq1
    match w1, hh2 with
    | [], hh3 =>
    obtain rfl := Option.some.inj hh3
    exact ⟨e0, rfl⟩
  · cases h
def slices_MinFunc_impl_spot_impl_spot__impl_oldest_1.enc (e : TypeId) (r : (Int × (Int × ((Int × Int) × Int)))) : Res := ⟨[.val (.st (.pair (.int .i64) (.pair (.int .i64) (.st (.pair (.st (.pair (.int .u8) (.int .i16))) (.int .i16)))))) r], []⟩
noncomputable def slices_MinFunc_impl_spot_impl_spot__impl_oldest_1.sig (f : slices_MinFunc_impl_spot_impl_spot__impl_oldest_1.A → Option slices_MinFunc_impl_spot_impl_spot__impl_oldest_1.B) : Sig := mkSig [] slices_MinFunc_impl_spot_impl_spot__impl_oldest_1.dec f fun avs r => slices_MinFunc_impl_spot_impl_spot__impl_oldest_1.enc 0 r
abbrev slices_MinFunc_impl_spot_impl_spot__impl_oldest_1.S (f : slices_MinFunc_impl_spot_impl_spot__impl_oldest_1.A → Option slices_MinFunc_impl_spot_impl_spot__impl_oldest_1.B) : Prop := Sound Try.pinned.checked.prog 119 (slices_MinFunc_impl_spot_impl_spot__impl_oldest_1.sig f)
abbrev impl_oldest.A : Type := (List (Int × (Int × ((Int × Int) × Int))))
abbrev impl_oldest.B : Type := (Int × (Int × ((Int × Int) × Int)))
def impl_oldest.dec (avs : List AV) : Option (List (Int × (Int × ((Int × Int) × Int)))) := match avs with
  | [a0] => (a0.toList (.st (.pair (.int .i64) (.pair (.int .i64) (.st (.pair (.st (.pair (.int .u8) (.int .i16))) (.int .i16))))))).bind fun x0 => some x0
  | _ => none
theorem impl_oldest.dec_eq {avs : List AV} {x : (List (Int × (Int × ((Int × Int) × Int))))} (h : impl_oldest.dec avs = some x) : ∃ e0, avs = [.obj false ⟨e0, (.st (.pair (.int .i64) (.pair (.int .i64) (.st (.pair (.st (.pair (.int .u8) (.int .i16))) (.int .i16)))))), x⟩] := by
  unfold impl_oldest.dec at h
  split at h
  · obtain ⟨x0, hx0, hh1⟩ := Option.bind_eq_some_iff.1 h
    obtain ⟨e0, rfl⟩ := toList_eq hx0
    obtain rfl := Option.some.inj hh1
    exact ⟨e0, rfl⟩
  · cases h
def impl_oldest.enc (e : TypeId) (r : (Int × (Int × ((Int × Int) × Int)))) : Res := ⟨[.val (.st (.pair (.int .i64) (.pair (.int .i64) (.st (.pair (.st (.pair (.int .u8) (.int .i16))) (.int .i16)))))) r], []⟩
noncomputable def impl_oldest.sig (f : impl_oldest.A → Option impl_oldest.B) : Sig := mkSig [] impl_oldest.dec f fun avs r => impl_oldest.enc 0 r
abbrev impl_oldest.S (f : impl_oldest.A → Option impl_oldest.B) : Prop := Sound Try.pinned.checked.prog 87 (impl_oldest.sig f)
abbrev impl_Rack_choice_1.A : Type := ((Int × (Int × ((Int × Int) × Int))) × Int)
abbrev impl_Rack_choice_1.B : Type := Bool
def impl_Rack_choice_1.dec (avs : List AV) : Option ((Int × (Int × ((Int × Int) × Int))) × Int) := match avs with
  | [a0, a1] => (a0.toVal (.st (.pair (.int .i64) (.pair (.int .i64) (.st (.pair (.st (.pair (.int .u8) (.int .i16))) (.int .i16))))))).bind fun x0 => (a1.toBox (.int .i64)).bind fun x1 => some (x0, x1)
  | _ => none
theorem impl_Rack_choice_1.dec_eq {avs : List AV} {x : ((Int × (Int × ((Int × Int) × Int))) × Int)} (h : impl_Rack_choice_1.dec avs = some x) : ∃ e0, avs = [.val (.st (.pair (.int .i64) (.pair (.int .i64) (.st (.pair (.st (.pair (.int .u8) (.int .i16))) (.int .i16)))))) x.1, .obj true ⟨e0, (.int .i64), [x.2]⟩] := by
  unfold impl_Rack_choice_1.dec at h
  split at h
  · obtain ⟨x0, hx0, hh1⟩ := Option.bind_eq_some_iff.1 h
    obtain rfl := toVal_eq hx0
    obtain ⟨x1, hx1, hh2⟩ := Option.bind_eq_some_iff.1 hh1
    obtain ⟨e0, rfl⟩ := toBox_eq hx1
    obtain rfl := Option.some.inj hh2
    exact ⟨e0, rfl⟩
  · cases h
def impl_Rack_choice_1.enc (e : TypeId) (r : Bool) : Res := ⟨[.val .bool r], []⟩
noncomputable def impl_Rack_choice_1.sig (f : impl_Rack_choice_1.A → Option impl_Rack_choice_1.B) : Sig := mkSig [] impl_Rack_choice_1.dec f fun avs r => impl_Rack_choice_1.enc 0 r
abbrev impl_Rack_choice_1.S (f : impl_Rack_choice_1.A → Option impl_Rack_choice_1.B) : Prop := Sound Try.pinned.checked.prog 122 (impl_Rack_choice_1.sig f)
abbrev slices_IndexFunc_impl_spot_impl_spot__impl_Rack_choice_1.A : Type := ((List (Int × (Int × ((Int × Int) × Int)))) × Int)
abbrev slices_IndexFunc_impl_spot_impl_spot__impl_Rack_choice_1.B : Type := Int
def slices_IndexFunc_impl_spot_impl_spot__impl_Rack_choice_1.dec (avs : List AV) : Option ((List (Int × (Int × ((Int × Int) × Int)))) × Int) := match avs with
  | [a0, a1] => (a0.toList (.st (.pair (.int .i64) (.pair (.int .i64) (.st (.pair (.st (.pair (.int .u8) (.int .i16))) (.int .i16))))))).bind fun x0 => (a1.toFn 122).bind fun q1 => match q1 with | [c1_0] => (c1_0.toBox (.int .i64)).bind fun x1 => some (x0, x1) | _ => none
  | _ => none
theorem slices_IndexFunc_impl_spot_impl_spot__impl_Rack_choice_1.dec_eq {avs : List AV} {x : ((List (Int × (Int × ((Int × Int) × Int)))) × Int)} (h : slices_IndexFunc_impl_spot_impl_spot__impl_Rack_choice_1.dec avs = some x) : ∃ e0 e1, avs = [.obj false ⟨e0, (.st (.pair (.int .i64) (.pair (.int .i64) (.st (.pair (.st (.pair (.int .u8) (.int .i16))) (.int .i16)))))), x.1⟩, .fn 122 [(none, ⟨e1, (.int .i64), [x.2]⟩)]] := by
  unfold slices_IndexFunc_impl_spot_impl_spot__impl_Rack_choice_1.dec at h
  split at h
  · obtain ⟨x0, hx0, hh1⟩ := Option.bind_eq_some_iff.1 h
    obtain ⟨e0, rfl⟩ := toList_eq hx0
    obtain ⟨q1, hq1, hh2⟩ := Option.bind_eq_some_iff.1 hh1
    obtain ⟨w1, rfl, rfl⟩ := toFn_eq hq1
    match w1, hh2 with
    | [c1_0], hh3 =>
    obtain ⟨x1, hx1, hh4⟩ := Option.bind_eq_some_iff.1 hh3
    obtain ⟨e1, hx1⟩ := toBox_eq hx1
    obtain rfl := capAV_box hx1
    obtain rfl := Option.some.inj hh4
    exact ⟨e0, e1, rfl⟩
  · cases h
def slices_IndexFunc_impl_spot_impl_spot__impl_Rack_choice_1.enc (e : TypeId) (r : Int) : Res := ⟨[.val (.int .i64) r], []⟩
noncomputable def slices_IndexFunc_impl_spot_impl_spot__impl_Rack_choice_1.sig (f : slices_IndexFunc_impl_spot_impl_spot__impl_Rack_choice_1.A → Option slices_IndexFunc_impl_spot_impl_spot__impl_Rack_choice_1.B) : Sig := mkSig [] slices_IndexFunc_impl_spot_impl_spot__impl_Rack_choice_1.dec f fun avs r => slices_IndexFunc_impl_spot_impl_spot__impl_Rack_choice_1.enc 0 r
abbrev slices_IndexFunc_impl_spot_impl_spot__impl_Rack_choice_1.S (f : slices_IndexFunc_impl_spot_impl_spot__impl_Rack_choice_1.A → Option slices_IndexFunc_impl_spot_impl_spot__impl_Rack_choice_1.B) : Prop := Sound Try.pinned.checked.prog 134 (slices_IndexFunc_impl_spot_impl_spot__impl_Rack_choice_1.sig f)
abbrev slices_DeleteFunc_impl_spot_impl_spot__impl_Rack_choice_1.A : Type := ((List (Int × (Int × ((Int × Int) × Int)))) × Int)
abbrev slices_DeleteFunc_impl_spot_impl_spot__impl_Rack_choice_1.B : Type := ((Option (Nat × Nat)) × (List (Int × (Int × ((Int × Int) × Int)))))
def slices_DeleteFunc_impl_spot_impl_spot__impl_Rack_choice_1.dec (avs : List AV) : Option ((List (Int × (Int × ((Int × Int) × Int)))) × Int) := match avs with
  | [a0, a1] => (a0.toList (.st (.pair (.int .i64) (.pair (.int .i64) (.st (.pair (.st (.pair (.int .u8) (.int .i16))) (.int .i16))))))).bind fun x0 => (a1.toFn 122).bind fun q1 => match q1 with | [c1_0] => (c1_0.toBox (.int .i64)).bind fun x1 => some (x0, x1) | _ => none
  | _ => none
theorem slices_DeleteFunc_impl_spot_impl_spot__impl_Rack_choice_1.dec_eq {avs : List AV} {x : ((List (Int × (Int × ((Int × Int) × Int)))) × Int)} (h : slices_DeleteFunc_impl_spot_impl_spot__impl_Rack_choice_1.dec avs = some x) : ∃ e0 e1, avs = [.obj false ⟨e0, (.st (.pair (.int .i64) (.pair (.int .i64) (.st (.pair (.st (.pair (.int .u8) (.int .i16))) (.int .i16)))))), x.1⟩, .fn 122 [(none, ⟨e1, (.int .i64), [x.2]⟩)]] := by
  unfold slices_DeleteFunc_impl_spot_impl_spot__impl_Rack_choice_1.dec at h
  split at h
  · obtain ⟨x0, hx0, hh1⟩ := Option.bind_eq_some_iff.1 h
    obtain ⟨e0, rfl⟩ := toList_eq hx0
    obtain ⟨q1, hq1, hh2⟩ := Option.bind_eq_some_iff.1 hh1
    obtain ⟨w1, rfl, rfl⟩ := toFn_eq hq1
    match w1, hh2 with
    | [c1_0], hh3 =>
    obtain ⟨x1, hx1, hh4⟩ := Option.bind_eq_some_iff.1 hh3
    obtain ⟨e1, hx1⟩ := toBox_eq hx1
    obtain rfl := capAV_box hx1
    obtain rfl := Option.some.inj hh4
    exact ⟨e0, e1, rfl⟩
  · cases h
def slices_DeleteFunc_impl_spot_impl_spot__impl_Rack_choice_1.enc (e : TypeId) (r : ((Option (Nat × Nat)) × (List (Int × (Int × ((Int × Int) × Int)))))) : Res := ⟨[.al 0 r.1], [⟨e, (.st (.pair (.int .i64) (.pair (.int .i64) (.st (.pair (.st (.pair (.int .u8) (.int .i16))) (.int .i16)))))), r.2⟩]⟩
noncomputable def slices_DeleteFunc_impl_spot_impl_spot__impl_Rack_choice_1.sig (f : slices_DeleteFunc_impl_spot_impl_spot__impl_Rack_choice_1.A → Option slices_DeleteFunc_impl_spot_impl_spot__impl_Rack_choice_1.B) : Sig := mkSig [0] slices_DeleteFunc_impl_spot_impl_spot__impl_Rack_choice_1.dec f fun avs r => slices_DeleteFunc_impl_spot_impl_spot__impl_Rack_choice_1.enc (avs.getD 0 (.val .bool false)).elem r
abbrev slices_DeleteFunc_impl_spot_impl_spot__impl_Rack_choice_1.S (f : slices_DeleteFunc_impl_spot_impl_spot__impl_Rack_choice_1.A → Option slices_DeleteFunc_impl_spot_impl_spot__impl_Rack_choice_1.B) : Prop := Sound Try.pinned.checked.prog 121 (slices_DeleteFunc_impl_spot_impl_spot__impl_Rack_choice_1.sig f)
abbrev impl_Rack_ahead.A : Type := ((List (List ((Int × Int) × Int))) × (Int × (Int × ((Int × Int) × Int))))
abbrev impl_Rack_ahead.B : Type := Int
def impl_Rack_ahead.dec (avs : List AV) : Option ((List (List ((Int × Int) × Int))) × (Int × (Int × ((Int × Int) × Int)))) := match avs with
  | [a0, a1] => (a0.toList (.row 52 (.st (.pair (.st (.pair (.int .u8) (.int .i16))) (.int .i16))))).bind fun x0 => (a1.toVal (.st (.pair (.int .i64) (.pair (.int .i64) (.st (.pair (.st (.pair (.int .u8) (.int .i16))) (.int .i16))))))).bind fun x1 => some (x0, x1)
  | _ => none
theorem impl_Rack_ahead.dec_eq {avs : List AV} {x : ((List (List ((Int × Int) × Int))) × (Int × (Int × ((Int × Int) × Int))))} (h : impl_Rack_ahead.dec avs = some x) : ∃ e0, avs = [.obj false ⟨e0, (.row 52 (.st (.pair (.st (.pair (.int .u8) (.int .i16))) (.int .i16)))), x.1⟩, .val (.st (.pair (.int .i64) (.pair (.int .i64) (.st (.pair (.st (.pair (.int .u8) (.int .i16))) (.int .i16)))))) x.2] := by
  unfold impl_Rack_ahead.dec at h
  split at h
  · obtain ⟨x0, hx0, hh1⟩ := Option.bind_eq_some_iff.1 h
    obtain ⟨e0, rfl⟩ := toList_eq hx0
    obtain ⟨x1, hx1, hh2⟩ := Option.bind_eq_some_iff.1 hh1
    obtain rfl := toVal_eq hx1
    obtain rfl := Option.some.inj hh2
    exact ⟨e0, rfl⟩
  · cases h
def impl_Rack_ahead.enc (e : TypeId) (r : Int) : Res := ⟨[.val (.int .i64) r], []⟩
noncomputable def impl_Rack_ahead.sig (f : impl_Rack_ahead.A → Option impl_Rack_ahead.B) : Sig := mkSig [] impl_Rack_ahead.dec f fun avs r => impl_Rack_ahead.enc 0 r
abbrev impl_Rack_ahead.S (f : impl_Rack_ahead.A → Option impl_Rack_ahead.B) : Prop := Sound Try.pinned.checked.prog 93 (impl_Rack_ahead.sig f)
abbrev impl_Rack_choice_2.A : Type := ((Int × (Int × ((Int × Int) × Int))) × (Int × (Int × ((Int × Int) × Int))) × (List (List ((Int × Int) × Int))))
abbrev impl_Rack_choice_2.B : Type := Int
def impl_Rack_choice_2.dec (avs : List AV) : Option ((Int × (Int × ((Int × Int) × Int))) × (Int × (Int × ((Int × Int) × Int))) × (List (List ((Int × Int) × Int)))) := match avs with
  | [a0, a1, a2] => (a0.toVal (.st (.pair (.int .i64) (.pair (.int .i64) (.st (.pair (.st (.pair (.int .u8) (.int .i16))) (.int .i16))))))).bind fun x0 => (a1.toVal (.st (.pair (.int .i64) (.pair (.int .i64) (.st (.pair (.st (.pair (.int .u8) (.int .i16))) (.int .i16))))))).bind fun x1 => (a2.toBx (.row 52 (.st (.pair (.st (.pair (.int .u8) (.int .i16))) (.int .i16))))).bind fun x2 => some (x0, x1, x2)
  | _ => none
theorem impl_Rack_choice_2.dec_eq {avs : List AV} {x : ((Int × (Int × ((Int × Int) × Int))) × (Int × (Int × ((Int × Int) × Int))) × (List (List ((Int × Int) × Int))))} (h : impl_Rack_choice_2.dec avs = some x) : ∃ e0 e1, avs = [.val (.st (.pair (.int .i64) (.pair (.int .i64) (.st (.pair (.st (.pair (.int .u8) (.int .i16))) (.int .i16)))))) x.1, .val (.st (.pair (.int .i64) (.pair (.int .i64) (.st (.pair (.st (.pair (.int .u8) (.int .i16))) (.int .i16)))))) x.2.1, .bx e0 ⟨e1, (.row 52 (.st (.pair (.st (.pair (.int .u8) (.int .i16))) (.int .i16)))), x.2.2⟩] := by
  unfold impl_Rack_choice_2.dec at h
  split at h
  · obtain ⟨x0, hx0, hh1⟩ := Option.bind_eq_some_iff.1 h
    obtain rfl := toVal_eq hx0
    obtain ⟨x1, hx1, hh2⟩ := Option.bind_eq_some_iff.1 hh1
    obtain rfl := toVal_eq hx1
    obtain ⟨x2, hx2, hh3⟩ := Option.bind_eq_some_iff.1 hh2
    obtain ⟨e0, e1, rfl⟩ := toBx_eq hx2
    obtain rfl := Option.some.inj hh3
    exact ⟨e0, e1, rfl⟩
  · cases h
def impl_Rack_choice_2.enc (e : TypeId) (r : Int) : Res := ⟨[.val (.int .i64) r], []⟩
noncomputable def impl_Rack_choice_2.sig (f : impl_Rack_choice_2.A → Option impl_Rack_choice_2.B) : Sig := mkSig [] impl_Rack_choice_2.dec f fun avs r => impl_Rack_choice_2.enc 0 r
abbrev impl_Rack_choice_2.S (f : impl_Rack_choice_2.A → Option impl_Rack_choice_2.B) : Prop := Sound Try.pinned.checked.prog 123 (impl_Rack_choice_2.sig f)
abbrev slices_MinFunc_impl_spot_impl_spot__impl_Rack_choice_2.A : Type := ((List (Int × (Int × ((Int × Int) × Int)))) × (List (List ((Int × Int) × Int))))
abbrev slices_MinFunc_impl_spot_impl_spot__impl_Rack_choice_2.B : Type := (Int × (Int × ((Int × Int) × Int)))
def slices_MinFunc_impl_spot_impl_spot__impl_Rack_choice_2.dec (avs : List AV) : Option ((List (Int × (Int × ((Int × Int) × Int)))) × (List (List ((Int × Int) × Int)))) := match avs with
  | [a0, a1] => (a0.toList (.st (.pair (.int .i64) (.pair (.int .i64) (.st (.pair (.st (.pair (.int .u8) (.int .i16))) (.int .i16))))))).bind fun x0 => (a1.toFn 123).bind fun q1 => match q1 with | [c1_0] => (c1_0.toBx (.row 52 (.st (.pair (.st (.pair (.int .u8) (.int .i16))) (.int .i16))))).bind fun x1 => some (x0, x1) | _ => none
  | _ => none
theorem slices_MinFunc_impl_spot_impl_spot__impl_Rack_choice_2.dec_eq {avs : List AV} {x : ((List (Int × (Int × ((Int × Int) × Int)))) × (List (List ((Int × Int) × Int))))} (h : slices_MinFunc_impl_spot_impl_spot__impl_Rack_choice_2.dec avs = some x) : ∃ e0 e1 e2, avs = [.obj false ⟨e0, (.st (.pair (.int .i64) (.pair (.int .i64) (.st (.pair (.st (.pair (.int .u8) (.int .i16))) (.int .i16)))))), x.1⟩, .fn 123 [(some e1, ⟨e2, (.row 52 (.st (.pair (.st (.pair (.int .u8) (.int .i16))) (.int .i16)))), x.2⟩)]] := by
  unfold slices_MinFunc_impl_spot_impl_spot__impl_Rack_choice_2.dec at h
  split at h
  · obtain ⟨x0, hx0, hh1⟩ := Option.bind_eq_some_iff.1 h
    obtain ⟨e0, rfl⟩ := toList_eq hx0
    obtain ⟨q1, hq1, hh2⟩ := Option.bind_eq_some_iff.1 hh1
    obtain ⟨w1, rfl, rfl⟩ := toFn_eq hq1
    match w1, hh2 with
    | [c1_0], hh3 =>
    obtain ⟨x1, hx1, hh4⟩ := Option.bind_eq_some_iff.1 hh3
    obtain ⟨e1, e2, hx1⟩ := toBx_eq hx1
    obtain rfl := capAV_bx hx1
    obtain rfl := Option.some.inj hh4
    exact ⟨e0, e1, e2, rfl⟩
  · cases h
def slices_MinFunc_impl_spot_impl_spot__impl_Rack_choice_2.enc (e : TypeId) (r : (Int × (Int × ((Int × Int) × Int)))) : Res := ⟨[.val (.st (.pair (.int .i64) (.pair (.int .i64) (.st (.pair (.st (.pair (.int .u8) (.int .i16))) (.int .i16)))))) r], []⟩
noncomputable def slices_MinFunc_impl_spot_impl_spot__impl_Rack_choice_2.sig (f : slices_MinFunc_impl_spot_impl_spot__impl_Rack_choice_2.A → Option slices_MinFunc_impl_spot_impl_spot__impl_Rack_choice_2.B) : Sig := mkSig [] slices_MinFunc_impl_spot_impl_spot__impl_Rack_choice_2.dec f fun avs r => slices_MinFunc_impl_spot_impl_spot__impl_Rack_choice_2.enc 0 r
abbrev slices_MinFunc_impl_spot_impl_spot__impl_Rack_choice_2.S (f : slices_MinFunc_impl_spot_impl_spot__impl_Rack_choice_2.A → Option slices_MinFunc_impl_spot_impl_spot__impl_Rack_choice_2.B) : Prop := Sound Try.pinned.checked.prog 119 (slices_MinFunc_impl_spot_impl_spot__impl_Rack_choice_2.sig f)
abbrev impl_Rack_choice.A : Type := ((List (List ((Int × Int) × Int))) × (Int × Int) × Int)
abbrev impl_Rack_choice.B : Type := ((Int × (Int × ((Int × Int) × Int))) × Bool)
def impl_Rack_choice.dec (avs : List AV) : Option ((List (List ((Int × Int) × Int))) × (Int × Int) × Int) := match avs with
  | [a0, a1, a2] => (a0.toList (.row 52 (.st (.pair (.st (.pair (.int .u8) (.int .i16))) (.int .i16))))).bind fun x0 => (a1.toVal (.st (.pair (.int .u8) (.int .i16)))).bind fun x1 => (a2.toVal (.int .i64)).bind fun x2 => some (x0, x1, x2)
  | _ => none
theorem impl_Rack_choice.dec_eq {avs : List AV} {x : ((List (List ((Int × Int) × Int))) × (Int × Int) × Int)} (h : impl_Rack_choice.dec avs = some x) : ∃ e0, avs = [.obj false ⟨e0, (.row 52 (.st (.pair (.st (.pair (.int .u8) (.int .i16))) (.int .i16)))), x.1⟩, .val (.st (.pair (.int .u8) (.int .i16))) x.2.1, .val (.int .i64) x.2.2] := by
  unfold impl_Rack_choice.dec at h
  split at h
  · obtain ⟨x0, hx0, hh1⟩ := Option.bind_eq_some_iff.1 h
    obtain ⟨e0, rfl⟩ := toList_eq hx0
    obtain ⟨x1, hx1, hh2⟩ := Option.bind_eq_some_iff.1 hh1
    obtain rfl := toVal_eq hx1
    obtain ⟨x2, hx2, hh3⟩ := Option.bind_eq_some_iff.1 hh2
    obtain rfl := toVal_eq hx2
    obtain rfl := Option.some.inj hh3
    exact ⟨e0, rfl⟩
  · cases h
def impl_Rack_choice.enc (e : TypeId) (r : ((Int × (Int × ((Int × Int) × Int))) × Bool)) : Res := ⟨[.val (.st (.pair (.int .i64) (.pair (.int .i64) (.st (.pair (.st (.pair (.int .u8) (.int .i16))) (.int .i16)))))) r.1, .val .bool r.2], []⟩
noncomputable def impl_Rack_choice.sig (f : impl_Rack_choice.A → Option impl_Rack_choice.B) : Sig := mkSig [] impl_Rack_choice.dec f fun avs r => impl_Rack_choice.enc 0 r
abbrev impl_Rack_choice.S (f : impl_Rack_choice.A → Option impl_Rack_choice.B) : Prop := Sound Try.pinned.checked.prog 90 (impl_Rack_choice.sig f)
abbrev impl_Rack_cloned.A : Type := (List (List ((Int × Int) × Int)))
abbrev impl_Rack_cloned.B : Type := (List (List ((Int × Int) × Int)))
def impl_Rack_cloned.dec (avs : List AV) : Option (List (List ((Int × Int) × Int))) := match avs with
  | [a0] => (a0.toList (.row 52 (.st (.pair (.st (.pair (.int .u8) (.int .i16))) (.int .i16))))).bind fun x0 => some x0
  | _ => none
theorem impl_Rack_cloned.dec_eq {avs : List AV} {x : (List (List ((Int × Int) × Int)))} (h : impl_Rack_cloned.dec avs = some x) : ∃ e0, avs = [.obj false ⟨e0, (.row 52 (.st (.pair (.st (.pair (.int .u8) (.int .i16))) (.int .i16)))), x⟩] := by
  unfold impl_Rack_cloned.dec at h
  split at h
  · obtain ⟨x0, hx0, hh1⟩ := Option.bind_eq_some_iff.1 h
    obtain ⟨e0, rfl⟩ := toList_eq hx0
    obtain rfl := Option.some.inj hh1
    exact ⟨e0, rfl⟩
  · cases h
def impl_Rack_cloned.enc (e : TypeId) (r : (List (List ((Int × Int) × Int)))) : Res := ⟨[.own ⟨26, (.row 52 (.st (.pair (.st (.pair (.int .u8) (.int .i16))) (.int .i16)))), r⟩], []⟩
noncomputable def impl_Rack_cloned.sig (f : impl_Rack_cloned.A → Option impl_Rack_cloned.B) : Sig := mkSig [] impl_Rack_cloned.dec f fun avs r => impl_Rack_cloned.enc 0 r
abbrev impl_Rack_cloned.S (f : impl_Rack_cloned.A → Option impl_Rack_cloned.B) : Prop := Sound Try.pinned.checked.prog 67 (impl_Rack_cloned.sig f)
abbrev impl_Rack_roomiest.A : Type := ((List (List ((Int × Int) × Int))) × Int)
abbrev impl_Rack_roomiest.B : Type := Int
def impl_Rack_roomiest.dec (avs : List AV) : Option ((List (List ((Int × Int) × Int))) × Int) := match avs with
  | [a0, a1] => (a0.toList (.row 52 (.st (.pair (.st (.pair (.int .u8) (.int .i16))) (.int .i16))))).bind fun x0 => (a1.toVal (.int .i64)).bind fun x1 => some (x0, x1)
  | _ => none
theorem impl_Rack_roomiest.dec_eq {avs : List AV} {x : ((List (List ((Int × Int) × Int))) × Int)} (h : impl_Rack_roomiest.dec avs = some x) : ∃ e0, avs = [.obj false ⟨e0, (.row 52 (.st (.pair (.st (.pair (.int .u8) (.int .i16))) (.int .i16)))), x.1⟩, .val (.int .i64) x.2] := by
  unfold impl_Rack_roomiest.dec at h
  split at h
  · obtain ⟨x0, hx0, hh1⟩ := Option.bind_eq_some_iff.1 h
    obtain ⟨e0, rfl⟩ := toList_eq hx0
    obtain ⟨x1, hx1, hh2⟩ := Option.bind_eq_some_iff.1 hh1
    obtain rfl := toVal_eq hx1
    obtain rfl := Option.some.inj hh2
    exact ⟨e0, rfl⟩
  · cases h
def impl_Rack_roomiest.enc (e : TypeId) (r : Int) : Res := ⟨[.val (.int .i64) r], []⟩
noncomputable def impl_Rack_roomiest.sig (f : impl_Rack_roomiest.A → Option impl_Rack_roomiest.B) : Sig := mkSig [] impl_Rack_roomiest.dec f fun avs r => impl_Rack_roomiest.enc 0 r
abbrev impl_Rack_roomiest.S (f : impl_Rack_roomiest.A → Option impl_Rack_roomiest.B) : Prop := Sound Try.pinned.checked.prog 130 (impl_Rack_roomiest.sig f)
abbrev impl_Rack_reached.A : Type := ((List (List ((Int × Int) × Int))) × (Int × (Int × ((Int × Int) × Int))))
abbrev impl_Rack_reached.B : Type := ((List (List ((Int × Int) × Int))) × ((Int × Int) × Int) × Int × Bool)
def impl_Rack_reached.dec (avs : List AV) : Option ((List (List ((Int × Int) × Int))) × (Int × (Int × ((Int × Int) × Int)))) := match avs with
  | [a0, a1] => (a0.toList (.row 52 (.st (.pair (.st (.pair (.int .u8) (.int .i16))) (.int .i16))))).bind fun x0 => (a1.toVal (.st (.pair (.int .i64) (.pair (.int .i64) (.st (.pair (.st (.pair (.int .u8) (.int .i16))) (.int .i16))))))).bind fun x1 => some (x0, x1)
  | _ => none
theorem impl_Rack_reached.dec_eq {avs : List AV} {x : ((List (List ((Int × Int) × Int))) × (Int × (Int × ((Int × Int) × Int))))} (h : impl_Rack_reached.dec avs = some x) : ∃ e0, avs = [.obj false ⟨e0, (.row 52 (.st (.pair (.st (.pair (.int .u8) (.int .i16))) (.int .i16)))), x.1⟩, .val (.st (.pair (.int .i64) (.pair (.int .i64) (.st (.pair (.st (.pair (.int .u8) (.int .i16))) (.int .i16)))))) x.2] := by
  unfold impl_Rack_reached.dec at h
  split at h
  · obtain ⟨x0, hx0, hh1⟩ := Option.bind_eq_some_iff.1 h
    obtain ⟨e0, rfl⟩ := toList_eq hx0
    obtain ⟨x1, hx1, hh2⟩ := Option.bind_eq_some_iff.1 hh1
    obtain rfl := toVal_eq hx1
    obtain rfl := Option.some.inj hh2
    exact ⟨e0, rfl⟩
  · cases h
def impl_Rack_reached.enc (e : TypeId) (r : ((List (List ((Int × Int) × Int))) × ((Int × Int) × Int) × Int × Bool)) : Res := ⟨[.own ⟨26, (.row 52 (.st (.pair (.st (.pair (.int .u8) (.int .i16))) (.int .i16)))), r.1⟩, .val (.st (.pair (.st (.pair (.int .u8) (.int .i16))) (.int .i16))) r.2.1, .val (.int .i64) r.2.2.1, .val .bool r.2.2.2], []⟩
noncomputable def impl_Rack_reached.sig (f : impl_Rack_reached.A → Option impl_Rack_reached.B) : Sig := mkSig [] impl_Rack_reached.dec f fun avs r => impl_Rack_reached.enc 0 r
abbrev impl_Rack_reached.S (f : impl_Rack_reached.A → Option impl_Rack_reached.B) : Prop := Sound Try.pinned.checked.prog 109 (impl_Rack_reached.sig f)
abbrev impl_Rack_taken.A : Type := ((List (List ((Int × Int) × Int))) × (Int × Int) × Int)
abbrev impl_Rack_taken.B : Type := ((List (List ((Int × Int) × Int))) × ((Int × Int) × Int) × Int × Int)
def impl_Rack_taken.dec (avs : List AV) : Option ((List (List ((Int × Int) × Int))) × (Int × Int) × Int) := match avs with
  | [a0, a1, a2] => (a0.toList (.row 52 (.st (.pair (.st (.pair (.int .u8) (.int .i16))) (.int .i16))))).bind fun x0 => (a1.toVal (.st (.pair (.int .u8) (.int .i16)))).bind fun x1 => (a2.toVal (.int .i64)).bind fun x2 => some (x0, x1, x2)
  | _ => none
theorem impl_Rack_taken.dec_eq {avs : List AV} {x : ((List (List ((Int × Int) × Int))) × (Int × Int) × Int)} (h : impl_Rack_taken.dec avs = some x) : ∃ e0, avs = [.obj false ⟨e0, (.row 52 (.st (.pair (.st (.pair (.int .u8) (.int .i16))) (.int .i16)))), x.1⟩, .val (.st (.pair (.int .u8) (.int .i16))) x.2.1, .val (.int .i64) x.2.2] := by
  unfold impl_Rack_taken.dec at h
  split at h
  · obtain ⟨x0, hx0, hh1⟩ := Option.bind_eq_some_iff.1 h
    obtain ⟨e0, rfl⟩ := toList_eq hx0
    obtain ⟨x1, hx1, hh2⟩ := Option.bind_eq_some_iff.1 hh1
    obtain rfl := toVal_eq hx1
    obtain ⟨x2, hx2, hh3⟩ := Option.bind_eq_some_iff.1 hh2
    obtain rfl := toVal_eq hx2
    obtain rfl := Option.some.inj hh3
    exact ⟨e0, rfl⟩
  · cases h
def impl_Rack_taken.enc (e : TypeId) (r : ((List (List ((Int × Int) × Int))) × ((Int × Int) × Int) × Int × Int)) : Res := ⟨[.own ⟨26, (.row 52 (.st (.pair (.st (.pair (.int .u8) (.int .i16))) (.int .i16)))), r.1⟩, .val (.st (.pair (.st (.pair (.int .u8) (.int .i16))) (.int .i16))) r.2.1, .val (.int .i64) r.2.2.1, .val (.int .i64) r.2.2.2], []⟩
noncomputable def impl_Rack_taken.sig (f : impl_Rack_taken.A → Option impl_Rack_taken.B) : Sig := mkSig [] impl_Rack_taken.dec f fun avs r => impl_Rack_taken.enc 0 r
abbrev impl_Rack_taken.S (f : impl_Rack_taken.A → Option impl_Rack_taken.B) : Prop := Sound Try.pinned.checked.prog 76 (impl_Rack_taken.sig f)
abbrev impl_TakeOldest.A : Type := ((List (List ((Int × Int) × Int))) × (Int × Int) × Int)
abbrev impl_TakeOldest.B : Type := ((List (List ((Int × Int) × Int))) × ((Int × Int) × Int) × Int × Int)
def impl_TakeOldest.dec (avs : List AV) : Option ((List (List ((Int × Int) × Int))) × (Int × Int) × Int) := match avs with
  | [a0, a1, a2] => (a0.toList (.row 52 (.st (.pair (.st (.pair (.int .u8) (.int .i16))) (.int .i16))))).bind fun x0 => (a1.toVal (.st (.pair (.int .u8) (.int .i16)))).bind fun x1 => (a2.toVal (.int .i64)).bind fun x2 => some (x0, x1, x2)
  | _ => none
theorem impl_TakeOldest.dec_eq {avs : List AV} {x : ((List (List ((Int × Int) × Int))) × (Int × Int) × Int)} (h : impl_TakeOldest.dec avs = some x) : ∃ e0, avs = [.obj false ⟨e0, (.row 52 (.st (.pair (.st (.pair (.int .u8) (.int .i16))) (.int .i16)))), x.1⟩, .val (.st (.pair (.int .u8) (.int .i16))) x.2.1, .val (.int .i64) x.2.2] := by
  unfold impl_TakeOldest.dec at h
  split at h
  · obtain ⟨x0, hx0, hh1⟩ := Option.bind_eq_some_iff.1 h
    obtain ⟨e0, rfl⟩ := toList_eq hx0
    obtain ⟨x1, hx1, hh2⟩ := Option.bind_eq_some_iff.1 hh1
    obtain rfl := toVal_eq hx1
    obtain ⟨x2, hx2, hh3⟩ := Option.bind_eq_some_iff.1 hh2
    obtain rfl := toVal_eq hx2
    obtain rfl := Option.some.inj hh3
    exact ⟨e0, rfl⟩
  · cases h
def impl_TakeOldest.enc (e : TypeId) (r : ((List (List ((Int × Int) × Int))) × ((Int × Int) × Int) × Int × Int)) : Res := ⟨[.own ⟨26, (.row 52 (.st (.pair (.st (.pair (.int .u8) (.int .i16))) (.int .i16)))), r.1⟩, .val (.st (.pair (.st (.pair (.int .u8) (.int .i16))) (.int .i16))) r.2.1, .val (.int .i64) r.2.2.1, .val (.int .i64) r.2.2.2], []⟩
noncomputable def impl_TakeOldest.sig (f : impl_TakeOldest.A → Option impl_TakeOldest.B) : Sig := mkSig [] impl_TakeOldest.dec f fun avs r => impl_TakeOldest.enc 0 r
abbrev impl_TakeOldest.S (f : impl_TakeOldest.A → Option impl_TakeOldest.B) : Prop := Sound Try.pinned.checked.prog 30 (impl_TakeOldest.sig f)
abbrev laws_eqBottle.A : Type := ((Int × Int) × (Int × Int))
abbrev laws_eqBottle.B : Type := Bool
def laws_eqBottle.dec (avs : List AV) : Option ((Int × Int) × (Int × Int)) := match avs with
  | [a0, a1] => (a0.toVal (.st (.pair (.int .u8) (.int .i16)))).bind fun x0 => (a1.toVal (.st (.pair (.int .u8) (.int .i16)))).bind fun x1 => some (x0, x1)
  | _ => none
theorem laws_eqBottle.dec_eq {avs : List AV} {x : ((Int × Int) × (Int × Int))} (h : laws_eqBottle.dec avs = some x) : avs = [.val (.st (.pair (.int .u8) (.int .i16))) x.1, .val (.st (.pair (.int .u8) (.int .i16))) x.2] := by
  unfold laws_eqBottle.dec at h
  split at h
  · obtain ⟨x0, hx0, hh1⟩ := Option.bind_eq_some_iff.1 h
    obtain rfl := toVal_eq hx0
    obtain ⟨x1, hx1, hh2⟩ := Option.bind_eq_some_iff.1 hh1
    obtain rfl := toVal_eq hx1
    obtain rfl := Option.some.inj hh2
    exact rfl
  · cases h
def laws_eqBottle.enc (e : TypeId) (r : Bool) : Res := ⟨[.val .bool r], []⟩
noncomputable def laws_eqBottle.sig (f : laws_eqBottle.A → Option laws_eqBottle.B) : Sig := mkSig [] laws_eqBottle.dec f fun avs r => laws_eqBottle.enc 0 r
abbrev laws_eqBottle.S (f : laws_eqBottle.A → Option laws_eqBottle.B) : Prop := Sound Try.pinned.checked.prog 77 (laws_eqBottle.sig f)
abbrev laws_eqStored.A : Type := (((Int × Int) × Int) × ((Int × Int) × Int))
abbrev laws_eqStored.B : Type := Bool
def laws_eqStored.dec (avs : List AV) : Option (((Int × Int) × Int) × ((Int × Int) × Int)) := match avs with
  | [a0, a1] => (a0.toVal (.st (.pair (.st (.pair (.int .u8) (.int .i16))) (.int .i16)))).bind fun x0 => (a1.toVal (.st (.pair (.st (.pair (.int .u8) (.int .i16))) (.int .i16)))).bind fun x1 => some (x0, x1)
  | _ => none
theorem laws_eqStored.dec_eq {avs : List AV} {x : (((Int × Int) × Int) × ((Int × Int) × Int))} (h : laws_eqStored.dec avs = some x) : avs = [.val (.st (.pair (.st (.pair (.int .u8) (.int .i16))) (.int .i16))) x.1, .val (.st (.pair (.st (.pair (.int .u8) (.int .i16))) (.int .i16))) x.2] := by
  unfold laws_eqStored.dec at h
  split at h
  · obtain ⟨x0, hx0, hh1⟩ := Option.bind_eq_some_iff.1 h
    obtain rfl := toVal_eq hx0
    obtain ⟨x1, hx1, hh2⟩ := Option.bind_eq_some_iff.1 hh1
    obtain rfl := toVal_eq hx1
    obtain rfl := Option.some.inj hh2
    exact rfl
  · cases h
def laws_eqStored.enc (e : TypeId) (r : Bool) : Res := ⟨[.val .bool r], []⟩
noncomputable def laws_eqStored.sig (f : laws_eqStored.A → Option laws_eqStored.B) : Sig := mkSig [] laws_eqStored.dec f fun avs r => laws_eqStored.enc 0 r
abbrev laws_eqStored.S (f : laws_eqStored.A → Option laws_eqStored.B) : Prop := Sound Try.pinned.checked.prog 31 (laws_eqStored.sig f)
abbrev laws_eqStoredS.A : Type := ((List ((Int × Int) × Int)) × (List ((Int × Int) × Int)))
abbrev laws_eqStoredS.B : Type := Bool
def laws_eqStoredS.dec (avs : List AV) : Option ((List ((Int × Int) × Int)) × (List ((Int × Int) × Int))) := match avs with
  | [a0, a1] => (a0.toList (.st (.pair (.st (.pair (.int .u8) (.int .i16))) (.int .i16)))).bind fun x0 => (a1.toList (.st (.pair (.st (.pair (.int .u8) (.int .i16))) (.int .i16)))).bind fun x1 => some (x0, x1)
  | _ => none
theorem laws_eqStoredS.dec_eq {avs : List AV} {x : ((List ((Int × Int) × Int)) × (List ((Int × Int) × Int)))} (h : laws_eqStoredS.dec avs = some x) : ∃ e0 e1, avs = [.obj false ⟨e0, (.st (.pair (.st (.pair (.int .u8) (.int .i16))) (.int .i16))), x.1⟩, .obj false ⟨e1, (.st (.pair (.st (.pair (.int .u8) (.int .i16))) (.int .i16))), x.2⟩] := by
  unfold laws_eqStoredS.dec at h
  split at h
  · obtain ⟨x0, hx0, hh1⟩ := Option.bind_eq_some_iff.1 h
    obtain ⟨e0, rfl⟩ := toList_eq hx0
    obtain ⟨x1, hx1, hh2⟩ := Option.bind_eq_some_iff.1 hh1
    obtain ⟨e1, rfl⟩ := toList_eq hx1
    obtain rfl := Option.some.inj hh2
    exact ⟨e0, e1, rfl⟩
  · cases h
def laws_eqStoredS.enc (e : TypeId) (r : Bool) : Res := ⟨[.val .bool r], []⟩
noncomputable def laws_eqStoredS.sig (f : laws_eqStoredS.A → Option laws_eqStoredS.B) : Sig := mkSig [] laws_eqStoredS.dec f fun avs r => laws_eqStoredS.enc 0 r
abbrev laws_eqStoredS.S (f : laws_eqStoredS.A → Option laws_eqStoredS.B) : Prop := Sound Try.pinned.checked.prog 14 (laws_eqStoredS.sig f)
abbrev laws_eqRack.A : Type := ((List (List ((Int × Int) × Int))) × (List (List ((Int × Int) × Int))))
abbrev laws_eqRack.B : Type := Bool
def laws_eqRack.dec (avs : List AV) : Option ((List (List ((Int × Int) × Int))) × (List (List ((Int × Int) × Int)))) := match avs with
  | [a0, a1] => (a0.toList (.row 52 (.st (.pair (.st (.pair (.int .u8) (.int .i16))) (.int .i16))))).bind fun x0 => (a1.toList (.row 52 (.st (.pair (.st (.pair (.int .u8) (.int .i16))) (.int .i16))))).bind fun x1 => some (x0, x1)
  | _ => none
theorem laws_eqRack.dec_eq {avs : List AV} {x : ((List (List ((Int × Int) × Int))) × (List (List ((Int × Int) × Int))))} (h : laws_eqRack.dec avs = some x) : ∃ e0 e1, avs = [.obj false ⟨e0, (.row 52 (.st (.pair (.st (.pair (.int .u8) (.int .i16))) (.int .i16)))), x.1⟩, .obj false ⟨e1, (.row 52 (.st (.pair (.st (.pair (.int .u8) (.int .i16))) (.int .i16)))), x.2⟩] := by
  unfold laws_eqRack.dec at h
  split at h
  · obtain ⟨x0, hx0, hh1⟩ := Option.bind_eq_some_iff.1 h
    obtain ⟨e0, rfl⟩ := toList_eq hx0
    obtain ⟨x1, hx1, hh2⟩ := Option.bind_eq_some_iff.1 hh1
    obtain ⟨e1, rfl⟩ := toList_eq hx1
    obtain rfl := Option.some.inj hh2
    exact ⟨e0, e1, rfl⟩
  · cases h
def laws_eqRack.enc (e : TypeId) (r : Bool) : Res := ⟨[.val .bool r], []⟩
noncomputable def laws_eqRack.sig (f : laws_eqRack.A → Option laws_eqRack.B) : Sig := mkSig [] laws_eqRack.dec f fun avs r => laws_eqRack.enc 0 r
abbrev laws_eqRack.S (f : laws_eqRack.A → Option laws_eqRack.B) : Prop := Sound Try.pinned.checked.prog 19 (laws_eqRack.sig f)
abbrev laws_markStoredS.A : Type := ((List ((Int × Int) × Int)) × Int)
abbrev laws_markStoredS.B : Type := (Int × (List ((Int × Int) × Int)))
def laws_markStoredS.dec (avs : List AV) : Option ((List ((Int × Int) × Int)) × Int) := match avs with
  | [a0, a1] => (a0.toList (.st (.pair (.st (.pair (.int .u8) (.int .i16))) (.int .i16)))).bind fun x0 => (a1.toVal (.int .i64)).bind fun x1 => some (x0, x1)
  | _ => none
theorem laws_markStoredS.dec_eq {avs : List AV} {x : ((List ((Int × Int) × Int)) × Int)} (h : laws_markStoredS.dec avs = some x) : ∃ e0, avs = [.obj false ⟨e0, (.st (.pair (.st (.pair (.int .u8) (.int .i16))) (.int .i16))), x.1⟩, .val (.int .i64) x.2] := by
  unfold laws_markStoredS.dec at h
  split at h
  · obtain ⟨x0, hx0, hh1⟩ := Option.bind_eq_some_iff.1 h
    obtain ⟨e0, rfl⟩ := toList_eq hx0
    obtain ⟨x1, hx1, hh2⟩ := Option.bind_eq_some_iff.1 hh1
    obtain rfl := toVal_eq hx1
    obtain rfl := Option.some.inj hh2
    exact ⟨e0, rfl⟩
  · cases h
def laws_markStoredS.enc (e : TypeId) (r : (Int × (List ((Int × Int) × Int)))) : Res := ⟨[.val (.int .i64) r.1], [⟨e, (.st (.pair (.st (.pair (.int .u8) (.int .i16))) (.int .i16))), r.2⟩]⟩
noncomputable def laws_markStoredS.sig (f : laws_markStoredS.A → Option laws_markStoredS.B) : Sig := mkSig [0] laws_markStoredS.dec f fun avs r => laws_markStoredS.enc (avs.getD 0 (.val .bool false)).elem r
abbrev laws_markStoredS.S (f : laws_markStoredS.A → Option laws_markStoredS.B) : Prop := Sound Try.pinned.checked.prog 22 (laws_markStoredS.sig f)
abbrev laws_markRack.A : Type := ((List (List ((Int × Int) × Int))) × Int)
abbrev laws_markRack.B : Type := (Int × (List (List ((Int × Int) × Int))))
def laws_markRack.dec (avs : List AV) : Option ((List (List ((Int × Int) × Int))) × Int) := match avs with
  | [a0, a1] => (a0.toList (.row 52 (.st (.pair (.st (.pair (.int .u8) (.int .i16))) (.int .i16))))).bind fun x0 => (a1.toVal (.int .i64)).bind fun x1 => some (x0, x1)
  | _ => none
theorem laws_markRack.dec_eq {avs : List AV} {x : ((List (List ((Int × Int) × Int))) × Int)} (h : laws_markRack.dec avs = some x) : ∃ e0, avs = [.obj false ⟨e0, (.row 52 (.st (.pair (.st (.pair (.int .u8) (.int .i16))) (.int .i16)))), x.1⟩, .val (.int .i64) x.2] := by
  unfold laws_markRack.dec at h
  split at h
  · obtain ⟨x0, hx0, hh1⟩ := Option.bind_eq_some_iff.1 h
    obtain ⟨e0, rfl⟩ := toList_eq hx0
    obtain ⟨x1, hx1, hh2⟩ := Option.bind_eq_some_iff.1 hh1
    obtain rfl := toVal_eq hx1
    obtain rfl := Option.some.inj hh2
    exact ⟨e0, rfl⟩
  · cases h
def laws_markRack.enc (e : TypeId) (r : (Int × (List (List ((Int × Int) × Int))))) : Res := ⟨[.val (.int .i64) r.1], [⟨e, (.row 52 (.st (.pair (.st (.pair (.int .u8) (.int .i16))) (.int .i16)))), r.2⟩]⟩
noncomputable def laws_markRack.sig (f : laws_markRack.A → Option laws_markRack.B) : Sig := mkSig [0] laws_markRack.dec f fun avs r => laws_markRack.enc (avs.getD 0 (.val .bool false)).elem r
abbrev laws_markRack.S (f : laws_markRack.A → Option laws_markRack.B) : Prop := Sound Try.pinned.checked.prog 21 (laws_markRack.sig f)
abbrev laws_heldStoredS.A : Type := ((List ((Int × Int) × Int)) × Int)
abbrev laws_heldStoredS.B : Type := Int
def laws_heldStoredS.dec (avs : List AV) : Option ((List ((Int × Int) × Int)) × Int) := match avs with
  | [a0, a1] => (a0.toList (.st (.pair (.st (.pair (.int .u8) (.int .i16))) (.int .i16)))).bind fun x0 => (a1.toVal (.int .i64)).bind fun x1 => some (x0, x1)
  | _ => none
theorem laws_heldStoredS.dec_eq {avs : List AV} {x : ((List ((Int × Int) × Int)) × Int)} (h : laws_heldStoredS.dec avs = some x) : ∃ e0, avs = [.obj false ⟨e0, (.st (.pair (.st (.pair (.int .u8) (.int .i16))) (.int .i16))), x.1⟩, .val (.int .i64) x.2] := by
  unfold laws_heldStoredS.dec at h
  split at h
  · obtain ⟨x0, hx0, hh1⟩ := Option.bind_eq_some_iff.1 h
    obtain ⟨e0, rfl⟩ := toList_eq hx0
    obtain ⟨x1, hx1, hh2⟩ := Option.bind_eq_some_iff.1 hh1
    obtain rfl := toVal_eq hx1
    obtain rfl := Option.some.inj hh2
    exact ⟨e0, rfl⟩
  · cases h
def laws_heldStoredS.enc (e : TypeId) (r : Int) : Res := ⟨[.val (.int .i64) r], []⟩
noncomputable def laws_heldStoredS.sig (f : laws_heldStoredS.A → Option laws_heldStoredS.B) : Sig := mkSig [] laws_heldStoredS.dec f fun avs r => laws_heldStoredS.enc 0 r
abbrev laws_heldStoredS.S (f : laws_heldStoredS.A → Option laws_heldStoredS.B) : Prop := Sound Try.pinned.checked.prog 38 (laws_heldStoredS.sig f)
abbrev laws_heldRack.A : Type := ((List (List ((Int × Int) × Int))) × Int)
abbrev laws_heldRack.B : Type := Int
def laws_heldRack.dec (avs : List AV) : Option ((List (List ((Int × Int) × Int))) × Int) := match avs with
  | [a0, a1] => (a0.toList (.row 52 (.st (.pair (.st (.pair (.int .u8) (.int .i16))) (.int .i16))))).bind fun x0 => (a1.toVal (.int .i64)).bind fun x1 => some (x0, x1)
  | _ => none
theorem laws_heldRack.dec_eq {avs : List AV} {x : ((List (List ((Int × Int) × Int))) × Int)} (h : laws_heldRack.dec avs = some x) : ∃ e0, avs = [.obj false ⟨e0, (.row 52 (.st (.pair (.st (.pair (.int .u8) (.int .i16))) (.int .i16)))), x.1⟩, .val (.int .i64) x.2] := by
  unfold laws_heldRack.dec at h
  split at h
  · obtain ⟨x0, hx0, hh1⟩ := Option.bind_eq_some_iff.1 h
    obtain ⟨e0, rfl⟩ := toList_eq hx0
    obtain ⟨x1, hx1, hh2⟩ := Option.bind_eq_some_iff.1 hh1
    obtain rfl := toVal_eq hx1
    obtain rfl := Option.some.inj hh2
    exact ⟨e0, rfl⟩
  · cases h
def laws_heldRack.enc (e : TypeId) (r : Int) : Res := ⟨[.val (.int .i64) r], []⟩
noncomputable def laws_heldRack.sig (f : laws_heldRack.A → Option laws_heldRack.B) : Sig := mkSig [] laws_heldRack.dec f fun avs r => laws_heldRack.enc 0 r
abbrev laws_heldRack.S (f : laws_heldRack.A → Option laws_heldRack.B) : Prop := Sound Try.pinned.checked.prog 24 (laws_heldRack.sig f)
abbrev laws_FnExactTakeOldest.A : Type := ((List (List ((Int × Int) × Int))) × (Int × Int) × Int)
abbrev laws_FnExactTakeOldest.B : Type := Bool
def laws_FnExactTakeOldest.dec (avs : List AV) : Option ((List (List ((Int × Int) × Int))) × (Int × Int) × Int) := match avs with
  | [a0, a1, a2] => (a0.toList (.row 85 (.st (.pair (.st (.pair (.int .u8) (.int .i16))) (.int .i16))))).bind fun x0 => (a1.toVal (.st (.pair (.int .u8) (.int .i16)))).bind fun x1 => (a2.toVal (.int .i64)).bind fun x2 => some (x0, x1, x2)
  | _ => none
theorem laws_FnExactTakeOldest.dec_eq {avs : List AV} {x : ((List (List ((Int × Int) × Int))) × (Int × Int) × Int)} (h : laws_FnExactTakeOldest.dec avs = some x) : ∃ e0, avs = [.obj false ⟨e0, (.row 85 (.st (.pair (.st (.pair (.int .u8) (.int .i16))) (.int .i16)))), x.1⟩, .val (.st (.pair (.int .u8) (.int .i16))) x.2.1, .val (.int .i64) x.2.2] := by
  unfold laws_FnExactTakeOldest.dec at h
  split at h
  · obtain ⟨x0, hx0, hh1⟩ := Option.bind_eq_some_iff.1 h
    obtain ⟨e0, rfl⟩ := toList_eq hx0
    obtain ⟨x1, hx1, hh2⟩ := Option.bind_eq_some_iff.1 hh1
    obtain rfl := toVal_eq hx1
    obtain ⟨x2, hx2, hh3⟩ := Option.bind_eq_some_iff.1 hh2
    obtain rfl := toVal_eq hx2
    obtain rfl := Option.some.inj hh3
    exact ⟨e0, rfl⟩
  · cases h
def laws_FnExactTakeOldest.enc (e : TypeId) (r : Bool) : Res := ⟨[.val .bool r], []⟩
noncomputable def laws_FnExactTakeOldest.sig (f : laws_FnExactTakeOldest.A → Option laws_FnExactTakeOldest.B) : Sig := mkSig [] laws_FnExactTakeOldest.dec f fun avs r => laws_FnExactTakeOldest.enc 0 r
abbrev laws_FnExactTakeOldest.S (f : laws_FnExactTakeOldest.A → Option laws_FnExactTakeOldest.B) : Prop := Sound Try.pinned.checked.prog 6 (laws_FnExactTakeOldest.sig f)
end Go.Proofs.Yteaodjahafgbcaa.G
