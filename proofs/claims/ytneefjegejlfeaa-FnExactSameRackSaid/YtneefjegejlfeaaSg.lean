import Derived.Test.YtneefjegejlfeaaGTT
namespace Go.Proofs.Ytneefjegejlfeaa.G
open Go Go.Proofs
set_option linter.unusedVariables false
set_option maxRecDepth 100000
abbrev laws_szStoredS.A : Type := ((List ((Int × Int) × Int)) × Int)
abbrev laws_szStoredS.B : Type := Int
def laws_szStoredS.dec (avs : List AV) : Option ((List ((Int × Int) × Int)) × Int) := match avs with
  | [a0, a1] => (a0.toList (.st (.pair (.st (.pair (.int .u8) (.int .i16))) (.int .i16)))).bind fun x0 => (a1.toVal (.int .i64)).bind fun x1 => some (x0, x1)
  | _ => none
theorem laws_szStoredS.dec_eq {avs : List AV} {x : ((List ((Int × Int) × Int)) × Int)} (h : laws_szStoredS.dec avs = some x) : ∃ e0, avs = [.obj false ⟨e0, (.st (.pair (.st (.pair (.int .u8) (.int .i16))) (.int .i16))), x.1⟩, .val (.int .i64) x.2] := by
  unfold laws_szStoredS.dec at h
  split at h
  · obtain ⟨x0, hx0, hh1⟩ := Option.bind_eq_some_iff.1 h
    obtain ⟨e0, rfl⟩ := toList_eq hx0
    obtain ⟨x1, hx1, hh2⟩ := Option.bind_eq_some_iff.1 hh1
    obtain rfl := toVal_eq hx1
    obtain rfl := Option.some.inj hh2
    exact ⟨e0, rfl⟩
  · cases h
def laws_szStoredS.enc (e : TypeId) (r : Int) : Res := ⟨[.val (.int .i64) r], []⟩
noncomputable def laws_szStoredS.sig (f : laws_szStoredS.A → Option laws_szStoredS.B) : Sig := mkSig [] laws_szStoredS.dec f fun avs r => laws_szStoredS.enc 0 r
abbrev laws_szStoredS.S (f : laws_szStoredS.A → Option laws_szStoredS.B) : Prop := Sound Try.pinned.checked.prog 47 (laws_szStoredS.sig f)
abbrev laws_szRack.A : Type := ((List (List ((Int × Int) × Int))) × Int)
abbrev laws_szRack.B : Type := Int
def laws_szRack.dec (avs : List AV) : Option ((List (List ((Int × Int) × Int))) × Int) := match avs with
  | [a0, a1] => (a0.toList (.row 44 (.st (.pair (.st (.pair (.int .u8) (.int .i16))) (.int .i16))))).bind fun x0 => (a1.toVal (.int .i64)).bind fun x1 => some (x0, x1)
  | _ => none
theorem laws_szRack.dec_eq {avs : List AV} {x : ((List (List ((Int × Int) × Int))) × Int)} (h : laws_szRack.dec avs = some x) : ∃ e0, avs = [.obj false ⟨e0, (.row 44 (.st (.pair (.st (.pair (.int .u8) (.int .i16))) (.int .i16)))), x.1⟩, .val (.int .i64) x.2] := by
  unfold laws_szRack.dec at h
  split at h
  · obtain ⟨x0, hx0, hh1⟩ := Option.bind_eq_some_iff.1 h
    obtain ⟨e0, rfl⟩ := toList_eq hx0
    obtain ⟨x1, hx1, hh2⟩ := Option.bind_eq_some_iff.1 hh1
    obtain rfl := toVal_eq hx1
    obtain rfl := Option.some.inj hh2
    exact ⟨e0, rfl⟩
  · cases h
def laws_szRack.enc (e : TypeId) (r : Int) : Res := ⟨[.val (.int .i64) r], []⟩
noncomputable def laws_szRack.sig (f : laws_szRack.A → Option laws_szRack.B) : Sig := mkSig [] laws_szRack.dec f fun avs r => laws_szRack.enc 0 r
abbrev laws_szRack.S (f : laws_szRack.A → Option laws_szRack.B) : Prop := Sound Try.pinned.checked.prog 15 (laws_szRack.sig f)
abbrev laws_toBottle.A : Type := (Int × Int)
abbrev laws_toBottle.B : Type := (Int × Int)
def laws_toBottle.dec (avs : List AV) : Option (Int × Int) := match avs with
  | [a0] => (a0.toVal (.st (.pair (.int .u8) (.int .i16)))).bind fun x0 => some x0
  | _ => none
theorem laws_toBottle.dec_eq {avs : List AV} {x : (Int × Int)} (h : laws_toBottle.dec avs = some x) : avs = [.val (.st (.pair (.int .u8) (.int .i16))) x] := by
  unfold laws_toBottle.dec at h
  split at h
  · obtain ⟨x0, hx0, hh1⟩ := Option.bind_eq_some_iff.1 h
    obtain rfl := toVal_eq hx0
    obtain rfl := Option.some.inj hh1
    exact rfl
  · cases h
def laws_toBottle.enc (e : TypeId) (r : (Int × Int)) : Res := ⟨[.val (.st (.pair (.int .u8) (.int .i16))) r], []⟩
noncomputable def laws_toBottle.sig (f : laws_toBottle.A → Option laws_toBottle.B) : Sig := mkSig [] laws_toBottle.dec f fun avs r => laws_toBottle.enc 0 r
abbrev laws_toBottle.S (f : laws_toBottle.A → Option laws_toBottle.B) : Prop := Sound Try.pinned.checked.prog 31 (laws_toBottle.sig f)
abbrev laws_toStored.A : Type := ((Int × Int) × Int)
abbrev laws_toStored.B : Type := ((Int × Int) × Int)
def laws_toStored.dec (avs : List AV) : Option ((Int × Int) × Int) := match avs with
  | [a0] => (a0.toVal (.st (.pair (.st (.pair (.int .u8) (.int .i16))) (.int .i16)))).bind fun x0 => some x0
  | _ => none
theorem laws_toStored.dec_eq {avs : List AV} {x : ((Int × Int) × Int)} (h : laws_toStored.dec avs = some x) : avs = [.val (.st (.pair (.st (.pair (.int .u8) (.int .i16))) (.int .i16))) x] := by
  unfold laws_toStored.dec at h
  split at h
  · obtain ⟨x0, hx0, hh1⟩ := Option.bind_eq_some_iff.1 h
    obtain rfl := toVal_eq hx0
    obtain rfl := Option.some.inj hh1
    exact rfl
  · cases h
def laws_toStored.enc (e : TypeId) (r : ((Int × Int) × Int)) : Res := ⟨[.val (.st (.pair (.st (.pair (.int .u8) (.int .i16))) (.int .i16))) r], []⟩
noncomputable def laws_toStored.sig (f : laws_toStored.A → Option laws_toStored.B) : Sig := mkSig [] laws_toStored.dec f fun avs r => laws_toStored.enc 0 r
abbrev laws_toStored.S (f : laws_toStored.A → Option laws_toStored.B) : Prop := Sound Try.pinned.checked.prog 34 (laws_toStored.sig f)
abbrev laws_toStoredS.A : Type := (List ((Int × Int) × Int))
abbrev laws_toStoredS.B : Type := (List ((Int × Int) × Int))
def laws_toStoredS.dec (avs : List AV) : Option (List ((Int × Int) × Int)) := match avs with
  | [a0] => (a0.toList (.st (.pair (.st (.pair (.int .u8) (.int .i16))) (.int .i16)))).bind fun x0 => some x0
  | _ => none
theorem laws_toStoredS.dec_eq {avs : List AV} {x : (List ((Int × Int) × Int))} (h : laws_toStoredS.dec avs = some x) : ∃ e0, avs = [.obj false ⟨e0, (.st (.pair (.st (.pair (.int .u8) (.int .i16))) (.int .i16))), x⟩] := by
  unfold laws_toStoredS.dec at h
  split at h
  · obtain ⟨x0, hx0, hh1⟩ := Option.bind_eq_some_iff.1 h
    obtain ⟨e0, rfl⟩ := toList_eq hx0
    obtain rfl := Option.some.inj hh1
    exact ⟨e0, rfl⟩
  · cases h
def laws_toStoredS.enc (e : TypeId) (r : (List ((Int × Int) × Int))) : Res := ⟨[.own ⟨47, (.st (.pair (.st (.pair (.int .u8) (.int .i16))) (.int .i16))), r⟩], []⟩
noncomputable def laws_toStoredS.sig (f : laws_toStoredS.A → Option laws_toStoredS.B) : Sig := mkSig [] laws_toStoredS.dec f fun avs r => laws_toStoredS.enc 0 r
abbrev laws_toStoredS.S (f : laws_toStoredS.A → Option laws_toStoredS.B) : Prop := Sound Try.pinned.checked.prog 48 (laws_toStoredS.sig f)
abbrev laws_toRack.A : Type := (List (List ((Int × Int) × Int)))
abbrev laws_toRack.B : Type := (List (List ((Int × Int) × Int)))
def laws_toRack.dec (avs : List AV) : Option (List (List ((Int × Int) × Int))) := match avs with
  | [a0] => (a0.toList (.row 44 (.st (.pair (.st (.pair (.int .u8) (.int .i16))) (.int .i16))))).bind fun x0 => some x0
  | _ => none
theorem laws_toRack.dec_eq {avs : List AV} {x : (List (List ((Int × Int) × Int)))} (h : laws_toRack.dec avs = some x) : ∃ e0, avs = [.obj false ⟨e0, (.row 44 (.st (.pair (.st (.pair (.int .u8) (.int .i16))) (.int .i16)))), x⟩] := by
  unfold laws_toRack.dec at h
  split at h
  · obtain ⟨x0, hx0, hh1⟩ := Option.bind_eq_some_iff.1 h
    obtain ⟨e0, rfl⟩ := toList_eq hx0
    obtain rfl := Option.some.inj hh1
    exact ⟨e0, rfl⟩
  · cases h
def laws_toRack.enc (e : TypeId) (r : (List (List ((Int × Int) × Int)))) : Res := ⟨[.own ⟨64, (.row 47 (.st (.pair (.st (.pair (.int .u8) (.int .i16))) (.int .i16)))), r⟩], []⟩
noncomputable def laws_toRack.sig (f : laws_toRack.A → Option laws_toRack.B) : Sig := mkSig [] laws_toRack.dec f fun avs r => laws_toRack.enc 0 r
abbrev laws_toRack.S (f : laws_toRack.A → Option laws_toRack.B) : Prop := Sound Try.pinned.checked.prog 17 (laws_toRack.sig f)
abbrev spec_SameRack.A : Type := ((List (List ((Int × Int) × Int))) × (List (List ((Int × Int) × Int))))
abbrev spec_SameRack.B : Type := Bool
def spec_SameRack.dec (avs : List AV) : Option ((List (List ((Int × Int) × Int))) × (List (List ((Int × Int) × Int)))) := match avs with
  | [a0, a1] => (a0.toList (.row 47 (.st (.pair (.st (.pair (.int .u8) (.int .i16))) (.int .i16))))).bind fun x0 => (a1.toList (.row 47 (.st (.pair (.st (.pair (.int .u8) (.int .i16))) (.int .i16))))).bind fun x1 => some (x0, x1)
  | _ => none
theorem spec_SameRack.dec_eq {avs : List AV} {x : ((List (List ((Int × Int) × Int))) × (List (List ((Int × Int) × Int))))} (h : spec_SameRack.dec avs = some x) : ∃ e0 e1, avs = [.obj false ⟨e0, (.row 47 (.st (.pair (.st (.pair (.int .u8) (.int .i16))) (.int .i16)))), x.1⟩, .obj false ⟨e1, (.row 47 (.st (.pair (.st (.pair (.int .u8) (.int .i16))) (.int .i16)))), x.2⟩] := by
  unfold spec_SameRack.dec at h
  split at h
  · obtain ⟨x0, hx0, hh1⟩ := Option.bind_eq_some_iff.1 h
    obtain ⟨e0, rfl⟩ := toList_eq hx0
    obtain ⟨x1, hx1, hh2⟩ := Option.bind_eq_some_iff.1 hh1
    obtain ⟨e1, rfl⟩ := toList_eq hx1
    obtain rfl := Option.some.inj hh2
    exact ⟨e0, e1, rfl⟩
  · cases h
def spec_SameRack.enc (e : TypeId) (r : Bool) : Res := ⟨[.val .bool r], []⟩
noncomputable def spec_SameRack.sig (f : spec_SameRack.A → Option spec_SameRack.B) : Sig := mkSig [] spec_SameRack.dec f fun avs r => spec_SameRack.enc 0 r
abbrev spec_SameRack.S (f : spec_SameRack.A → Option spec_SameRack.B) : Prop := Sound Try.pinned.checked.prog 16 (spec_SameRack.sig f)
abbrev slices_Equal_impl_Stored_impl_Stored.A : Type := ((List ((Int × Int) × Int)) × (List ((Int × Int) × Int)))
abbrev slices_Equal_impl_Stored_impl_Stored.B : Type := Bool
def slices_Equal_impl_Stored_impl_Stored.dec (avs : List AV) : Option ((List ((Int × Int) × Int)) × (List ((Int × Int) × Int))) := match avs with
  | [a0, a1] => (a0.toList (.st (.pair (.st (.pair (.int .u8) (.int .i16))) (.int .i16)))).bind fun x0 => (a1.toList (.st (.pair (.st (.pair (.int .u8) (.int .i16))) (.int .i16)))).bind fun x1 => some (x0, x1)
  | _ => none
theorem slices_Equal_impl_Stored_impl_Stored.dec_eq {avs : List AV} {x : ((List ((Int × Int) × Int)) × (List ((Int × Int) × Int)))} (h : slices_Equal_impl_Stored_impl_Stored.dec avs = some x) : ∃ e0 e1, avs = [.obj false ⟨e0, (.st (.pair (.st (.pair (.int .u8) (.int .i16))) (.int .i16))), x.1⟩, .obj false ⟨e1, (.st (.pair (.st (.pair (.int .u8) (.int .i16))) (.int .i16))), x.2⟩] := by
  unfold slices_Equal_impl_Stored_impl_Stored.dec at h
  split at h
  · obtain ⟨x0, hx0, hh1⟩ := Option.bind_eq_some_iff.1 h
    obtain ⟨e0, rfl⟩ := toList_eq hx0
    obtain ⟨x1, hx1, hh2⟩ := Option.bind_eq_some_iff.1 hh1
    obtain ⟨e1, rfl⟩ := toList_eq hx1
    obtain rfl := Option.some.inj hh2
    exact ⟨e0, e1, rfl⟩
  · cases h
def slices_Equal_impl_Stored_impl_Stored.enc (e : TypeId) (r : Bool) : Res := ⟨[.val .bool r], []⟩
noncomputable def slices_Equal_impl_Stored_impl_Stored.sig (f : slices_Equal_impl_Stored_impl_Stored.A → Option slices_Equal_impl_Stored_impl_Stored.B) : Sig := mkSig [] slices_Equal_impl_Stored_impl_Stored.dec f fun avs r => slices_Equal_impl_Stored_impl_Stored.enc 0 r
abbrev slices_Equal_impl_Stored_impl_Stored.S (f : slices_Equal_impl_Stored_impl_Stored.A → Option slices_Equal_impl_Stored_impl_Stored.B) : Prop := Sound Try.pinned.checked.prog 50 (slices_Equal_impl_Stored_impl_Stored.sig f)
abbrev slices_EqualFunc_impl_Rack_impl_Rack_impl_Stored_impl_Stored__slices_Equal_impl_Stored_impl_Stored.A : Type := ((List (List ((Int × Int) × Int))) × (List (List ((Int × Int) × Int))))
abbrev slices_EqualFunc_impl_Rack_impl_Rack_impl_Stored_impl_Stored__slices_Equal_impl_Stored_impl_Stored.B : Type := Bool
def slices_EqualFunc_impl_Rack_impl_Rack_impl_Stored_impl_Stored__slices_Equal_impl_Stored_impl_Stored.dec (avs : List AV) : Option ((List (List ((Int × Int) × Int))) × (List (List ((Int × Int) × Int)))) := match avs with
  | [a0, a1, a2] => (a0.toList (.row 47 (.st (.pair (.st (.pair (.int .u8) (.int .i16))) (.int .i16))))).bind fun x0 => (a1.toList (.row 47 (.st (.pair (.st (.pair (.int .u8) (.int .i16))) (.int .i16))))).bind fun x1 => (a2.toFn 50).bind fun q2 => match q2 with | [] => some (x0, x1) | _ => none
  | _ => none
theorem slices_EqualFunc_impl_Rack_impl_Rack_impl_Stored_impl_Stored__slices_Equal_impl_Stored_impl_Stored.dec_eq {avs : List AV} {x : ((List (List ((Int × Int) × Int))) × (List (List ((Int × Int) × Int))))} (h : slices_EqualFunc_impl_Rack_impl_Rack_impl_Stored_impl_Stored__slices_Equal_impl_Stored_impl_Stored.dec avs = some x) : ∃ e0 e1, avs = [.obj false ⟨e0, (.row 47 (.st (.pair (.st (.pair (.int .u8) (.int .i16))) (.int .i16)))), x.1⟩, .obj false ⟨e1, (.row 47 (.st (.pair (.st (.pair (.int .u8) (.int .i16))) (.int .i16)))), x.2⟩, .fn 50 []] := by
  unfold slices_EqualFunc_impl_Rack_impl_Rack_impl_Stored_impl_Stored__slices_Equal_impl_Stored_impl_Stored.dec at h
  split at h
  · obtain ⟨x0, hx0, hh1⟩ := Option.bind_eq_some_iff.1 h
    obtain ⟨e0, rfl⟩ := toList_eq hx0
    obtain ⟨x1, hx1, hh2⟩ := Option.bind_eq_some_iff.1 hh1
    obtain ⟨e1, rfl⟩ := toList_eq hx1
    obtain ⟨q2, hq2, hh3⟩ := Option.bind_eq_some_iff.1 hh2
    obtain ⟨w2, rfl, rfl⟩ := toFn_eq hq2
    match w2, hh3 with
    | [], hh4 =>
    obtain rfl := Option.some.inj hh4
    exact ⟨e0, e1, rfl⟩
  · cases h
def slices_EqualFunc_impl_Rack_impl_Rack_impl_Stored_impl_Stored__slices_Equal_impl_Stored_impl_Stored.enc (e : TypeId) (r : Bool) : Res := ⟨[.val .bool r], []⟩
noncomputable def slices_EqualFunc_impl_Rack_impl_Rack_impl_Stored_impl_Stored__slices_Equal_impl_Stored_impl_Stored.sig (f : slices_EqualFunc_impl_Rack_impl_Rack_impl_Stored_impl_Stored__slices_Equal_impl_Stored_impl_Stored.A → Option slices_EqualFunc_impl_Rack_impl_Rack_impl_Stored_impl_Stored__slices_Equal_impl_Stored_impl_Stored.B) : Sig := mkSig [] slices_EqualFunc_impl_Rack_impl_Rack_impl_Stored_impl_Stored__slices_Equal_impl_Stored_impl_Stored.dec f fun avs r => slices_EqualFunc_impl_Rack_impl_Rack_impl_Stored_impl_Stored__slices_Equal_impl_Stored_impl_Stored.enc 0 r
abbrev slices_EqualFunc_impl_Rack_impl_Rack_impl_Stored_impl_Stored__slices_Equal_impl_Stored_impl_Stored.S (f : slices_EqualFunc_impl_Rack_impl_Rack_impl_Stored_impl_Stored__slices_Equal_impl_Stored_impl_Stored.A → Option slices_EqualFunc_impl_Rack_impl_Rack_impl_Stored_impl_Stored__slices_Equal_impl_Stored_impl_Stored.B) : Prop := Sound Try.pinned.checked.prog 49 (slices_EqualFunc_impl_Rack_impl_Rack_impl_Stored_impl_Stored__slices_Equal_impl_Stored_impl_Stored.sig f)
abbrev impl_SameRack.A : Type := ((List (List ((Int × Int) × Int))) × (List (List ((Int × Int) × Int))))
abbrev impl_SameRack.B : Type := Bool
def impl_SameRack.dec (avs : List AV) : Option ((List (List ((Int × Int) × Int))) × (List (List ((Int × Int) × Int)))) := match avs with
  | [a0, a1] => (a0.toList (.row 47 (.st (.pair (.st (.pair (.int .u8) (.int .i16))) (.int .i16))))).bind fun x0 => (a1.toList (.row 47 (.st (.pair (.st (.pair (.int .u8) (.int .i16))) (.int .i16))))).bind fun x1 => some (x0, x1)
  | _ => none
theorem impl_SameRack.dec_eq {avs : List AV} {x : ((List (List ((Int × Int) × Int))) × (List (List ((Int × Int) × Int))))} (h : impl_SameRack.dec avs = some x) : ∃ e0 e1, avs = [.obj false ⟨e0, (.row 47 (.st (.pair (.st (.pair (.int .u8) (.int .i16))) (.int .i16)))), x.1⟩, .obj false ⟨e1, (.row 47 (.st (.pair (.st (.pair (.int .u8) (.int .i16))) (.int .i16)))), x.2⟩] := by
  unfold impl_SameRack.dec at h
  split at h
  · obtain ⟨x0, hx0, hh1⟩ := Option.bind_eq_some_iff.1 h
    obtain ⟨e0, rfl⟩ := toList_eq hx0
    obtain ⟨x1, hx1, hh2⟩ := Option.bind_eq_some_iff.1 hh1
    obtain ⟨e1, rfl⟩ := toList_eq hx1
    obtain rfl := Option.some.inj hh2
    exact ⟨e0, e1, rfl⟩
  · cases h
def impl_SameRack.enc (e : TypeId) (r : Bool) : Res := ⟨[.val .bool r], []⟩
noncomputable def impl_SameRack.sig (f : impl_SameRack.A → Option impl_SameRack.B) : Sig := mkSig [] impl_SameRack.dec f fun avs r => impl_SameRack.enc 0 r
abbrev impl_SameRack.S (f : impl_SameRack.A → Option impl_SameRack.B) : Prop := Sound Try.pinned.checked.prog 18 (impl_SameRack.sig f)
abbrev laws_eqBottle.A : Type := ((Int × Int) × (Int × Int))
abbrev laws_eqBottle.B : Type := Bool
def laws_eqBottle.dec (avs : List AV) : Option ((Int × Int) × (Int × Int)) := match avs with
  | [a0, a1] => (a0.toVal (.st (.pair (.int .u8) (.int .i16)))).bind fun x0 => (a1.toVal (.st (.pair (.int .u8) (.int .i16)))).bind fun x1 => some (x0, x1)
  | _ => none
theorem laws_eqBottle.dec_eq {avs : List AV} {x : ((Int × Int) × (Int × Int))} (h : laws_eqBottle.dec avs = some x) : avs = [.val (.st (.pair (.int .u8) (.int .i16))) x.1, .val (.st (.pair (.int .u8) (.int .i16))) x.2] := by
  unfold laws_eqBottle.dec at h
  split at h
  · obtain ⟨x0, hx0, hh1⟩ := Option.bind_eq_some_iff.1 h
    obtain rfl := toVal_eq hx0
    obtain ⟨x1, hx1, hh2⟩ := Option.bind_eq_some_iff.1 hh1
    obtain rfl := toVal_eq hx1
    obtain rfl := Option.some.inj hh2
    exact rfl
  · cases h
def laws_eqBottle.enc (e : TypeId) (r : Bool) : Res := ⟨[.val .bool r], []⟩
noncomputable def laws_eqBottle.sig (f : laws_eqBottle.A → Option laws_eqBottle.B) : Sig := mkSig [] laws_eqBottle.dec f fun avs r => laws_eqBottle.enc 0 r
abbrev laws_eqBottle.S (f : laws_eqBottle.A → Option laws_eqBottle.B) : Prop := Sound Try.pinned.checked.prog 79 (laws_eqBottle.sig f)
abbrev laws_eqStored.A : Type := (((Int × Int) × Int) × ((Int × Int) × Int))
abbrev laws_eqStored.B : Type := Bool
def laws_eqStored.dec (avs : List AV) : Option (((Int × Int) × Int) × ((Int × Int) × Int)) := match avs with
  | [a0, a1] => (a0.toVal (.st (.pair (.st (.pair (.int .u8) (.int .i16))) (.int .i16)))).bind fun x0 => (a1.toVal (.st (.pair (.st (.pair (.int .u8) (.int .i16))) (.int .i16)))).bind fun x1 => some (x0, x1)
  | _ => none
theorem laws_eqStored.dec_eq {avs : List AV} {x : (((Int × Int) × Int) × ((Int × Int) × Int))} (h : laws_eqStored.dec avs = some x) : avs = [.val (.st (.pair (.st (.pair (.int .u8) (.int .i16))) (.int .i16))) x.1, .val (.st (.pair (.st (.pair (.int .u8) (.int .i16))) (.int .i16))) x.2] := by
  unfold laws_eqStored.dec at h
  split at h
  · obtain ⟨x0, hx0, hh1⟩ := Option.bind_eq_some_iff.1 h
    obtain rfl := toVal_eq hx0
    obtain ⟨x1, hx1, hh2⟩ := Option.bind_eq_some_iff.1 hh1
    obtain rfl := toVal_eq hx1
    obtain rfl := Option.some.inj hh2
    exact rfl
  · cases h
def laws_eqStored.enc (e : TypeId) (r : Bool) : Res := ⟨[.val .bool r], []⟩
noncomputable def laws_eqStored.sig (f : laws_eqStored.A → Option laws_eqStored.B) : Sig := mkSig [] laws_eqStored.dec f fun avs r => laws_eqStored.enc 0 r
abbrev laws_eqStored.S (f : laws_eqStored.A → Option laws_eqStored.B) : Prop := Sound Try.pinned.checked.prog 42 (laws_eqStored.sig f)
abbrev laws_eqStoredS.A : Type := ((List ((Int × Int) × Int)) × (List ((Int × Int) × Int)))
abbrev laws_eqStoredS.B : Type := Bool
def laws_eqStoredS.dec (avs : List AV) : Option ((List ((Int × Int) × Int)) × (List ((Int × Int) × Int))) := match avs with
  | [a0, a1] => (a0.toList (.st (.pair (.st (.pair (.int .u8) (.int .i16))) (.int .i16)))).bind fun x0 => (a1.toList (.st (.pair (.st (.pair (.int .u8) (.int .i16))) (.int .i16)))).bind fun x1 => some (x0, x1)
  | _ => none
theorem laws_eqStoredS.dec_eq {avs : List AV} {x : ((List ((Int × Int) × Int)) × (List ((Int × Int) × Int)))} (h : laws_eqStoredS.dec avs = some x) : ∃ e0 e1, avs = [.obj false ⟨e0, (.st (.pair (.st (.pair (.int .u8) (.int .i16))) (.int .i16))), x.1⟩, .obj false ⟨e1, (.st (.pair (.st (.pair (.int .u8) (.int .i16))) (.int .i16))), x.2⟩] := by
  unfold laws_eqStoredS.dec at h
  split at h
  · obtain ⟨x0, hx0, hh1⟩ := Option.bind_eq_some_iff.1 h
    obtain ⟨e0, rfl⟩ := toList_eq hx0
    obtain ⟨x1, hx1, hh2⟩ := Option.bind_eq_some_iff.1 hh1
    obtain ⟨e1, rfl⟩ := toList_eq hx1
    obtain rfl := Option.some.inj hh2
    exact ⟨e0, e1, rfl⟩
  · cases h
def laws_eqStoredS.enc (e : TypeId) (r : Bool) : Res := ⟨[.val .bool r], []⟩
noncomputable def laws_eqStoredS.sig (f : laws_eqStoredS.A → Option laws_eqStoredS.B) : Sig := mkSig [] laws_eqStoredS.dec f fun avs r => laws_eqStoredS.enc 0 r
abbrev laws_eqStoredS.S (f : laws_eqStoredS.A → Option laws_eqStoredS.B) : Prop := Sound Try.pinned.checked.prog 51 (laws_eqStoredS.sig f)
abbrev laws_eqRack.A : Type := ((List (List ((Int × Int) × Int))) × (List (List ((Int × Int) × Int))))
abbrev laws_eqRack.B : Type := Bool
def laws_eqRack.dec (avs : List AV) : Option ((List (List ((Int × Int) × Int))) × (List (List ((Int × Int) × Int)))) := match avs with
  | [a0, a1] => (a0.toList (.row 47 (.st (.pair (.st (.pair (.int .u8) (.int .i16))) (.int .i16))))).bind fun x0 => (a1.toList (.row 47 (.st (.pair (.st (.pair (.int .u8) (.int .i16))) (.int .i16))))).bind fun x1 => some (x0, x1)
  | _ => none
theorem laws_eqRack.dec_eq {avs : List AV} {x : ((List (List ((Int × Int) × Int))) × (List (List ((Int × Int) × Int))))} (h : laws_eqRack.dec avs = some x) : ∃ e0 e1, avs = [.obj false ⟨e0, (.row 47 (.st (.pair (.st (.pair (.int .u8) (.int .i16))) (.int .i16)))), x.1⟩, .obj false ⟨e1, (.row 47 (.st (.pair (.st (.pair (.int .u8) (.int .i16))) (.int .i16)))), x.2⟩] := by
  unfold laws_eqRack.dec at h
  split at h
  · obtain ⟨x0, hx0, hh1⟩ := Option.bind_eq_some_iff.1 h
    obtain ⟨e0, rfl⟩ := toList_eq hx0
    obtain ⟨x1, hx1, hh2⟩ := Option.bind_eq_some_iff.1 hh1
    obtain ⟨e1, rfl⟩ := toList_eq hx1
    obtain rfl := Option.some.inj hh2
    exact ⟨e0, e1, rfl⟩
  · cases h
def laws_eqRack.enc (e : TypeId) (r : Bool) : Res := ⟨[.val .bool r], []⟩
noncomputable def laws_eqRack.sig (f : laws_eqRack.A → Option laws_eqRack.B) : Sig := mkSig [] laws_eqRack.dec f fun avs r => laws_eqRack.enc 0 r
abbrev laws_eqRack.S (f : laws_eqRack.A → Option laws_eqRack.B) : Prop := Sound Try.pinned.checked.prog 19 (laws_eqRack.sig f)
abbrev laws_FnExactSameRack.A : Type := ((List (List ((Int × Int) × Int))) × (List (List ((Int × Int) × Int))))
abbrev laws_FnExactSameRack.B : Type := Bool
def laws_FnExactSameRack.dec (avs : List AV) : Option ((List (List ((Int × Int) × Int))) × (List (List ((Int × Int) × Int)))) := match avs with
  | [a0, a1] => (a0.toList (.row 44 (.st (.pair (.st (.pair (.int .u8) (.int .i16))) (.int .i16))))).bind fun x0 => (a1.toList (.row 44 (.st (.pair (.st (.pair (.int .u8) (.int .i16))) (.int .i16))))).bind fun x1 => some (x0, x1)
  | _ => none
theorem laws_FnExactSameRack.dec_eq {avs : List AV} {x : ((List (List ((Int × Int) × Int))) × (List (List ((Int × Int) × Int))))} (h : laws_FnExactSameRack.dec avs = some x) : ∃ e0 e1, avs = [.obj false ⟨e0, (.row 44 (.st (.pair (.st (.pair (.int .u8) (.int .i16))) (.int .i16)))), x.1⟩, .obj false ⟨e1, (.row 44 (.st (.pair (.st (.pair (.int .u8) (.int .i16))) (.int .i16)))), x.2⟩] := by
  unfold laws_FnExactSameRack.dec at h
  split at h
  · obtain ⟨x0, hx0, hh1⟩ := Option.bind_eq_some_iff.1 h
    obtain ⟨e0, rfl⟩ := toList_eq hx0
    obtain ⟨x1, hx1, hh2⟩ := Option.bind_eq_some_iff.1 hh1
    obtain ⟨e1, rfl⟩ := toList_eq hx1
    obtain rfl := Option.some.inj hh2
    exact ⟨e0, e1, rfl⟩
  · cases h
def laws_FnExactSameRack.enc (e : TypeId) (r : Bool) : Res := ⟨[.val .bool r], []⟩
noncomputable def laws_FnExactSameRack.sig (f : laws_FnExactSameRack.A → Option laws_FnExactSameRack.B) : Sig := mkSig [] laws_FnExactSameRack.dec f fun avs r => laws_FnExactSameRack.enc 0 r
abbrev laws_FnExactSameRack.S (f : laws_FnExactSameRack.A → Option laws_FnExactSameRack.B) : Prop := Sound Try.pinned.checked.prog 3 (laws_FnExactSameRack.sig f)
end Go.Proofs.Ytneefjegejlfeaa.G
