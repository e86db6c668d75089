import Derived.Test.YtjajlmaldeoobaaGTT
namespace Go.Proofs.Ytjajlmaldeoobaa.G
open Go Go.Proofs
set_option linter.unusedVariables false
set_option linter.unusedSimpArgs false
set_option maxRecDepth 100000
abbrev laws_szCrateS.A : Type := ((List (List (Int × Int))) × Int)
abbrev laws_szCrateS.B : Type := Int
def laws_szCrateS.dec (avs : List AV) : Option ((List (List (Int × Int))) × Int) := match avs with
  | [a0, a1] => (a0.toList (.arr 12 (.st (.pair (.int .u8) (.int .i16))))).bind fun x0 => (a1.toVal (.int .i64)).bind fun x1 => some (x0, x1)
  | _ => none
theorem laws_szCrateS.dec_eq {avs : List AV} {x : ((List (List (Int × Int))) × Int)} (h : laws_szCrateS.dec avs = some x) : ∃ e0, avs = [.obj false ⟨e0, (.arr 12 (.st (.pair (.int .u8) (.int .i16)))), x.1⟩, .val (.int .i64) x.2] := by
  unfold laws_szCrateS.dec at h
  split at h
  · obtain ⟨x0, hx0, hh1⟩ := Option.bind_eq_some_iff.1 h
    obtain ⟨e0, rfl⟩ := toList_eq hx0
    obtain ⟨x1, hx1, hh2⟩ := Option.bind_eq_some_iff.1 hh1
    obtain rfl := toVal_eq hx1
    obtain rfl := Option.some.inj hh2
    exact ⟨e0, rfl⟩
  · cases h
def laws_szCrateS.enc (e : TypeId) (r : Int) : Res := ⟨[.val (.int .i64) r], []⟩
noncomputable def laws_szCrateS.sig (f : laws_szCrateS.A → Option laws_szCrateS.B) : Sig := mkSig [] laws_szCrateS.dec f fun avs r => laws_szCrateS.enc 0 r
abbrev laws_szCrateS.S (f : laws_szCrateS.A → Option laws_szCrateS.B) : Prop := Sound Try.pinned.checked.prog 13 (laws_szCrateS.sig f)
abbrev laws_szBottleS.A : Type := ((List (Int × Int)) × Int)
abbrev laws_szBottleS.B : Type := Int
def laws_szBottleS.dec (avs : List AV) : Option ((List (Int × Int)) × Int) := match avs with
  | [a0, a1] => (a0.toList (.st (.pair (.int .u8) (.int .i16)))).bind fun x0 => (a1.toVal (.int .i64)).bind fun x1 => some (x0, x1)
  | _ => none
theorem laws_szBottleS.dec_eq {avs : List AV} {x : ((List (Int × Int)) × Int)} (h : laws_szBottleS.dec avs = some x) : ∃ e0, avs = [.obj false ⟨e0, (.st (.pair (.int .u8) (.int .i16))), x.1⟩, .val (.int .i64) x.2] := by
  unfold laws_szBottleS.dec at h
  split at h
  · obtain ⟨x0, hx0, hh1⟩ := Option.bind_eq_some_iff.1 h
    obtain ⟨e0, rfl⟩ := toList_eq hx0
    obtain ⟨x1, hx1, hh2⟩ := Option.bind_eq_some_iff.1 hh1
    obtain rfl := toVal_eq hx1
    obtain rfl := Option.some.inj hh2
    exact ⟨e0, rfl⟩
  · cases h
def laws_szBottleS.enc (e : TypeId) (r : Int) : Res := ⟨[.val (.int .i64) r], []⟩
noncomputable def laws_szBottleS.sig (f : laws_szBottleS.A → Option laws_szBottleS.B) : Sig := mkSig [] laws_szBottleS.dec f fun avs r => laws_szBottleS.enc 0 r
abbrev laws_szBottleS.S (f : laws_szBottleS.A → Option laws_szBottleS.B) : Prop := Sound Try.pinned.checked.prog 14 (laws_szBottleS.sig f)
abbrev laws_toBottle.A : Type := (Int × Int)
abbrev laws_toBottle.B : Type := (Int × Int)
def laws_toBottle.dec (avs : List AV) : Option (Int × Int) := match avs with
  | [a0] => (a0.toVal (.st (.pair (.int .u8) (.int .i16)))).bind fun x0 => some x0
  | _ => none
theorem laws_toBottle.dec_eq {avs : List AV} {x : (Int × Int)} (h : laws_toBottle.dec avs = some x) : avs = [.val (.st (.pair (.int .u8) (.int .i16))) x] := by
  unfold laws_toBottle.dec at h
  split at h
  · obtain ⟨x0, hx0, hh1⟩ := Option.bind_eq_some_iff.1 h
    obtain rfl := toVal_eq hx0
    obtain rfl := Option.some.inj hh1
    exact rfl
  · cases h
def laws_toBottle.enc (e : TypeId) (r : (Int × Int)) : Res := ⟨[.val (.st (.pair (.int .u8) (.int .i16))) r], []⟩
noncomputable def laws_toBottle.sig (f : laws_toBottle.A → Option laws_toBottle.B) : Sig := mkSig [] laws_toBottle.dec f fun avs r => laws_toBottle.enc 0 r
abbrev laws_toBottle.S (f : laws_toBottle.A → Option laws_toBottle.B) : Prop := Sound Try.pinned.checked.prog 55 (laws_toBottle.sig f)
abbrev laws_toCrate.A : Type := (List (Int × Int))
abbrev laws_toCrate.B : Type := (List (Int × Int))
def laws_toCrate.dec (avs : List AV) : Option (List (Int × Int)) := match avs with
  | [a0] => (a0.toVal (.arr 12 (.st (.pair (.int .u8) (.int .i16))))).bind fun x0 => some x0
  | _ => none
theorem laws_toCrate.dec_eq {avs : List AV} {x : (List (Int × Int))} (h : laws_toCrate.dec avs = some x) : avs = [.val (.arr 12 (.st (.pair (.int .u8) (.int .i16)))) x] := by
  unfold laws_toCrate.dec at h
  split at h
  · obtain ⟨x0, hx0, hh1⟩ := Option.bind_eq_some_iff.1 h
    obtain rfl := toVal_eq hx0
    obtain rfl := Option.some.inj hh1
    exact rfl
  · cases h
def laws_toCrate.enc (e : TypeId) (r : (List (Int × Int))) : Res := ⟨[.val (.arr 12 (.st (.pair (.int .u8) (.int .i16)))) r], []⟩
noncomputable def laws_toCrate.sig (f : laws_toCrate.A → Option laws_toCrate.B) : Sig := mkSig [] laws_toCrate.dec f fun avs r => laws_toCrate.enc 0 r
abbrev laws_toCrate.S (f : laws_toCrate.A → Option laws_toCrate.B) : Prop := Sound Try.pinned.checked.prog 22 (laws_toCrate.sig f)
abbrev laws_toCrateS.A : Type := (List (List (Int × Int)))
abbrev laws_toCrateS.B : Type := (List (List (Int × Int)))
def laws_toCrateS.dec (avs : List AV) : Option (List (List (Int × Int))) := match avs with
  | [a0] => (a0.toList (.arr 12 (.st (.pair (.int .u8) (.int .i16))))).bind fun x0 => some x0
  | _ => none
theorem laws_toCrateS.dec_eq {avs : List AV} {x : (List (List (Int × Int)))} (h : laws_toCrateS.dec avs = some x) : ∃ e0, avs = [.obj false ⟨e0, (.arr 12 (.st (.pair (.int .u8) (.int .i16)))), x⟩] := by
  unfold laws_toCrateS.dec at h
  split at h
  · obtain ⟨x0, hx0, hh1⟩ := Option.bind_eq_some_iff.1 h
    obtain ⟨e0, rfl⟩ := toList_eq hx0
    obtain rfl := Option.some.inj hh1
    exact ⟨e0, rfl⟩
  · cases h
def laws_toCrateS.enc (e : TypeId) (r : (List (List (Int × Int)))) : Res := ⟨[.own ⟨43, (.arr 12 (.st (.pair (.int .u8) (.int .i16)))), r⟩], []⟩
noncomputable def laws_toCrateS.sig (f : laws_toCrateS.A → Option laws_toCrateS.B) : Sig := mkSig [] laws_toCrateS.dec f fun avs r => laws_toCrateS.enc 0 r
abbrev laws_toCrateS.S (f : laws_toCrateS.A → Option laws_toCrateS.B) : Prop := Sound Try.pinned.checked.prog 16 (laws_toCrateS.sig f)
abbrev laws_toBottleS.A : Type := (List (Int × Int))
abbrev laws_toBottleS.B : Type := (List (Int × Int))
def laws_toBottleS.dec (avs : List AV) : Option (List (Int × Int)) := match avs with
  | [a0] => (a0.toList (.st (.pair (.int .u8) (.int .i16)))).bind fun x0 => some x0
  | _ => none
theorem laws_toBottleS.dec_eq {avs : List AV} {x : (List (Int × Int))} (h : laws_toBottleS.dec avs = some x) : ∃ e0, avs = [.obj false ⟨e0, (.st (.pair (.int .u8) (.int .i16))), x⟩] := by
  unfold laws_toBottleS.dec at h
  split at h
  · obtain ⟨x0, hx0, hh1⟩ := Option.bind_eq_some_iff.1 h
    obtain ⟨e0, rfl⟩ := toList_eq hx0
    obtain rfl := Option.some.inj hh1
    exact ⟨e0, rfl⟩
  · cases h
def laws_toBottleS.enc (e : TypeId) (r : (List (Int × Int))) : Res := ⟨[.own ⟨41, (.st (.pair (.int .u8) (.int .i16))), r⟩], []⟩
noncomputable def laws_toBottleS.sig (f : laws_toBottleS.A → Option laws_toBottleS.B) : Sig := mkSig [] laws_toBottleS.dec f fun avs r => laws_toBottleS.enc 0 r
abbrev laws_toBottleS.S (f : laws_toBottleS.A → Option laws_toBottleS.B) : Prop := Sound Try.pinned.checked.prog 17 (laws_toBottleS.sig f)
abbrev spec_l01Free.A : Type := (Int × Int)
abbrev spec_l01Free.B : Type := Bool
def spec_l01Free.dec (avs : List AV) : Option (Int × Int) := match avs with
  | [a0] => (a0.toVal (.st (.pair (.int .u8) (.int .i16)))).bind fun x0 => some x0
  | _ => none
theorem spec_l01Free.dec_eq {avs : List AV} {x : (Int × Int)} (h : spec_l01Free.dec avs = some x) : avs = [.val (.st (.pair (.int .u8) (.int .i16))) x] := by
  unfold spec_l01Free.dec at h
  split at h
  · obtain ⟨x0, hx0, hh1⟩ := Option.bind_eq_some_iff.1 h
    obtain rfl := toVal_eq hx0
    obtain rfl := Option.some.inj hh1
    exact rfl
  · cases h
def spec_l01Free.enc (e : TypeId) (r : Bool) : Res := ⟨[.val .bool r], []⟩
noncomputable def spec_l01Free.sig (f : spec_l01Free.A → Option spec_l01Free.B) : Sig := mkSig [] spec_l01Free.dec f fun avs r => spec_l01Free.enc 0 r
abbrev spec_l01Free.S (f : spec_l01Free.A → Option spec_l01Free.B) : Prop := Sound Try.pinned.checked.prog 105 (spec_l01Free.sig f)
abbrev spec_l00In.A : Type := (Int × Int × Int)
abbrev spec_l00In.B : Type := Bool
def spec_l00In.dec (avs : List AV) : Option (Int × Int × Int) := match avs with
  | [a0, a1, a2] => (a0.toVal (.int .i64)).bind fun x0 => (a1.toVal (.int .i64)).bind fun x1 => (a2.toVal (.int .i64)).bind fun x2 => some (x0, x1, x2)
  | _ => none
theorem spec_l00In.dec_eq {avs : List AV} {x : (Int × Int × Int)} (h : spec_l00In.dec avs = some x) : avs = [.val (.int .i64) x.1, .val (.int .i64) x.2.1, .val (.int .i64) x.2.2] := by
  unfold spec_l00In.dec at h
  split at h
  · obtain ⟨x0, hx0, hh1⟩ := Option.bind_eq_some_iff.1 h
    obtain rfl := toVal_eq hx0
    obtain ⟨x1, hx1, hh2⟩ := Option.bind_eq_some_iff.1 hh1
    obtain rfl := toVal_eq hx1
    obtain ⟨x2, hx2, hh3⟩ := Option.bind_eq_some_iff.1 hh2
    obtain rfl := toVal_eq hx2
    obtain rfl := Option.some.inj hh3
    exact rfl
  · cases h
def spec_l00In.enc (e : TypeId) (r : Bool) : Res := ⟨[.val .bool r], []⟩
noncomputable def spec_l00In.sig (f : spec_l00In.A → Option spec_l00In.B) : Sig := mkSig [] spec_l00In.dec f fun avs r => spec_l00In.enc 0 r
abbrev spec_l00In.S (f : spec_l00In.A → Option spec_l00In.B) : Prop := Sound Try.pinned.checked.prog 99 (spec_l00In.sig f)
abbrev spec_l01Bottle.A : Type := (Int × Int)
abbrev spec_l01Bottle.B : Type := Bool
def spec_l01Bottle.dec (avs : List AV) : Option (Int × Int) := match avs with
  | [a0] => (a0.toVal (.st (.pair (.int .u8) (.int .i16)))).bind fun x0 => some x0
  | _ => none
theorem spec_l01Bottle.dec_eq {avs : List AV} {x : (Int × Int)} (h : spec_l01Bottle.dec avs = some x) : avs = [.val (.st (.pair (.int .u8) (.int .i16))) x] := by
  unfold spec_l01Bottle.dec at h
  split at h
  · obtain ⟨x0, hx0, hh1⟩ := Option.bind_eq_some_iff.1 h
    obtain rfl := toVal_eq hx0
    obtain rfl := Option.some.inj hh1
    exact rfl
  · cases h
def spec_l01Bottle.enc (e : TypeId) (r : Bool) : Res := ⟨[.val .bool r], []⟩
noncomputable def spec_l01Bottle.sig (f : spec_l01Bottle.A → Option spec_l01Bottle.B) : Sig := mkSig [] spec_l01Bottle.dec f fun avs r => spec_l01Bottle.enc 0 r
abbrev spec_l01Bottle.S (f : spec_l01Bottle.A → Option spec_l01Bottle.B) : Prop := Sound Try.pinned.checked.prog 53 (spec_l01Bottle.sig f)
abbrev spec_l01Ok.A : Type := (List (Int × Int))
abbrev spec_l01Ok.B : Type := Bool
def spec_l01Ok.dec (avs : List AV) : Option (List (Int × Int)) := match avs with
  | [a0] => (a0.toBox (.arr 12 (.st (.pair (.int .u8) (.int .i16))))).bind fun x0 => some x0
  | _ => none
theorem spec_l01Ok.dec_eq {avs : List AV} {x : (List (Int × Int))} (h : spec_l01Ok.dec avs = some x) : ∃ e0, avs = [.obj true ⟨e0, (.arr 12 (.st (.pair (.int .u8) (.int .i16)))), [x]⟩] := by
  unfold spec_l01Ok.dec at h
  split at h
  · obtain ⟨x0, hx0, hh1⟩ := Option.bind_eq_some_iff.1 h
    obtain ⟨e0, rfl⟩ := toBox_eq hx0
    obtain rfl := Option.some.inj hh1
    exact ⟨e0, rfl⟩
  · cases h
def spec_l01Ok.enc (e : TypeId) (r : Bool) : Res := ⟨[.val .bool r], []⟩
noncomputable def spec_l01Ok.sig (f : spec_l01Ok.A → Option spec_l01Ok.B) : Sig := mkSig [] spec_l01Ok.dec f fun avs r => spec_l01Ok.enc 0 r
abbrev spec_l01Ok.S (f : spec_l01Ok.A → Option spec_l01Ok.B) : Prop := Sound Try.pinned.checked.prog 64 (spec_l01Ok.sig f)
abbrev spec_l01Stack.A : Type := (List (List (Int × Int)))
abbrev spec_l01Stack.B : Type := Bool
def spec_l01Stack.dec (avs : List AV) : Option (List (List (Int × Int))) := match avs with
  | [a0] => (a0.toList (.arr 12 (.st (.pair (.int .u8) (.int .i16))))).bind fun x0 => some x0
  | _ => none
theorem spec_l01Stack.dec_eq {avs : List AV} {x : (List (List (Int × Int)))} (h : spec_l01Stack.dec avs = some x) : ∃ e0, avs = [.obj false ⟨e0, (.arr 12 (.st (.pair (.int .u8) (.int .i16)))), x⟩] := by
  unfold spec_l01Stack.dec at h
  split at h
  · obtain ⟨x0, hx0, hh1⟩ := Option.bind_eq_some_iff.1 h
    obtain ⟨e0, rfl⟩ := toList_eq hx0
    obtain rfl := Option.some.inj hh1
    exact ⟨e0, rfl⟩
  · cases h
def spec_l01Stack.enc (e : TypeId) (r : Bool) : Res := ⟨[.val .bool r], []⟩
noncomputable def spec_l01Stack.sig (f : spec_l01Stack.A → Option spec_l01Stack.B) : Sig := mkSig [] spec_l01Stack.dec f fun avs r => spec_l01Stack.enc 0 r
abbrev spec_l01Stack.S (f : spec_l01Stack.A → Option spec_l01Stack.B) : Prop := Sound Try.pinned.checked.prog 52 (spec_l01Stack.sig f)
abbrev spec_l03Stray.A : Type := ((List (Int × Int)) × (Int × Int))
abbrev spec_l03Stray.B : Type := Int
def spec_l03Stray.dec (avs : List AV) : Option ((List (Int × Int)) × (Int × Int)) := match avs with
  | [a0, a1] => (a0.toBox (.arr 12 (.st (.pair (.int .u8) (.int .i16))))).bind fun x0 => (a1.toVal (.st (.pair (.int .u8) (.int .i16)))).bind fun x1 => some (x0, x1)
  | _ => none
theorem spec_l03Stray.dec_eq {avs : List AV} {x : ((List (Int × Int)) × (Int × Int))} (h : spec_l03Stray.dec avs = some x) : ∃ e0, avs = [.obj true ⟨e0, (.arr 12 (.st (.pair (.int .u8) (.int .i16)))), [x.1]⟩, .val (.st (.pair (.int .u8) (.int .i16))) x.2] := by
  unfold spec_l03Stray.dec at h
  split at h
  · obtain ⟨x0, hx0, hh1⟩ := Option.bind_eq_some_iff.1 h
    obtain ⟨e0, rfl⟩ := toBox_eq hx0
    obtain ⟨x1, hx1, hh2⟩ := Option.bind_eq_some_iff.1 hh1
    obtain rfl := toVal_eq hx1
    obtain rfl := Option.some.inj hh2
    exact ⟨e0, rfl⟩
  · cases h
def spec_l03Stray.enc (e : TypeId) (r : Int) : Res := ⟨[.val (.int .i64) r], []⟩
noncomputable def spec_l03Stray.sig (f : spec_l03Stray.A → Option spec_l03Stray.B) : Sig := mkSig [] spec_l03Stray.dec f fun avs r => spec_l03Stray.enc 0 r
abbrev spec_l03Stray.S (f : spec_l03Stray.A → Option spec_l03Stray.B) : Prop := Sound Try.pinned.checked.prog 54 (spec_l03Stray.sig f)
abbrev spec_StrayIn.A : Type := ((List (List (Int × Int))) × (List (Int × Int)))
abbrev spec_StrayIn.B : Type := (Int × Int)
def spec_StrayIn.dec (avs : List AV) : Option ((List (List (Int × Int))) × (List (Int × Int))) := match avs with
  | [a0, a1] => (a0.toList (.arr 12 (.st (.pair (.int .u8) (.int .i16))))).bind fun x0 => (a1.toList (.st (.pair (.int .u8) (.int .i16)))).bind fun x1 => some (x0, x1)
  | _ => none
theorem spec_StrayIn.dec_eq {avs : List AV} {x : ((List (List (Int × Int))) × (List (Int × Int)))} (h : spec_StrayIn.dec avs = some x) : ∃ e0 e1, avs = [.obj false ⟨e0, (.arr 12 (.st (.pair (.int .u8) (.int .i16)))), x.1⟩, .obj false ⟨e1, (.st (.pair (.int .u8) (.int .i16))), x.2⟩] := by
  unfold spec_StrayIn.dec at h
  split at h
  · obtain ⟨x0, hx0, hh1⟩ := Option.bind_eq_some_iff.1 h
    obtain ⟨e0, rfl⟩ := toList_eq hx0
    obtain ⟨x1, hx1, hh2⟩ := Option.bind_eq_some_iff.1 hh1
    obtain ⟨e1, rfl⟩ := toList_eq hx1
    obtain rfl := Option.some.inj hh2
    exact ⟨e0, e1, rfl⟩
  · cases h
def spec_StrayIn.enc (e : TypeId) (r : (Int × Int)) : Res := ⟨[.val (.int .i64) r.1, .val (.int .i64) r.2], []⟩
noncomputable def spec_StrayIn.sig (f : spec_StrayIn.A → Option spec_StrayIn.B) : Sig := mkSig [] spec_StrayIn.dec f fun avs r => spec_StrayIn.enc 0 r
abbrev spec_StrayIn.S (f : spec_StrayIn.A → Option spec_StrayIn.B) : Prop := Sound Try.pinned.checked.prog 15 (spec_StrayIn.sig f)
abbrev impl_within.A : Type := (Int × Int × Int)
abbrev impl_within.B : Type := Bool
def impl_within.dec (avs : List AV) : Option (Int × Int × Int) := match avs with
  | [a0, a1, a2] => (a0.toVal (.int .i64)).bind fun x0 => (a1.toVal (.int .i64)).bind fun x1 => (a2.toVal (.int .i64)).bind fun x2 => some (x0, x1, x2)
  | _ => none
theorem impl_within.dec_eq {avs : List AV} {x : (Int × Int × Int)} (h : impl_within.dec avs = some x) : avs = [.val (.int .i64) x.1, .val (.int .i64) x.2.1, .val (.int .i64) x.2.2] := by
  unfold impl_within.dec at h
  split at h
  · obtain ⟨x0, hx0, hh1⟩ := Option.bind_eq_some_iff.1 h
    obtain rfl := toVal_eq hx0
    obtain ⟨x1, hx1, hh2⟩ := Option.bind_eq_some_iff.1 hh1
    obtain rfl := toVal_eq hx1
    obtain ⟨x2, hx2, hh3⟩ := Option.bind_eq_some_iff.1 hh2
    obtain rfl := toVal_eq hx2
    obtain rfl := Option.some.inj hh3
    exact rfl
  · cases h
def impl_within.enc (e : TypeId) (r : Bool) : Res := ⟨[.val .bool r], []⟩
noncomputable def impl_within.sig (f : impl_within.A → Option impl_within.B) : Sig := mkSig [] impl_within.dec f fun avs r => impl_within.enc 0 r
abbrev impl_within.S (f : impl_within.A → Option impl_within.B) : Prop := Sound Try.pinned.checked.prog 107 (impl_within.sig f)
abbrev impl_ValidBottle.A : Type := (Int × Int)
abbrev impl_ValidBottle.B : Type := Bool
def impl_ValidBottle.dec (avs : List AV) : Option (Int × Int) := match avs with
  | [a0] => (a0.toVal (.st (.pair (.int .u8) (.int .i16)))).bind fun x0 => some x0
  | _ => none
theorem impl_ValidBottle.dec_eq {avs : List AV} {x : (Int × Int)} (h : impl_ValidBottle.dec avs = some x) : avs = [.val (.st (.pair (.int .u8) (.int .i16))) x] := by
  unfold impl_ValidBottle.dec at h
  split at h
  · obtain ⟨x0, hx0, hh1⟩ := Option.bind_eq_some_iff.1 h
    obtain rfl := toVal_eq hx0
    obtain rfl := Option.some.inj hh1
    exact rfl
  · cases h
def impl_ValidBottle.enc (e : TypeId) (r : Bool) : Res := ⟨[.val .bool r], []⟩
noncomputable def impl_ValidBottle.sig (f : impl_ValidBottle.A → Option impl_ValidBottle.B) : Sig := mkSig [] impl_ValidBottle.dec f fun avs r => impl_ValidBottle.enc 0 r
abbrev impl_ValidBottle.S (f : impl_ValidBottle.A → Option impl_ValidBottle.B) : Prop := Sound Try.pinned.checked.prog 58 (impl_ValidBottle.sig f)
abbrev impl_StrayIn_1.A : Type := (Int × Int)
abbrev impl_StrayIn_1.B : Type := Bool
def impl_StrayIn_1.dec (avs : List AV) : Option (Int × Int) := match avs with
  | [a0] => (a0.toVal (.st (.pair (.int .u8) (.int .i16)))).bind fun x0 => some x0
  | _ => none
theorem impl_StrayIn_1.dec_eq {avs : List AV} {x : (Int × Int)} (h : impl_StrayIn_1.dec avs = some x) : avs = [.val (.st (.pair (.int .u8) (.int .i16))) x] := by
  unfold impl_StrayIn_1.dec at h
  split at h
  · obtain ⟨x0, hx0, hh1⟩ := Option.bind_eq_some_iff.1 h
    obtain rfl := toVal_eq hx0
    obtain rfl := Option.some.inj hh1
    exact rfl
  · cases h
def impl_StrayIn_1.enc (e : TypeId) (r : Bool) : Res := ⟨[.val .bool r], []⟩
noncomputable def impl_StrayIn_1.sig (f : impl_StrayIn_1.A → Option impl_StrayIn_1.B) : Sig := mkSig [] impl_StrayIn_1.dec f fun avs r => impl_StrayIn_1.enc 0 r
abbrev impl_StrayIn_1.S (f : impl_StrayIn_1.A → Option impl_StrayIn_1.B) : Prop := Sound Try.pinned.checked.prog 57 (impl_StrayIn_1.sig f)
abbrev slices_IndexFunc_impl_Bottle_impl_Bottle__impl_StrayIn_1.A : Type := (List (Int × Int))
abbrev slices_IndexFunc_impl_Bottle_impl_Bottle__impl_StrayIn_1.B : Type := Int
def slices_IndexFunc_impl_Bottle_impl_Bottle__impl_StrayIn_1.dec (avs : List AV) : Option (List (Int × Int)) := match avs with
  | [a0, a1] => (a0.toList (.st (.pair (.int .u8) (.int .i16)))).bind fun x0 => (a1.toFn 57).bind fun q1 => match q1 with | [] => some x0 | _ => none
  | _ => none
theorem slices_IndexFunc_impl_Bottle_impl_Bottle__impl_StrayIn_1.dec_eq {avs : List AV} {x : (List (Int × Int))} (h : slices_IndexFunc_impl_Bottle_impl_Bottle__impl_StrayIn_1.dec avs = some x) : ∃ e0, avs = [.obj false ⟨e0, (.st (.pair (.int .u8) (.int .i16))), x⟩, .fn 57 []] := by
  unfold slices_IndexFunc_impl_Bottle_impl_Bottle__impl_StrayIn_1.dec at h
  split at h
  · obtain ⟨x0, hx0, hh1⟩ := Option.bind_eq_some_iff.1 h
    obtain ⟨e0, rfl⟩ := toList_eq hx0
    obtain ⟨q1, hq1, hh2⟩ := Option.bind_eq_some_iff.1 hh1
    obtain ⟨w1, rfl, rfl⟩ := toFn_eq hq1
    match w1, hh2 with
    | [], hh3 =>
    obtain rfl := Option.some.inj hh3
    exact ⟨e0, rfl⟩
  · cases h
def slices_IndexFunc_impl_Bottle_impl_Bottle__impl_StrayIn_1.enc (e : TypeId) (r : Int) : Res := ⟨[.val (.int .i64) r], []⟩
noncomputable def slices_IndexFunc_impl_Bottle_impl_Bottle__impl_StrayIn_1.sig (f : slices_IndexFunc_impl_Bottle_impl_Bottle__impl_StrayIn_1.A → Option slices_IndexFunc_impl_Bottle_impl_Bottle__impl_StrayIn_1.B) : Sig := mkSig [] slices_IndexFunc_impl_Bottle_impl_Bottle__impl_StrayIn_1.dec f fun avs r => slices_IndexFunc_impl_Bottle_impl_Bottle__impl_StrayIn_1.enc 0 r
abbrev slices_IndexFunc_impl_Bottle_impl_Bottle__impl_StrayIn_1.S (f : slices_IndexFunc_impl_Bottle_impl_Bottle__impl_StrayIn_1.A → Option slices_IndexFunc_impl_Bottle_impl_Bottle__impl_StrayIn_1.B) : Prop := Sound Try.pinned.checked.prog 106 (slices_IndexFunc_impl_Bottle_impl_Bottle__impl_StrayIn_1.sig f)
abbrev slices_ContainsFunc_impl_Bottle_impl_Bottle__impl_StrayIn_1.A : Type := (List (Int × Int))
abbrev slices_ContainsFunc_impl_Bottle_impl_Bottle__impl_StrayIn_1.B : Type := Bool
def slices_ContainsFunc_impl_Bottle_impl_Bottle__impl_StrayIn_1.dec (avs : List AV) : Option (List (Int × Int)) := match avs with
  | [a0, a1] => (a0.toList (.st (.pair (.int .u8) (.int .i16)))).bind fun x0 => (a1.toFn 57).bind fun q1 => match q1 with | [] => some x0 | _ => none
  | _ => none
theorem slices_ContainsFunc_impl_Bottle_impl_Bottle__impl_StrayIn_1.dec_eq {avs : List AV} {x : (List (Int × Int))} (h : slices_ContainsFunc_impl_Bottle_impl_Bottle__impl_StrayIn_1.dec avs = some x) : ∃ e0, avs = [.obj false ⟨e0, (.st (.pair (.int .u8) (.int .i16))), x⟩, .fn 57 []] := by
  unfold slices_ContainsFunc_impl_Bottle_impl_Bottle__impl_StrayIn_1.dec at h
  split at h
  · obtain ⟨x0, hx0, hh1⟩ := Option.bind_eq_some_iff.1 h
    obtain ⟨e0, rfl⟩ := toList_eq hx0
    obtain ⟨q1, hq1, hh2⟩ := Option.bind_eq_some_iff.1 hh1
    obtain ⟨w1, rfl, rfl⟩ := toFn_eq hq1
    match w1, hh2 with
    | [], hh3 =>
    obtain rfl := Option.some.inj hh3
    exact ⟨e0, rfl⟩
  · cases h
def slices_ContainsFunc_impl_Bottle_impl_Bottle__impl_StrayIn_1.enc (e : TypeId) (r : Bool) : Res := ⟨[.val .bool r], []⟩
noncomputable def slices_ContainsFunc_impl_Bottle_impl_Bottle__impl_StrayIn_1.sig (f : slices_ContainsFunc_impl_Bottle_impl_Bottle__impl_StrayIn_1.A → Option slices_ContainsFunc_impl_Bottle_impl_Bottle__impl_StrayIn_1.B) : Sig := mkSig [] slices_ContainsFunc_impl_Bottle_impl_Bottle__impl_StrayIn_1.dec f fun avs r => slices_ContainsFunc_impl_Bottle_impl_Bottle__impl_StrayIn_1.enc 0 r
abbrev slices_ContainsFunc_impl_Bottle_impl_Bottle__impl_StrayIn_1.S (f : slices_ContainsFunc_impl_Bottle_impl_Bottle__impl_StrayIn_1.A → Option slices_ContainsFunc_impl_Bottle_impl_Bottle__impl_StrayIn_1.B) : Prop := Sound Try.pinned.checked.prog 56 (slices_ContainsFunc_impl_Bottle_impl_Bottle__impl_StrayIn_1.sig f)
abbrev impl_ValidCrate_1.A : Type := (Int × Int)
abbrev impl_ValidCrate_1.B : Type := Bool
def impl_ValidCrate_1.dec (avs : List AV) : Option (Int × Int) := match avs with
  | [a0] => (a0.toVal (.st (.pair (.int .u8) (.int .i16)))).bind fun x0 => some x0
  | _ => none
theorem impl_ValidCrate_1.dec_eq {avs : List AV} {x : (Int × Int)} (h : impl_ValidCrate_1.dec avs = some x) : avs = [.val (.st (.pair (.int .u8) (.int .i16))) x] := by
  unfold impl_ValidCrate_1.dec at h
  split at h
  · obtain ⟨x0, hx0, hh1⟩ := Option.bind_eq_some_iff.1 h
    obtain rfl := toVal_eq hx0
    obtain rfl := Option.some.inj hh1
    exact rfl
  · cases h
def impl_ValidCrate_1.enc (e : TypeId) (r : Bool) : Res := ⟨[.val .bool r], []⟩
noncomputable def impl_ValidCrate_1.sig (f : impl_ValidCrate_1.A → Option impl_ValidCrate_1.B) : Sig := mkSig [] impl_ValidCrate_1.dec f fun avs r => impl_ValidCrate_1.enc 0 r
abbrev impl_ValidCrate_1.S (f : impl_ValidCrate_1.A → Option impl_ValidCrate_1.B) : Prop := Sound Try.pinned.checked.prog 111 (impl_ValidCrate_1.sig f)
abbrev slices_IndexFunc_impl_Bottle_impl_Bottle__impl_ValidCrate_1.A : Type := (List (Int × Int))
abbrev slices_IndexFunc_impl_Bottle_impl_Bottle__impl_ValidCrate_1.B : Type := Int
def slices_IndexFunc_impl_Bottle_impl_Bottle__impl_ValidCrate_1.dec (avs : List AV) : Option (List (Int × Int)) := match avs with
  | [a0, a1] => (a0.toList (.st (.pair (.int .u8) (.int .i16)))).bind fun x0 => (a1.toFn 111).bind fun q1 => match q1 with | [] => some x0 | _ => none
  | _ => none
theorem slices_IndexFunc_impl_Bottle_impl_Bottle__impl_ValidCrate_1.dec_eq {avs : List AV} {x : (List (Int × Int))} (h : slices_IndexFunc_impl_Bottle_impl_Bottle__impl_ValidCrate_1.dec avs = some x) : ∃ e0, avs = [.obj false ⟨e0, (.st (.pair (.int .u8) (.int .i16))), x⟩, .fn 111 []] := by
  unfold slices_IndexFunc_impl_Bottle_impl_Bottle__impl_ValidCrate_1.dec at h
  split at h
  · obtain ⟨x0, hx0, hh1⟩ := Option.bind_eq_some_iff.1 h
    obtain ⟨e0, rfl⟩ := toList_eq hx0
    obtain ⟨q1, hq1, hh2⟩ := Option.bind_eq_some_iff.1 hh1
    obtain ⟨w1, rfl, rfl⟩ := toFn_eq hq1
    match w1, hh2 with
    | [], hh3 =>
    obtain rfl := Option.some.inj hh3
    exact ⟨e0, rfl⟩
  · cases h
def slices_IndexFunc_impl_Bottle_impl_Bottle__impl_ValidCrate_1.enc (e : TypeId) (r : Int) : Res := ⟨[.val (.int .i64) r], []⟩
noncomputable def slices_IndexFunc_impl_Bottle_impl_Bottle__impl_ValidCrate_1.sig (f : slices_IndexFunc_impl_Bottle_impl_Bottle__impl_ValidCrate_1.A → Option slices_IndexFunc_impl_Bottle_impl_Bottle__impl_ValidCrate_1.B) : Sig := mkSig [] slices_IndexFunc_impl_Bottle_impl_Bottle__impl_ValidCrate_1.dec f fun avs r => slices_IndexFunc_impl_Bottle_impl_Bottle__impl_ValidCrate_1.enc 0 r
abbrev slices_IndexFunc_impl_Bottle_impl_Bottle__impl_ValidCrate_1.S (f : slices_IndexFunc_impl_Bottle_impl_Bottle__impl_ValidCrate_1.A → Option slices_IndexFunc_impl_Bottle_impl_Bottle__impl_ValidCrate_1.B) : Prop := Sound Try.pinned.checked.prog 106 (slices_IndexFunc_impl_Bottle_impl_Bottle__impl_ValidCrate_1.sig f)
abbrev slices_ContainsFunc_impl_Bottle_impl_Bottle__impl_ValidCrate_1.A : Type := (List (Int × Int))
abbrev slices_ContainsFunc_impl_Bottle_impl_Bottle__impl_ValidCrate_1.B : Type := Bool
def slices_ContainsFunc_impl_Bottle_impl_Bottle__impl_ValidCrate_1.dec (avs : List AV) : Option (List (Int × Int)) := match avs with
  | [a0, a1] => (a0.toList (.st (.pair (.int .u8) (.int .i16)))).bind fun x0 => (a1.toFn 111).bind fun q1 => match q1 with | [] => some x0 | _ => none
  | _ => none
theorem slices_ContainsFunc_impl_Bottle_impl_Bottle__impl_ValidCrate_1.dec_eq {avs : List AV} {x : (List (Int × Int))} (h : slices_ContainsFunc_impl_Bottle_impl_Bottle__impl_ValidCrate_1.dec avs = some x) : ∃ e0, avs = [.obj false ⟨e0, (.st (.pair (.int .u8) (.int .i16))), x⟩, .fn 111 []] := by
  unfold slices_ContainsFunc_impl_Bottle_impl_Bottle__impl_ValidCrate_1.dec at h
  split at h
  · obtain ⟨x0, hx0, hh1⟩ := Option.bind_eq_some_iff.1 h
    obtain ⟨e0, rfl⟩ := toList_eq hx0
    obtain ⟨q1, hq1, hh2⟩ := Option.bind_eq_some_iff.1 hh1
    obtain ⟨w1, rfl, rfl⟩ := toFn_eq hq1
    match w1, hh2 with
    | [], hh3 =>
    obtain rfl := Option.some.inj hh3
    exact ⟨e0, rfl⟩
  · cases h
def slices_ContainsFunc_impl_Bottle_impl_Bottle__impl_ValidCrate_1.enc (e : TypeId) (r : Bool) : Res := ⟨[.val .bool r], []⟩
noncomputable def slices_ContainsFunc_impl_Bottle_impl_Bottle__impl_ValidCrate_1.sig (f : slices_ContainsFunc_impl_Bottle_impl_Bottle__impl_ValidCrate_1.A → Option slices_ContainsFunc_impl_Bottle_impl_Bottle__impl_ValidCrate_1.B) : Sig := mkSig [] slices_ContainsFunc_impl_Bottle_impl_Bottle__impl_ValidCrate_1.dec f fun avs r => slices_ContainsFunc_impl_Bottle_impl_Bottle__impl_ValidCrate_1.enc 0 r
abbrev slices_ContainsFunc_impl_Bottle_impl_Bottle__impl_ValidCrate_1.S (f : slices_ContainsFunc_impl_Bottle_impl_Bottle__impl_ValidCrate_1.A → Option slices_ContainsFunc_impl_Bottle_impl_Bottle__impl_ValidCrate_1.B) : Prop := Sound Try.pinned.checked.prog 56 (slices_ContainsFunc_impl_Bottle_impl_Bottle__impl_ValidCrate_1.sig f)
abbrev impl_ValidCrate.A : Type := (List (Int × Int))
abbrev impl_ValidCrate.B : Type := Bool
def impl_ValidCrate.dec (avs : List AV) : Option (List (Int × Int)) := match avs with
  | [a0] => (a0.toVal (.arr 12 (.st (.pair (.int .u8) (.int .i16))))).bind fun x0 => some x0
  | _ => none
theorem impl_ValidCrate.dec_eq {avs : List AV} {x : (List (Int × Int))} (h : impl_ValidCrate.dec avs = some x) : avs = [.val (.arr 12 (.st (.pair (.int .u8) (.int .i16)))) x] := by
  unfold impl_ValidCrate.dec at h
  split at h
  · obtain ⟨x0, hx0, hh1⟩ := Option.bind_eq_some_iff.1 h
    obtain rfl := toVal_eq hx0
    obtain rfl := Option.some.inj hh1
    exact rfl
  · cases h
def impl_ValidCrate.enc (e : TypeId) (r : Bool) : Res := ⟨[.val .bool r], []⟩
noncomputable def impl_ValidCrate.sig (f : impl_ValidCrate.A → Option impl_ValidCrate.B) : Sig := mkSig [] impl_ValidCrate.dec f fun avs r => impl_ValidCrate.enc 0 r
abbrev impl_ValidCrate.S (f : impl_ValidCrate.A → Option impl_ValidCrate.B) : Prop := Sound Try.pinned.checked.prog 66 (impl_ValidCrate.sig f)
abbrev impl_ValidStack_1.A : Type := (List (Int × Int))
abbrev impl_ValidStack_1.B : Type := Bool
def impl_ValidStack_1.dec (avs : List AV) : Option (List (Int × Int)) := match avs with
  | [a0] => (a0.toVal (.arr 12 (.st (.pair (.int .u8) (.int .i16))))).bind fun x0 => some x0
  | _ => none
theorem impl_ValidStack_1.dec_eq {avs : List AV} {x : (List (Int × Int))} (h : impl_ValidStack_1.dec avs = some x) : avs = [.val (.arr 12 (.st (.pair (.int .u8) (.int .i16)))) x] := by
  unfold impl_ValidStack_1.dec at h
  split at h
  · obtain ⟨x0, hx0, hh1⟩ := Option.bind_eq_some_iff.1 h
    obtain rfl := toVal_eq hx0
    obtain rfl := Option.some.inj hh1
    exact rfl
  · cases h
def impl_ValidStack_1.enc (e : TypeId) (r : Bool) : Res := ⟨[.val .bool r], []⟩
noncomputable def impl_ValidStack_1.sig (f : impl_ValidStack_1.A → Option impl_ValidStack_1.B) : Sig := mkSig [] impl_ValidStack_1.dec f fun avs r => impl_ValidStack_1.enc 0 r
abbrev impl_ValidStack_1.S (f : impl_ValidStack_1.A → Option impl_ValidStack_1.B) : Prop := Sound Try.pinned.checked.prog 109 (impl_ValidStack_1.sig f)
abbrev slices_IndexFunc_impl_Crate_impl_Crate__impl_ValidStack_1.A : Type := (List (List (Int × Int)))
abbrev slices_IndexFunc_impl_Crate_impl_Crate__impl_ValidStack_1.B : Type := Int
def slices_IndexFunc_impl_Crate_impl_Crate__impl_ValidStack_1.dec (avs : List AV) : Option (List (List (Int × Int))) := match avs with
  | [a0, a1] => (a0.toList (.arr 12 (.st (.pair (.int .u8) (.int .i16))))).bind fun x0 => (a1.toFn 109).bind fun q1 => match q1 with | [] => some x0 | _ => none
  | _ => none
theorem slices_IndexFunc_impl_Crate_impl_Crate__impl_ValidStack_1.dec_eq {avs : List AV} {x : (List (List (Int × Int)))} (h : slices_IndexFunc_impl_Crate_impl_Crate__impl_ValidStack_1.dec avs = some x) : ∃ e0, avs = [.obj false ⟨e0, (.arr 12 (.st (.pair (.int .u8) (.int .i16)))), x⟩, .fn 109 []] := by
  unfold slices_IndexFunc_impl_Crate_impl_Crate__impl_ValidStack_1.dec at h
  split at h
  · obtain ⟨x0, hx0, hh1⟩ := Option.bind_eq_some_iff.1 h
    obtain ⟨e0, rfl⟩ := toList_eq hx0
    obtain ⟨q1, hq1, hh2⟩ := Option.bind_eq_some_iff.1 hh1
    obtain ⟨w1, rfl, rfl⟩ := toFn_eq hq1
    match w1, hh2 with
    | [], hh3 =>
    obtain rfl := Option.some.inj hh3
    exact ⟨e0, rfl⟩
  · cases h
def slices_IndexFunc_impl_Crate_impl_Crate__impl_ValidStack_1.enc (e : TypeId) (r : Int) : Res := ⟨[.val (.int .i64) r], []⟩
noncomputable def slices_IndexFunc_impl_Crate_impl_Crate__impl_ValidStack_1.sig (f : slices_IndexFunc_impl_Crate_impl_Crate__impl_ValidStack_1.A → Option slices_IndexFunc_impl_Crate_impl_Crate__impl_ValidStack_1.B) : Sig := mkSig [] slices_IndexFunc_impl_Crate_impl_Crate__impl_ValidStack_1.dec f fun avs r => slices_IndexFunc_impl_Crate_impl_Crate__impl_ValidStack_1.enc 0 r
abbrev slices_IndexFunc_impl_Crate_impl_Crate__impl_ValidStack_1.S (f : slices_IndexFunc_impl_Crate_impl_Crate__impl_ValidStack_1.A → Option slices_IndexFunc_impl_Crate_impl_Crate__impl_ValidStack_1.B) : Prop := Sound Try.pinned.checked.prog 129 (slices_IndexFunc_impl_Crate_impl_Crate__impl_ValidStack_1.sig f)
abbrev slices_ContainsFunc_impl_Crate_impl_Crate__impl_ValidStack_1.A : Type := (List (List (Int × Int)))
abbrev slices_ContainsFunc_impl_Crate_impl_Crate__impl_ValidStack_1.B : Type := Bool
def slices_ContainsFunc_impl_Crate_impl_Crate__impl_ValidStack_1.dec (avs : List AV) : Option (List (List (Int × Int))) := match avs with
  | [a0, a1] => (a0.toList (.arr 12 (.st (.pair (.int .u8) (.int .i16))))).bind fun x0 => (a1.toFn 109).bind fun q1 => match q1 with | [] => some x0 | _ => none
  | _ => none
theorem slices_ContainsFunc_impl_Crate_impl_Crate__impl_ValidStack_1.dec_eq {avs : List AV} {x : (List (List (Int × Int)))} (h : slices_ContainsFunc_impl_Crate_impl_Crate__impl_ValidStack_1.dec avs = some x) : ∃ e0, avs = [.obj false ⟨e0, (.arr 12 (.st (.pair (.int .u8) (.int .i16)))), x⟩, .fn 109 []] := by
  unfold slices_ContainsFunc_impl_Crate_impl_Crate__impl_ValidStack_1.dec at h
  split at h
  · obtain ⟨x0, hx0, hh1⟩ := Option.bind_eq_some_iff.1 h
    obtain ⟨e0, rfl⟩ := toList_eq hx0
    obtain ⟨q1, hq1, hh2⟩ := Option.bind_eq_some_iff.1 hh1
    obtain ⟨w1, rfl, rfl⟩ := toFn_eq hq1
    match w1, hh2 with
    | [], hh3 =>
    obtain rfl := Option.some.inj hh3
    exact ⟨e0, rfl⟩
  · cases h
def slices_ContainsFunc_impl_Crate_impl_Crate__impl_ValidStack_1.enc (e : TypeId) (r : Bool) : Res := ⟨[.val .bool r], []⟩
noncomputable def slices_ContainsFunc_impl_Crate_impl_Crate__impl_ValidStack_1.sig (f : slices_ContainsFunc_impl_Crate_impl_Crate__impl_ValidStack_1.A → Option slices_ContainsFunc_impl_Crate_impl_Crate__impl_ValidStack_1.B) : Sig := mkSig [] slices_ContainsFunc_impl_Crate_impl_Crate__impl_ValidStack_1.dec f fun avs r => slices_ContainsFunc_impl_Crate_impl_Crate__impl_ValidStack_1.enc 0 r
abbrev slices_ContainsFunc_impl_Crate_impl_Crate__impl_ValidStack_1.S (f : slices_ContainsFunc_impl_Crate_impl_Crate__impl_ValidStack_1.A → Option slices_ContainsFunc_impl_Crate_impl_Crate__impl_ValidStack_1.B) : Prop := Sound Try.pinned.checked.prog 108 (slices_ContainsFunc_impl_Crate_impl_Crate__impl_ValidStack_1.sig f)
abbrev impl_ValidStack.A : Type := (List (List (Int × Int)))
abbrev impl_ValidStack.B : Type := Bool
def impl_ValidStack.dec (avs : List AV) : Option (List (List (Int × Int))) := match avs with
  | [a0] => (a0.toList (.arr 12 (.st (.pair (.int .u8) (.int .i16))))).bind fun x0 => some x0
  | _ => none
theorem impl_ValidStack.dec_eq {avs : List AV} {x : (List (List (Int × Int)))} (h : impl_ValidStack.dec avs = some x) : ∃ e0, avs = [.obj false ⟨e0, (.arr 12 (.st (.pair (.int .u8) (.int .i16)))), x⟩] := by
  unfold impl_ValidStack.dec at h
  split at h
  · obtain ⟨x0, hx0, hh1⟩ := Option.bind_eq_some_iff.1 h
    obtain ⟨e0, rfl⟩ := toList_eq hx0
    obtain rfl := Option.some.inj hh1
    exact ⟨e0, rfl⟩
  · cases h
def impl_ValidStack.enc (e : TypeId) (r : Bool) : Res := ⟨[.val .bool r], []⟩
noncomputable def impl_ValidStack.sig (f : impl_ValidStack.A → Option impl_ValidStack.B) : Sig := mkSig [] impl_ValidStack.dec f fun avs r => impl_ValidStack.enc 0 r
abbrev impl_ValidStack.S (f : impl_ValidStack.A → Option impl_ValidStack.B) : Prop := Sound Try.pinned.checked.prog 60 (impl_ValidStack.sig f)
abbrev impl_codeOf.A : Type := (Bool × Bool)
abbrev impl_codeOf.B : Type := Int
def impl_codeOf.dec (avs : List AV) : Option (Bool × Bool) := match avs with
  | [a0, a1] => (a0.toVal .bool).bind fun x0 => (a1.toVal .bool).bind fun x1 => some (x0, x1)
  | _ => none
theorem impl_codeOf.dec_eq {avs : List AV} {x : (Bool × Bool)} (h : impl_codeOf.dec avs = some x) : avs = [.val .bool x.1, .val .bool x.2] := by
  unfold impl_codeOf.dec at h
  split at h
  · obtain ⟨x0, hx0, hh1⟩ := Option.bind_eq_some_iff.1 h
    obtain rfl := toVal_eq hx0
    obtain ⟨x1, hx1, hh2⟩ := Option.bind_eq_some_iff.1 hh1
    obtain rfl := toVal_eq hx1
    obtain rfl := Option.some.inj hh2
    exact rfl
  · cases h
def impl_codeOf.enc (e : TypeId) (r : Int) : Res := ⟨[.val (.int .i64) r], []⟩
noncomputable def impl_codeOf.sig (f : impl_codeOf.A → Option impl_codeOf.B) : Sig := mkSig [] impl_codeOf.dec f fun avs r => impl_codeOf.enc 0 r
abbrev impl_codeOf.S (f : impl_codeOf.A → Option impl_codeOf.B) : Prop := Sound Try.pinned.checked.prog 59 (impl_codeOf.sig f)
abbrev slices_Clone_impl_Bottle_impl_Bottle.A : Type := (List (Int × Int))
abbrev slices_Clone_impl_Bottle_impl_Bottle.B : Type := (List (Int × Int))
def slices_Clone_impl_Bottle_impl_Bottle.dec (avs : List AV) : Option (List (Int × Int)) := match avs with
  | [a0] => (a0.toList (.st (.pair (.int .u8) (.int .i16)))).bind fun x0 => some x0
  | _ => none
theorem slices_Clone_impl_Bottle_impl_Bottle.dec_eq {avs : List AV} {x : (List (Int × Int))} (h : slices_Clone_impl_Bottle_impl_Bottle.dec avs = some x) : ∃ e0, avs = [.obj false ⟨e0, (.st (.pair (.int .u8) (.int .i16))), x⟩] := by
  unfold slices_Clone_impl_Bottle_impl_Bottle.dec at h
  split at h
  · obtain ⟨x0, hx0, hh1⟩ := Option.bind_eq_some_iff.1 h
    obtain ⟨e0, rfl⟩ := toList_eq hx0
    obtain rfl := Option.some.inj hh1
    exact ⟨e0, rfl⟩
  · cases h
def slices_Clone_impl_Bottle_impl_Bottle.enc (e : TypeId) (r : (List (Int × Int))) : Res := ⟨[.own ⟨41, (.st (.pair (.int .u8) (.int .i16))), r⟩], []⟩
noncomputable def slices_Clone_impl_Bottle_impl_Bottle.sig (f : slices_Clone_impl_Bottle_impl_Bottle.A → Option slices_Clone_impl_Bottle_impl_Bottle.B) : Sig := mkSig [] slices_Clone_impl_Bottle_impl_Bottle.dec f fun avs r => slices_Clone_impl_Bottle_impl_Bottle.enc 0 r
abbrev slices_Clone_impl_Bottle_impl_Bottle.S (f : slices_Clone_impl_Bottle_impl_Bottle.A → Option slices_Clone_impl_Bottle_impl_Bottle.B) : Prop := Sound Try.pinned.checked.prog 95 (slices_Clone_impl_Bottle_impl_Bottle.sig f)
abbrev impl_Crate_bottles_1.A : Type := (Int × Int)
abbrev impl_Crate_bottles_1.B : Type := Bool
def impl_Crate_bottles_1.dec (avs : List AV) : Option (Int × Int) := match avs with
  | [a0] => (a0.toVal (.st (.pair (.int .u8) (.int .i16)))).bind fun x0 => some x0
  | _ => none
theorem impl_Crate_bottles_1.dec_eq {avs : List AV} {x : (Int × Int)} (h : impl_Crate_bottles_1.dec avs = some x) : avs = [.val (.st (.pair (.int .u8) (.int .i16))) x] := by
  unfold impl_Crate_bottles_1.dec at h
  split at h
  · obtain ⟨x0, hx0, hh1⟩ := Option.bind_eq_some_iff.1 h
    obtain rfl := toVal_eq hx0
    obtain rfl := Option.some.inj hh1
    exact rfl
  · cases h
def impl_Crate_bottles_1.enc (e : TypeId) (r : Bool) : Res := ⟨[.val .bool r], []⟩
noncomputable def impl_Crate_bottles_1.sig (f : impl_Crate_bottles_1.A → Option impl_Crate_bottles_1.B) : Sig := mkSig [] impl_Crate_bottles_1.dec f fun avs r => impl_Crate_bottles_1.enc 0 r
abbrev impl_Crate_bottles_1.S (f : impl_Crate_bottles_1.A → Option impl_Crate_bottles_1.B) : Prop := Sound Try.pinned.checked.prog 110 (impl_Crate_bottles_1.sig f)
abbrev slices_IndexFunc_impl_Bottle_impl_Bottle__impl_Crate_bottles_1.A : Type := (List (Int × Int))
abbrev slices_IndexFunc_impl_Bottle_impl_Bottle__impl_Crate_bottles_1.B : Type := Int
def slices_IndexFunc_impl_Bottle_impl_Bottle__impl_Crate_bottles_1.dec (avs : List AV) : Option (List (Int × Int)) := match avs with
  | [a0, a1] => (a0.toList (.st (.pair (.int .u8) (.int .i16)))).bind fun x0 => (a1.toFn 110).bind fun q1 => match q1 with | [] => some x0 | _ => none
  | _ => none
theorem slices_IndexFunc_impl_Bottle_impl_Bottle__impl_Crate_bottles_1.dec_eq {avs : List AV} {x : (List (Int × Int))} (h : slices_IndexFunc_impl_Bottle_impl_Bottle__impl_Crate_bottles_1.dec avs = some x) : ∃ e0, avs = [.obj false ⟨e0, (.st (.pair (.int .u8) (.int .i16))), x⟩, .fn 110 []] := by
  unfold slices_IndexFunc_impl_Bottle_impl_Bottle__impl_Crate_bottles_1.dec at h
  split at h
  · obtain ⟨x0, hx0, hh1⟩ := Option.bind_eq_some_iff.1 h
    obtain ⟨e0, rfl⟩ := toList_eq hx0
    obtain ⟨q1, hq1, hh2⟩ := Option.bind_eq_some_iff.1 hh1
    obtain ⟨w1, rfl, rfl⟩ := toFn_eq hq1
    match w1, hh2 with
    | [], hh3 =>
    obtain rfl := Option.some.inj hh3
    exact ⟨e0, rfl⟩
  · cases h
def slices_IndexFunc_impl_Bottle_impl_Bottle__impl_Crate_bottles_1.enc (e : TypeId) (r : Int) : Res := ⟨[.val (.int .i64) r], []⟩
noncomputable def slices_IndexFunc_impl_Bottle_impl_Bottle__impl_Crate_bottles_1.sig (f : slices_IndexFunc_impl_Bottle_impl_Bottle__impl_Crate_bottles_1.A → Option slices_IndexFunc_impl_Bottle_impl_Bottle__impl_Crate_bottles_1.B) : Sig := mkSig [] slices_IndexFunc_impl_Bottle_impl_Bottle__impl_Crate_bottles_1.dec f fun avs r => slices_IndexFunc_impl_Bottle_impl_Bottle__impl_Crate_bottles_1.enc 0 r
abbrev slices_IndexFunc_impl_Bottle_impl_Bottle__impl_Crate_bottles_1.S (f : slices_IndexFunc_impl_Bottle_impl_Bottle__impl_Crate_bottles_1.A → Option slices_IndexFunc_impl_Bottle_impl_Bottle__impl_Crate_bottles_1.B) : Prop := Sound Try.pinned.checked.prog 106 (slices_IndexFunc_impl_Bottle_impl_Bottle__impl_Crate_bottles_1.sig f)
abbrev slices_DeleteFunc_impl_Bottle_impl_Bottle__impl_Crate_bottles_1.A : Type := (List (Int × Int))
abbrev slices_DeleteFunc_impl_Bottle_impl_Bottle__impl_Crate_bottles_1.B : Type := ((Option (Nat × Nat)) × (List (Int × Int)))
def slices_DeleteFunc_impl_Bottle_impl_Bottle__impl_Crate_bottles_1.dec (avs : List AV) : Option (List (Int × Int)) := match avs with
  | [a0, a1] => (a0.toList (.st (.pair (.int .u8) (.int .i16)))).bind fun x0 => (a1.toFn 110).bind fun q1 => match q1 with | [] => some x0 | _ => none
  | _ => none
theorem slices_DeleteFunc_impl_Bottle_impl_Bottle__impl_Crate_bottles_1.dec_eq {avs : List AV} {x : (List (Int × Int))} (h : slices_DeleteFunc_impl_Bottle_impl_Bottle__impl_Crate_bottles_1.dec avs = some x) : ∃ e0, avs = [.obj false ⟨e0, (.st (.pair (.int .u8) (.int .i16))), x⟩, .fn 110 []] := by
  unfold slices_DeleteFunc_impl_Bottle_impl_Bottle__impl_Crate_bottles_1.dec at h
  split at h
  · obtain ⟨x0, hx0, hh1⟩ := Option.bind_eq_some_iff.1 h
    obtain ⟨e0, rfl⟩ := toList_eq hx0
    obtain ⟨q1, hq1, hh2⟩ := Option.bind_eq_some_iff.1 hh1
    obtain ⟨w1, rfl, rfl⟩ := toFn_eq hq1
    match w1, hh2 with
    | [], hh3 =>
    obtain rfl := Option.some.inj hh3
    exact ⟨e0, rfl⟩
  · cases h
def slices_DeleteFunc_impl_Bottle_impl_Bottle__impl_Crate_bottles_1.enc (e : TypeId) (r : ((Option (Nat × Nat)) × (List (Int × Int)))) : Res := ⟨[.al 0 r.1], [⟨e, (.st (.pair (.int .u8) (.int .i16))), r.2⟩]⟩
noncomputable def slices_DeleteFunc_impl_Bottle_impl_Bottle__impl_Crate_bottles_1.sig (f : slices_DeleteFunc_impl_Bottle_impl_Bottle__impl_Crate_bottles_1.A → Option slices_DeleteFunc_impl_Bottle_impl_Bottle__impl_Crate_bottles_1.B) : Sig := mkSig [0] slices_DeleteFunc_impl_Bottle_impl_Bottle__impl_Crate_bottles_1.dec f fun avs r => slices_DeleteFunc_impl_Bottle_impl_Bottle__impl_Crate_bottles_1.enc (avs.getD 0 (.val .bool false)).elem r
abbrev slices_DeleteFunc_impl_Bottle_impl_Bottle__impl_Crate_bottles_1.S (f : slices_DeleteFunc_impl_Bottle_impl_Bottle__impl_Crate_bottles_1.A → Option slices_DeleteFunc_impl_Bottle_impl_Bottle__impl_Crate_bottles_1.B) : Prop := Sound Try.pinned.checked.prog 94 (slices_DeleteFunc_impl_Bottle_impl_Bottle__impl_Crate_bottles_1.sig f)
abbrev impl_Crate_bottles.A : Type := (List (Int × Int))
abbrev impl_Crate_bottles.B : Type := (List (Int × Int))
def impl_Crate_bottles.dec (avs : List AV) : Option (List (Int × Int)) := match avs with
  | [a0] => (a0.toVal (.arr 12 (.st (.pair (.int .u8) (.int .i16))))).bind fun x0 => some x0
  | _ => none
theorem impl_Crate_bottles.dec_eq {avs : List AV} {x : (List (Int × Int))} (h : impl_Crate_bottles.dec avs = some x) : avs = [.val (.arr 12 (.st (.pair (.int .u8) (.int .i16)))) x] := by
  unfold impl_Crate_bottles.dec at h
  split at h
  · obtain ⟨x0, hx0, hh1⟩ := Option.bind_eq_some_iff.1 h
    obtain rfl := toVal_eq hx0
    obtain rfl := Option.some.inj hh1
    exact rfl
  · cases h
def impl_Crate_bottles.enc (e : TypeId) (r : (List (Int × Int))) : Res := ⟨[.own ⟨41, (.st (.pair (.int .u8) (.int .i16))), r⟩], []⟩
noncomputable def impl_Crate_bottles.sig (f : impl_Crate_bottles.A → Option impl_Crate_bottles.B) : Sig := mkSig [] impl_Crate_bottles.dec f fun avs r => impl_Crate_bottles.enc 0 r
abbrev impl_Crate_bottles.S (f : impl_Crate_bottles.A → Option impl_Crate_bottles.B) : Prop := Sound Try.pinned.checked.prog 61 (impl_Crate_bottles.sig f)
abbrev impl_countOf.A : Type := ((List (List (Int × Int))) × (Int × Int))
abbrev impl_countOf.B : Type := Int
def impl_countOf.dec (avs : List AV) : Option ((List (List (Int × Int))) × (Int × Int)) := match avs with
  | [a0, a1] => (a0.toList (.arr 12 (.st (.pair (.int .u8) (.int .i16))))).bind fun x0 => (a1.toVal (.st (.pair (.int .u8) (.int .i16)))).bind fun x1 => some (x0, x1)
  | _ => none
theorem impl_countOf.dec_eq {avs : List AV} {x : ((List (List (Int × Int))) × (Int × Int))} (h : impl_countOf.dec avs = some x) : ∃ e0, avs = [.obj false ⟨e0, (.arr 12 (.st (.pair (.int .u8) (.int .i16)))), x.1⟩, .val (.st (.pair (.int .u8) (.int .i16))) x.2] := by
  unfold impl_countOf.dec at h
  split at h
  · obtain ⟨x0, hx0, hh1⟩ := Option.bind_eq_some_iff.1 h
    obtain ⟨e0, rfl⟩ := toList_eq hx0
    obtain ⟨x1, hx1, hh2⟩ := Option.bind_eq_some_iff.1 hh1
    obtain rfl := toVal_eq hx1
    obtain rfl := Option.some.inj hh2
    exact ⟨e0, rfl⟩
  · cases h
def impl_countOf.enc (e : TypeId) (r : Int) : Res := ⟨[.val (.int .i64) r], []⟩
noncomputable def impl_countOf.sig (f : impl_countOf.A → Option impl_countOf.B) : Sig := mkSig [] impl_countOf.dec f fun avs r => impl_countOf.enc 0 r
abbrev impl_countOf.S (f : impl_countOf.A → Option impl_countOf.B) : Prop := Sound Try.pinned.checked.prog 62 (impl_countOf.sig f)
abbrev impl_StrayIn.A : Type := ((List (List (Int × Int))) × (List (Int × Int)))
abbrev impl_StrayIn.B : Type := (Int × Int)
def impl_StrayIn.dec (avs : List AV) : Option ((List (List (Int × Int))) × (List (Int × Int))) := match avs with
  | [a0, a1] => (a0.toList (.arr 12 (.st (.pair (.int .u8) (.int .i16))))).bind fun x0 => (a1.toList (.st (.pair (.int .u8) (.int .i16)))).bind fun x1 => some (x0, x1)
  | _ => none
theorem impl_StrayIn.dec_eq {avs : List AV} {x : ((List (List (Int × Int))) × (List (Int × Int)))} (h : impl_StrayIn.dec avs = some x) : ∃ e0 e1, avs = [.obj false ⟨e0, (.arr 12 (.st (.pair (.int .u8) (.int .i16)))), x.1⟩, .obj false ⟨e1, (.st (.pair (.int .u8) (.int .i16))), x.2⟩] := by
  unfold impl_StrayIn.dec at h
  split at h
  · obtain ⟨x0, hx0, hh1⟩ := Option.bind_eq_some_iff.1 h
    obtain ⟨e0, rfl⟩ := toList_eq hx0
    obtain ⟨x1, hx1, hh2⟩ := Option.bind_eq_some_iff.1 hh1
    obtain ⟨e1, rfl⟩ := toList_eq hx1
    obtain rfl := Option.some.inj hh2
    exact ⟨e0, e1, rfl⟩
  · cases h
def impl_StrayIn.enc (e : TypeId) (r : (Int × Int)) : Res := ⟨[.val (.int .i64) r.1, .val (.int .i64) r.2], []⟩
noncomputable def impl_StrayIn.sig (f : impl_StrayIn.A → Option impl_StrayIn.B) : Sig := mkSig [] impl_StrayIn.dec f fun avs r => impl_StrayIn.enc 0 r
abbrev impl_StrayIn.S (f : impl_StrayIn.A → Option impl_StrayIn.B) : Prop := Sound Try.pinned.checked.prog 18 (impl_StrayIn.sig f)
abbrev laws_eqBottle.A : Type := ((Int × Int) × (Int × Int))
abbrev laws_eqBottle.B : Type := Bool
def laws_eqBottle.dec (avs : List AV) : Option ((Int × Int) × (Int × Int)) := match avs with
  | [a0, a1] => (a0.toVal (.st (.pair (.int .u8) (.int .i16)))).bind fun x0 => (a1.toVal (.st (.pair (.int .u8) (.int .i16)))).bind fun x1 => some (x0, x1)
  | _ => none
theorem laws_eqBottle.dec_eq {avs : List AV} {x : ((Int × Int) × (Int × Int))} (h : laws_eqBottle.dec avs = some x) : avs = [.val (.st (.pair (.int .u8) (.int .i16))) x.1, .val (.st (.pair (.int .u8) (.int .i16))) x.2] := by
  unfold laws_eqBottle.dec at h
  split at h
  · obtain ⟨x0, hx0, hh1⟩ := Option.bind_eq_some_iff.1 h
    obtain rfl := toVal_eq hx0
    obtain ⟨x1, hx1, hh2⟩ := Option.bind_eq_some_iff.1 hh1
    obtain rfl := toVal_eq hx1
    obtain rfl := Option.some.inj hh2
    exact rfl
  · cases h
def laws_eqBottle.enc (e : TypeId) (r : Bool) : Res := ⟨[.val .bool r], []⟩
noncomputable def laws_eqBottle.sig (f : laws_eqBottle.A → Option laws_eqBottle.B) : Sig := mkSig [] laws_eqBottle.dec f fun avs r => laws_eqBottle.enc 0 r
abbrev laws_eqBottle.S (f : laws_eqBottle.A → Option laws_eqBottle.B) : Prop := Sound Try.pinned.checked.prog 26 (laws_eqBottle.sig f)
abbrev laws_eqCrate.A : Type := ((List (Int × Int)) × (List (Int × Int)))
abbrev laws_eqCrate.B : Type := Bool
def laws_eqCrate.dec (avs : List AV) : Option ((List (Int × Int)) × (List (Int × Int))) := match avs with
  | [a0, a1] => (a0.toVal (.arr 12 (.st (.pair (.int .u8) (.int .i16))))).bind fun x0 => (a1.toVal (.arr 12 (.st (.pair (.int .u8) (.int .i16))))).bind fun x1 => some (x0, x1)
  | _ => none
theorem laws_eqCrate.dec_eq {avs : List AV} {x : ((List (Int × Int)) × (List (Int × Int)))} (h : laws_eqCrate.dec avs = some x) : avs = [.val (.arr 12 (.st (.pair (.int .u8) (.int .i16)))) x.1, .val (.arr 12 (.st (.pair (.int .u8) (.int .i16)))) x.2] := by
  unfold laws_eqCrate.dec at h
  split at h
  · obtain ⟨x0, hx0, hh1⟩ := Option.bind_eq_some_iff.1 h
    obtain rfl := toVal_eq hx0
    obtain ⟨x1, hx1, hh2⟩ := Option.bind_eq_some_iff.1 hh1
    obtain rfl := toVal_eq hx1
    obtain rfl := Option.some.inj hh2
    exact rfl
  · cases h
def laws_eqCrate.enc (e : TypeId) (r : Bool) : Res := ⟨[.val .bool r], []⟩
noncomputable def laws_eqCrate.sig (f : laws_eqCrate.A → Option laws_eqCrate.B) : Sig := mkSig [] laws_eqCrate.dec f fun avs r => laws_eqCrate.enc 0 r
abbrev laws_eqCrate.S (f : laws_eqCrate.A → Option laws_eqCrate.B) : Prop := Sound Try.pinned.checked.prog 63 (laws_eqCrate.sig f)
abbrev laws_eqCrateS.A : Type := ((List (List (Int × Int))) × (List (List (Int × Int))))
abbrev laws_eqCrateS.B : Type := Bool
def laws_eqCrateS.dec (avs : List AV) : Option ((List (List (Int × Int))) × (List (List (Int × Int)))) := match avs with
  | [a0, a1] => (a0.toList (.arr 12 (.st (.pair (.int .u8) (.int .i16))))).bind fun x0 => (a1.toList (.arr 12 (.st (.pair (.int .u8) (.int .i16))))).bind fun x1 => some (x0, x1)
  | _ => none
theorem laws_eqCrateS.dec_eq {avs : List AV} {x : ((List (List (Int × Int))) × (List (List (Int × Int))))} (h : laws_eqCrateS.dec avs = some x) : ∃ e0 e1, avs = [.obj false ⟨e0, (.arr 12 (.st (.pair (.int .u8) (.int .i16)))), x.1⟩, .obj false ⟨e1, (.arr 12 (.st (.pair (.int .u8) (.int .i16)))), x.2⟩] := by
  unfold laws_eqCrateS.dec at h
  split at h
  · obtain ⟨x0, hx0, hh1⟩ := Option.bind_eq_some_iff.1 h
    obtain ⟨e0, rfl⟩ := toList_eq hx0
    obtain ⟨x1, hx1, hh2⟩ := Option.bind_eq_some_iff.1 hh1
    obtain ⟨e1, rfl⟩ := toList_eq hx1
    obtain rfl := Option.some.inj hh2
    exact ⟨e0, e1, rfl⟩
  · cases h
def laws_eqCrateS.enc (e : TypeId) (r : Bool) : Res := ⟨[.val .bool r], []⟩
noncomputable def laws_eqCrateS.sig (f : laws_eqCrateS.A → Option laws_eqCrateS.B) : Sig := mkSig [] laws_eqCrateS.dec f fun avs r => laws_eqCrateS.enc 0 r
abbrev laws_eqCrateS.S (f : laws_eqCrateS.A → Option laws_eqCrateS.B) : Prop := Sound Try.pinned.checked.prog 19 (laws_eqCrateS.sig f)
abbrev laws_eqBottleS.A : Type := ((List (Int × Int)) × (List (Int × Int)))
abbrev laws_eqBottleS.B : Type := Bool
def laws_eqBottleS.dec (avs : List AV) : Option ((List (Int × Int)) × (List (Int × Int))) := match avs with
  | [a0, a1] => (a0.toList (.st (.pair (.int .u8) (.int .i16)))).bind fun x0 => (a1.toList (.st (.pair (.int .u8) (.int .i16)))).bind fun x1 => some (x0, x1)
  | _ => none
theorem laws_eqBottleS.dec_eq {avs : List AV} {x : ((List (Int × Int)) × (List (Int × Int)))} (h : laws_eqBottleS.dec avs = some x) : ∃ e0 e1, avs = [.obj false ⟨e0, (.st (.pair (.int .u8) (.int .i16))), x.1⟩, .obj false ⟨e1, (.st (.pair (.int .u8) (.int .i16))), x.2⟩] := by
  unfold laws_eqBottleS.dec at h
  split at h
  · obtain ⟨x0, hx0, hh1⟩ := Option.bind_eq_some_iff.1 h
    obtain ⟨e0, rfl⟩ := toList_eq hx0
    obtain ⟨x1, hx1, hh2⟩ := Option.bind_eq_some_iff.1 hh1
    obtain ⟨e1, rfl⟩ := toList_eq hx1
    obtain rfl := Option.some.inj hh2
    exact ⟨e0, e1, rfl⟩
  · cases h
def laws_eqBottleS.enc (e : TypeId) (r : Bool) : Res := ⟨[.val .bool r], []⟩
noncomputable def laws_eqBottleS.sig (f : laws_eqBottleS.A → Option laws_eqBottleS.B) : Sig := mkSig [] laws_eqBottleS.dec f fun avs r => laws_eqBottleS.enc 0 r
abbrev laws_eqBottleS.S (f : laws_eqBottleS.A → Option laws_eqBottleS.B) : Prop := Sound Try.pinned.checked.prog 20 (laws_eqBottleS.sig f)
abbrev laws_FnExactStrayIn.A : Type := ((List (List (Int × Int))) × (List (Int × Int)))
abbrev laws_FnExactStrayIn.B : Type := Bool
def laws_FnExactStrayIn.dec (avs : List AV) : Option ((List (List (Int × Int))) × (List (Int × Int))) := match avs with
  | [a0, a1] => (a0.toList (.arr 12 (.st (.pair (.int .u8) (.int .i16))))).bind fun x0 => (a1.toList (.st (.pair (.int .u8) (.int .i16)))).bind fun x1 => some (x0, x1)
  | _ => none
theorem laws_FnExactStrayIn.dec_eq {avs : List AV} {x : ((List (List (Int × Int))) × (List (Int × Int)))} (h : laws_FnExactStrayIn.dec avs = some x) : ∃ e0 e1, avs = [.obj false ⟨e0, (.arr 12 (.st (.pair (.int .u8) (.int .i16)))), x.1⟩, .obj false ⟨e1, (.st (.pair (.int .u8) (.int .i16))), x.2⟩] := by
  unfold laws_FnExactStrayIn.dec at h
  split at h
  · obtain ⟨x0, hx0, hh1⟩ := Option.bind_eq_some_iff.1 h
    obtain ⟨e0, rfl⟩ := toList_eq hx0
    obtain ⟨x1, hx1, hh2⟩ := Option.bind_eq_some_iff.1 hh1
    obtain ⟨e1, rfl⟩ := toList_eq hx1
    obtain rfl := Option.some.inj hh2
    exact ⟨e0, e1, rfl⟩
  · cases h
def laws_FnExactStrayIn.enc (e : TypeId) (r : Bool) : Res := ⟨[.val .bool r], []⟩
noncomputable def laws_FnExactStrayIn.sig (f : laws_FnExactStrayIn.A → Option laws_FnExactStrayIn.B) : Sig := mkSig [] laws_FnExactStrayIn.dec f fun avs r => laws_FnExactStrayIn.enc 0 r
abbrev laws_FnExactStrayIn.S (f : laws_FnExactStrayIn.A → Option laws_FnExactStrayIn.B) : Prop := Sound Try.pinned.checked.prog 3 (laws_FnExactStrayIn.sig f)
end Go.Proofs.Ytjajlmaldeoobaa.G
