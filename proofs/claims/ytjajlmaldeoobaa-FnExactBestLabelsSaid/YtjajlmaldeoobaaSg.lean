import Derived.Test.YtjajlmaldeoobaaGTT
namespace Go.Proofs.Ytjajlmaldeoobaa.G
open Go Go.Proofs
set_option linter.unusedVariables false
set_option linter.unusedSimpArgs false
set_option maxRecDepth 100000
abbrev Zb : Type := Int × Int
abbrev Zs : Type := Zb × Int
abbrev Fz27.A : Type := ((List (List Zb)) × Int)
abbrev Fz27.B : Type := Int
def Fz27.dec (avs : List AV) : Option ((List (List Zb)) × Int) := match avs with
  | [a0, a1] => (a0.toList (.arr 12 (.st (.pair (.int .u8) (.int .i16))))).bind fun x0 => (a1.toVal (.int .i64)).bind fun x1 => some (x0, x1)
  | _ => none
theorem Fz27.dec_eq {avs : List AV} {x : ((List (List Zb)) × Int)} (h : Fz27.dec avs = some x) : ∃ e0, avs = [.obj false ⟨e0, (.arr 12 (.st (.pair (.int .u8) (.int .i16)))), x.1⟩, .val (.int .i64) x.2] := by
  unfold Fz27.dec at h
  split at h
  · obtain ⟨x0, hx0, hh1⟩ := Option.bind_eq_some_iff.1 h
    obtain ⟨e0, rfl⟩ := toList_eq hx0
    obtain ⟨x1, hx1, hh2⟩ := Option.bind_eq_some_iff.1 hh1
    obtain rfl := toVal_eq hx1
    obtain rfl := Option.some.inj hh2
    exact ⟨e0, rfl⟩
  · cases h
def Fz27.enc (e : TypeId) (r : Int) : Res := ⟨[.val (.int .i64) r], []⟩
noncomputable def Fz27.sig (f : Fz27.A → Option Fz27.B) : Sig := mkSig [] Fz27.dec f (fun avs r => Fz27.enc 0 r)
abbrev Fz27.S (f : Fz27.A → Option Fz27.B) : Prop := Sound Try.pinned.checked.prog 13 (Fz27.sig f)
abbrev Fz28.A : Type := Zb
abbrev Fz28.B : Type := Zb
def Fz28.dec (avs : List AV) : Option Zb := match avs with
  | [a0] => (a0.toVal (.st (.pair (.int .u8) (.int .i16)))).bind fun x0 => some x0
  | _ => none
theorem Fz28.dec_eq {avs : List AV} {x : Zb} (h : Fz28.dec avs = some x) : avs = [.val (.st (.pair (.int .u8) (.int .i16))) x] := by
  unfold Fz28.dec at h
  split at h
  · obtain ⟨x0, hx0, hh1⟩ := Option.bind_eq_some_iff.1 h
    obtain rfl := toVal_eq hx0
    obtain rfl := Option.some.inj hh1
    exact rfl
  · cases h
def Fz28.enc (e : TypeId) (r : Zb) : Res := ⟨[.val (.st (.pair (.int .u8) (.int .i16))) r], []⟩
noncomputable def Fz28.sig (f : Fz28.A → Option Fz28.B) : Sig := mkSig [] Fz28.dec f (fun avs r => Fz28.enc 0 r)
abbrev Fz28.S (f : Fz28.A → Option Fz28.B) : Prop := Sound Try.pinned.checked.prog 55 (Fz28.sig f)
abbrev Fz29.A : Type := (List Zb)
abbrev Fz29.B : Type := (List Zb)
def Fz29.dec (avs : List AV) : Option (List Zb) := match avs with
  | [a0] => (a0.toVal (.arr 12 (.st (.pair (.int .u8) (.int .i16))))).bind fun x0 => some x0
  | _ => none
theorem Fz29.dec_eq {avs : List AV} {x : (List Zb)} (h : Fz29.dec avs = some x) : avs = [.val (.arr 12 (.st (.pair (.int .u8) (.int .i16)))) x] := by
  unfold Fz29.dec at h
  split at h
  · obtain ⟨x0, hx0, hh1⟩ := Option.bind_eq_some_iff.1 h
    obtain rfl := toVal_eq hx0
    obtain rfl := Option.some.inj hh1
    exact rfl
  · cases h
def Fz29.enc (e : TypeId) (r : (List Zb)) : Res := ⟨[.val (.arr 12 (.st (.pair (.int .u8) (.int .i16)))) r], []⟩
noncomputable def Fz29.sig (f : Fz29.A → Option Fz29.B) : Sig := mkSig [] Fz29.dec f (fun avs r => Fz29.enc 0 r)
abbrev Fz29.S (f : Fz29.A → Option Fz29.B) : Prop := Sound Try.pinned.checked.prog 22 (Fz29.sig f)
abbrev Fz30.A : Type := (List (List Zb))
abbrev Fz30.B : Type := (List (List Zb))
def Fz30.dec (avs : List AV) : Option (List (List Zb)) := match avs with
  | [a0] => (a0.toList (.arr 12 (.st (.pair (.int .u8) (.int .i16))))).bind fun x0 => some x0
  | _ => none
theorem Fz30.dec_eq {avs : List AV} {x : (List (List Zb))} (h : Fz30.dec avs = some x) : ∃ e0, avs = [.obj false ⟨e0, (.arr 12 (.st (.pair (.int .u8) (.int .i16)))), x⟩] := by
  unfold Fz30.dec at h
  split at h
  · obtain ⟨x0, hx0, hh1⟩ := Option.bind_eq_some_iff.1 h
    obtain ⟨e0, rfl⟩ := toList_eq hx0
    obtain rfl := Option.some.inj hh1
    exact ⟨e0, rfl⟩
  · cases h
def Fz30.enc (e : TypeId) (r : (List (List Zb))) : Res := ⟨[.own ⟨43, (.arr 12 (.st (.pair (.int .u8) (.int .i16)))), r⟩], []⟩
noncomputable def Fz30.sig (f : Fz30.A → Option Fz30.B) : Sig := mkSig [] Fz30.dec f (fun avs r => Fz30.enc 0 r)
abbrev Fz30.S (f : Fz30.A → Option Fz30.B) : Prop := Sound Try.pinned.checked.prog 16 (Fz30.sig f)
abbrev Fz45.A : Type := (List (List Zb))
abbrev Fz45.B : Type := ((List Zb) × Int × Int)
def Fz45.dec (avs : List AV) : Option (List (List Zb)) := match avs with
  | [a0] => (a0.toList (.arr 12 (.st (.pair (.int .u8) (.int .i16))))).bind fun x0 => some x0
  | _ => none
theorem Fz45.dec_eq {avs : List AV} {x : (List (List Zb))} (h : Fz45.dec avs = some x) : ∃ e0, avs = [.obj false ⟨e0, (.arr 12 (.st (.pair (.int .u8) (.int .i16)))), x⟩] := by
  unfold Fz45.dec at h
  split at h
  · obtain ⟨x0, hx0, hh1⟩ := Option.bind_eq_some_iff.1 h
    obtain ⟨e0, rfl⟩ := toList_eq hx0
    obtain rfl := Option.some.inj hh1
    exact ⟨e0, rfl⟩
  · cases h
def Fz45.enc (e : TypeId) (r : ((List Zb) × Int × Int)) : Res := ⟨[.own ⟨41, (.st (.pair (.int .u8) (.int .i16))), r.1⟩, .val (.int .i64) r.2.1, .val (.int .i64) r.2.2], []⟩
noncomputable def Fz45.sig (f : Fz45.A → Option Fz45.B) : Sig := mkSig [] Fz45.dec f (fun avs r => Fz45.enc 0 r)
abbrev Fz45.S (f : Fz45.A → Option Fz45.B) : Prop := Sound Try.pinned.checked.prog 43 (Fz45.sig f)
abbrev Fz33.A : Type := (List Zb)
abbrev Fz33.B : Type := (List Zb)
def Fz33.dec (avs : List AV) : Option (List Zb) := match avs with
  | [a0] => (a0.toList (.st (.pair (.int .u8) (.int .i16)))).bind fun x0 => some x0
  | _ => none
theorem Fz33.dec_eq {avs : List AV} {x : (List Zb)} (h : Fz33.dec avs = some x) : ∃ e0, avs = [.obj false ⟨e0, (.st (.pair (.int .u8) (.int .i16))), x⟩] := by
  unfold Fz33.dec at h
  split at h
  · obtain ⟨x0, hx0, hh1⟩ := Option.bind_eq_some_iff.1 h
    obtain ⟨e0, rfl⟩ := toList_eq hx0
    obtain rfl := Option.some.inj hh1
    exact ⟨e0, rfl⟩
  · cases h
def Fz33.enc (e : TypeId) (r : (List Zb)) : Res := ⟨[.own ⟨41, (.st (.pair (.int .u8) (.int .i16))), r⟩], []⟩
noncomputable def Fz33.sig (f : Fz33.A → Option Fz33.B) : Sig := mkSig [] Fz33.dec f (fun avs r => Fz33.enc 0 r)
abbrev Fz33.S (f : Fz33.A → Option Fz33.B) : Prop := Sound Try.pinned.checked.prog 95 (Fz33.sig f)
abbrev Fz8.A : Type := Zb
abbrev Fz8.B : Type := Bool
def Fz8.dec (avs : List AV) : Option Zb := match avs with
  | [a0] => (a0.toVal (.st (.pair (.int .u8) (.int .i16)))).bind fun x0 => some x0
  | _ => none
theorem Fz8.dec_eq {avs : List AV} {x : Zb} (h : Fz8.dec avs = some x) : avs = [.val (.st (.pair (.int .u8) (.int .i16))) x] := by
  unfold Fz8.dec at h
  split at h
  · obtain ⟨x0, hx0, hh1⟩ := Option.bind_eq_some_iff.1 h
    obtain rfl := toVal_eq hx0
    obtain rfl := Option.some.inj hh1
    exact rfl
  · cases h
def Fz8.enc (e : TypeId) (r : Bool) : Res := ⟨[.val .bool r], []⟩
noncomputable def Fz8.sig (f : Fz8.A → Option Fz8.B) : Sig := mkSig [] Fz8.dec f (fun avs r => Fz8.enc 0 r)
abbrev Fz8.S (f : Fz8.A → Option Fz8.B) : Prop := Sound Try.pinned.checked.prog 110 (Fz8.sig f)
abbrev Fz40.A : Type := (List Zb)
abbrev Fz40.B : Type := Int
def Fz40.dec (avs : List AV) : Option (List Zb) := match avs with
  | [a0, a1] => (a0.toList (.st (.pair (.int .u8) (.int .i16)))).bind fun x0 => (a1.toFn 110).bind fun q1 => match q1 with | [] => some x0 | _ => none
  | _ => none
theorem Fz40.dec_eq {avs : List AV} {x : (List Zb)} (h : Fz40.dec avs = some x) : ∃ e0, avs = [.obj false ⟨e0, (.st (.pair (.int .u8) (.int .i16))), x⟩, .fn 110 []] := by
  unfold Fz40.dec at h
  split at h
  · obtain ⟨x0, hx0, hh1⟩ := Option.bind_eq_some_iff.1 h
    obtain ⟨e0, rfl⟩ := toList_eq hx0
    obtain ⟨q1, hq1, hh2⟩ := Option.bind_eq_some_iff.1 hh1
    obtain ⟨w1, rfl, rfl⟩ := toFn_eq hq1
    match w1, hh2 with
    | [], hh3 =>
    obtain rfl := Option.some.inj hh3
    exact ⟨e0, rfl⟩
  · cases h
def Fz40.enc (e : TypeId) (r : Int) : Res := ⟨[.val (.int .i64) r], []⟩
noncomputable def Fz40.sig (f : Fz40.A → Option Fz40.B) : Sig := mkSig [] Fz40.dec f (fun avs r => Fz40.enc 0 r)
abbrev Fz40.S (f : Fz40.A → Option Fz40.B) : Prop := Sound Try.pinned.checked.prog 106 (Fz40.sig f)
abbrev Fz38.A : Type := (List Zb)
abbrev Fz38.B : Type := ((Option (Nat × Nat)) × (List Zb))
def Fz38.dec (avs : List AV) : Option (List Zb) := match avs with
  | [a0, a1] => (a0.toList (.st (.pair (.int .u8) (.int .i16)))).bind fun x0 => (a1.toFn 110).bind fun q1 => match q1 with | [] => some x0 | _ => none
  | _ => none
theorem Fz38.dec_eq {avs : List AV} {x : (List Zb)} (h : Fz38.dec avs = some x) : ∃ e0, avs = [.obj false ⟨e0, (.st (.pair (.int .u8) (.int .i16))), x⟩, .fn 110 []] := by
  unfold Fz38.dec at h
  split at h
  · obtain ⟨x0, hx0, hh1⟩ := Option.bind_eq_some_iff.1 h
    obtain ⟨e0, rfl⟩ := toList_eq hx0
    obtain ⟨q1, hq1, hh2⟩ := Option.bind_eq_some_iff.1 hh1
    obtain ⟨w1, rfl, rfl⟩ := toFn_eq hq1
    match w1, hh2 with
    | [], hh3 =>
    obtain rfl := Option.some.inj hh3
    exact ⟨e0, rfl⟩
  · cases h
def Fz38.enc (e : TypeId) (r : ((Option (Nat × Nat)) × (List Zb))) : Res := ⟨[.al 0 r.1], [⟨e, (.st (.pair (.int .u8) (.int .i16))), r.2⟩]⟩
noncomputable def Fz38.sig (f : Fz38.A → Option Fz38.B) : Sig := mkSig [0] Fz38.dec f (fun avs r => Fz38.enc (avs.getD 0 (.val .bool false)).elem r)
abbrev Fz38.S (f : Fz38.A → Option Fz38.B) : Prop := Sound Try.pinned.checked.prog 94 (Fz38.sig f)
abbrev Fz7.A : Type := (List Zb)
abbrev Fz7.B : Type := (List Zb)
def Fz7.dec (avs : List AV) : Option (List Zb) := match avs with
  | [a0] => (a0.toVal (.arr 12 (.st (.pair (.int .u8) (.int .i16))))).bind fun x0 => some x0
  | _ => none
theorem Fz7.dec_eq {avs : List AV} {x : (List Zb)} (h : Fz7.dec avs = some x) : avs = [.val (.arr 12 (.st (.pair (.int .u8) (.int .i16)))) x] := by
  unfold Fz7.dec at h
  split at h
  · obtain ⟨x0, hx0, hh1⟩ := Option.bind_eq_some_iff.1 h
    obtain rfl := toVal_eq hx0
    obtain rfl := Option.some.inj hh1
    exact rfl
  · cases h
def Fz7.enc (e : TypeId) (r : (List Zb)) : Res := ⟨[.own ⟨41, (.st (.pair (.int .u8) (.int .i16))), r⟩], []⟩
noncomputable def Fz7.sig (f : Fz7.A → Option Fz7.B) : Sig := mkSig [] Fz7.dec f (fun avs r => Fz7.enc 0 r)
abbrev Fz7.S (f : Fz7.A → Option Fz7.B) : Prop := Sound Try.pinned.checked.prog 61 (Fz7.sig f)
abbrev Fz44.A : Type := (List Zb)
abbrev Fz44.B : Type := (List Zb)
def Fz44.dec (avs : List AV) : Option (List Zb) := match avs with
  | [a0, a1] => (a0.toList (.st (.pair (.int .u8) (.int .i16)))).bind fun x0 => (a1.toFn 113).bind fun q1 => match q1 with | [] => some x0 | _ => none
  | _ => none
theorem Fz44.dec_eq {avs : List AV} {x : (List Zb)} (h : Fz44.dec avs = some x) : ∃ e0, avs = [.obj false ⟨e0, (.st (.pair (.int .u8) (.int .i16))), x⟩, .fn 113 []] := by
  unfold Fz44.dec at h
  split at h
  · obtain ⟨x0, hx0, hh1⟩ := Option.bind_eq_some_iff.1 h
    obtain ⟨e0, rfl⟩ := toList_eq hx0
    obtain ⟨q1, hq1, hh2⟩ := Option.bind_eq_some_iff.1 hh1
    obtain ⟨w1, rfl, rfl⟩ := toFn_eq hq1
    match w1, hh2 with
    | [], hh3 =>
    obtain rfl := Option.some.inj hh3
    exact ⟨e0, rfl⟩
  · cases h
def Fz44.enc (e : TypeId) (r : (List Zb)) : Res := ⟨[], [⟨e, (.st (.pair (.int .u8) (.int .i16))), r⟩]⟩
noncomputable def Fz44.sig (f : Fz44.A → Option Fz44.B) : Sig := mkSig [0] Fz44.dec f (fun avs r => Fz44.enc (avs.getD 0 (.val .bool false)).elem r)
abbrev Fz44.S (f : Fz44.A → Option Fz44.B) : Prop := Sound Try.pinned.checked.prog 112 (Fz44.sig f)
abbrev Fz14.A : Type := (List (List Zb))
abbrev Fz14.B : Type := (List Zb)
def Fz14.dec (avs : List AV) : Option (List (List Zb)) := match avs with
  | [a0] => (a0.toList (.arr 12 (.st (.pair (.int .u8) (.int .i16))))).bind fun x0 => some x0
  | _ => none
theorem Fz14.dec_eq {avs : List AV} {x : (List (List Zb))} (h : Fz14.dec avs = some x) : ∃ e0, avs = [.obj false ⟨e0, (.arr 12 (.st (.pair (.int .u8) (.int .i16)))), x⟩] := by
  unfold Fz14.dec at h
  split at h
  · obtain ⟨x0, hx0, hh1⟩ := Option.bind_eq_some_iff.1 h
    obtain ⟨e0, rfl⟩ := toList_eq hx0
    obtain rfl := Option.some.inj hh1
    exact ⟨e0, rfl⟩
  · cases h
def Fz14.enc (e : TypeId) (r : (List Zb)) : Res := ⟨[.own ⟨41, (.st (.pair (.int .u8) (.int .i16))), r⟩], []⟩
noncomputable def Fz14.sig (f : Fz14.A → Option Fz14.B) : Sig := mkSig [] Fz14.dec f (fun avs r => Fz14.enc 0 r)
abbrev Fz14.S (f : Fz14.A → Option Fz14.B) : Prop := Sound Try.pinned.checked.prog 76 (Fz14.sig f)
abbrev Fz34.A : Type := (List Zb)
abbrev Fz34.B : Type := ((Option (Nat × Nat)) × (List Zb))
def Fz34.dec (avs : List AV) : Option (List Zb) := match avs with
  | [a0] => (a0.toList (.st (.pair (.int .u8) (.int .i16)))).bind fun x0 => some x0
  | _ => none
theorem Fz34.dec_eq {avs : List AV} {x : (List Zb)} (h : Fz34.dec avs = some x) : ∃ e0, avs = [.obj false ⟨e0, (.st (.pair (.int .u8) (.int .i16))), x⟩] := by
  unfold Fz34.dec at h
  split at h
  · obtain ⟨x0, hx0, hh1⟩ := Option.bind_eq_some_iff.1 h
    obtain ⟨e0, rfl⟩ := toList_eq hx0
    obtain rfl := Option.some.inj hh1
    exact ⟨e0, rfl⟩
  · cases h
def Fz34.enc (e : TypeId) (r : ((Option (Nat × Nat)) × (List Zb))) : Res := ⟨[.al 0 r.1], [⟨e, (.st (.pair (.int .u8) (.int .i16))), r.2⟩]⟩
noncomputable def Fz34.sig (f : Fz34.A → Option Fz34.B) : Sig := mkSig [0] Fz34.dec f (fun avs r => Fz34.enc (avs.getD 0 (.val .bool false)).elem r)
abbrev Fz34.S (f : Fz34.A → Option Fz34.B) : Prop := Sound Try.pinned.checked.prog 92 (Fz34.sig f)
abbrev Fz18.A : Type := (Int × Int × Int)
abbrev Fz18.B : Type := Bool
def Fz18.dec (avs : List AV) : Option (Int × Int × Int) := match avs with
  | [a0, a1, a2] => (a0.toVal (.int .i64)).bind fun x0 => (a1.toVal (.int .i64)).bind fun x1 => (a2.toVal (.int .i64)).bind fun x2 => some (x0, x1, x2)
  | _ => none
theorem Fz18.dec_eq {avs : List AV} {x : (Int × Int × Int)} (h : Fz18.dec avs = some x) : avs = [.val (.int .i64) x.1, .val (.int .i64) x.2.1, .val (.int .i64) x.2.2] := by
  unfold Fz18.dec at h
  split at h
  · obtain ⟨x0, hx0, hh1⟩ := Option.bind_eq_some_iff.1 h
    obtain rfl := toVal_eq hx0
    obtain ⟨x1, hx1, hh2⟩ := Option.bind_eq_some_iff.1 hh1
    obtain rfl := toVal_eq hx1
    obtain ⟨x2, hx2, hh3⟩ := Option.bind_eq_some_iff.1 hh2
    obtain rfl := toVal_eq hx2
    obtain rfl := Option.some.inj hh3
    exact rfl
  · cases h
def Fz18.enc (e : TypeId) (r : Bool) : Res := ⟨[.val .bool r], []⟩
noncomputable def Fz18.sig (f : Fz18.A → Option Fz18.B) : Sig := mkSig [] Fz18.dec f (fun avs r => Fz18.enc 0 r)
abbrev Fz18.S (f : Fz18.A → Option Fz18.B) : Prop := Sound Try.pinned.checked.prog 107 (Fz18.sig f)
abbrev Fz9.A : Type := Zb
abbrev Fz9.B : Type := Bool
def Fz9.dec (avs : List AV) : Option Zb := match avs with
  | [a0] => (a0.toVal (.st (.pair (.int .u8) (.int .i16)))).bind fun x0 => some x0
  | _ => none
theorem Fz9.dec_eq {avs : List AV} {x : Zb} (h : Fz9.dec avs = some x) : avs = [.val (.st (.pair (.int .u8) (.int .i16))) x] := by
  unfold Fz9.dec at h
  split at h
  · obtain ⟨x0, hx0, hh1⟩ := Option.bind_eq_some_iff.1 h
    obtain rfl := toVal_eq hx0
    obtain rfl := Option.some.inj hh1
    exact rfl
  · cases h
def Fz9.enc (e : TypeId) (r : Bool) : Res := ⟨[.val .bool r], []⟩
noncomputable def Fz9.sig (f : Fz9.A → Option Fz9.B) : Sig := mkSig [] Fz9.dec f (fun avs r => Fz9.enc 0 r)
abbrev Fz9.S (f : Fz9.A → Option Fz9.B) : Prop := Sound Try.pinned.checked.prog 58 (Fz9.sig f)
abbrev Fz11.A : Type := Zb
abbrev Fz11.B : Type := Bool
def Fz11.dec (avs : List AV) : Option Zb := match avs with
  | [a0] => (a0.toVal (.st (.pair (.int .u8) (.int .i16)))).bind fun x0 => some x0
  | _ => none
theorem Fz11.dec_eq {avs : List AV} {x : Zb} (h : Fz11.dec avs = some x) : avs = [.val (.st (.pair (.int .u8) (.int .i16))) x] := by
  unfold Fz11.dec at h
  split at h
  · obtain ⟨x0, hx0, hh1⟩ := Option.bind_eq_some_iff.1 h
    obtain rfl := toVal_eq hx0
    obtain rfl := Option.some.inj hh1
    exact rfl
  · cases h
def Fz11.enc (e : TypeId) (r : Bool) : Res := ⟨[.val .bool r], []⟩
noncomputable def Fz11.sig (f : Fz11.A → Option Fz11.B) : Sig := mkSig [] Fz11.dec f (fun avs r => Fz11.enc 0 r)
abbrev Fz11.S (f : Fz11.A → Option Fz11.B) : Prop := Sound Try.pinned.checked.prog 111 (Fz11.sig f)
abbrev Fz41.A : Type := (List Zb)
abbrev Fz41.B : Type := Int
def Fz41.dec (avs : List AV) : Option (List Zb) := match avs with
  | [a0, a1] => (a0.toList (.st (.pair (.int .u8) (.int .i16)))).bind fun x0 => (a1.toFn 111).bind fun q1 => match q1 with | [] => some x0 | _ => none
  | _ => none
theorem Fz41.dec_eq {avs : List AV} {x : (List Zb)} (h : Fz41.dec avs = some x) : ∃ e0, avs = [.obj false ⟨e0, (.st (.pair (.int .u8) (.int .i16))), x⟩, .fn 111 []] := by
  unfold Fz41.dec at h
  split at h
  · obtain ⟨x0, hx0, hh1⟩ := Option.bind_eq_some_iff.1 h
    obtain ⟨e0, rfl⟩ := toList_eq hx0
    obtain ⟨q1, hq1, hh2⟩ := Option.bind_eq_some_iff.1 hh1
    obtain ⟨w1, rfl, rfl⟩ := toFn_eq hq1
    match w1, hh2 with
    | [], hh3 =>
    obtain rfl := Option.some.inj hh3
    exact ⟨e0, rfl⟩
  · cases h
def Fz41.enc (e : TypeId) (r : Int) : Res := ⟨[.val (.int .i64) r], []⟩
noncomputable def Fz41.sig (f : Fz41.A → Option Fz41.B) : Sig := mkSig [] Fz41.dec f (fun avs r => Fz41.enc 0 r)
abbrev Fz41.S (f : Fz41.A → Option Fz41.B) : Prop := Sound Try.pinned.checked.prog 106 (Fz41.sig f)
abbrev Fz35.A : Type := (List Zb)
abbrev Fz35.B : Type := Bool
def Fz35.dec (avs : List AV) : Option (List Zb) := match avs with
  | [a0, a1] => (a0.toList (.st (.pair (.int .u8) (.int .i16)))).bind fun x0 => (a1.toFn 111).bind fun q1 => match q1 with | [] => some x0 | _ => none
  | _ => none
theorem Fz35.dec_eq {avs : List AV} {x : (List Zb)} (h : Fz35.dec avs = some x) : ∃ e0, avs = [.obj false ⟨e0, (.st (.pair (.int .u8) (.int .i16))), x⟩, .fn 111 []] := by
  unfold Fz35.dec at h
  split at h
  · obtain ⟨x0, hx0, hh1⟩ := Option.bind_eq_some_iff.1 h
    obtain ⟨e0, rfl⟩ := toList_eq hx0
    obtain ⟨q1, hq1, hh2⟩ := Option.bind_eq_some_iff.1 hh1
    obtain ⟨w1, rfl, rfl⟩ := toFn_eq hq1
    match w1, hh2 with
    | [], hh3 =>
    obtain rfl := Option.some.inj hh3
    exact ⟨e0, rfl⟩
  · cases h
def Fz35.enc (e : TypeId) (r : Bool) : Res := ⟨[.val .bool r], []⟩
noncomputable def Fz35.sig (f : Fz35.A → Option Fz35.B) : Sig := mkSig [] Fz35.dec f (fun avs r => Fz35.enc 0 r)
abbrev Fz35.S (f : Fz35.A → Option Fz35.B) : Prop := Sound Try.pinned.checked.prog 56 (Fz35.sig f)
abbrev Fz10.A : Type := (List Zb)
abbrev Fz10.B : Type := Bool
def Fz10.dec (avs : List AV) : Option (List Zb) := match avs with
  | [a0] => (a0.toVal (.arr 12 (.st (.pair (.int .u8) (.int .i16))))).bind fun x0 => some x0
  | _ => none
theorem Fz10.dec_eq {avs : List AV} {x : (List Zb)} (h : Fz10.dec avs = some x) : avs = [.val (.arr 12 (.st (.pair (.int .u8) (.int .i16)))) x] := by
  unfold Fz10.dec at h
  split at h
  · obtain ⟨x0, hx0, hh1⟩ := Option.bind_eq_some_iff.1 h
    obtain rfl := toVal_eq hx0
    obtain rfl := Option.some.inj hh1
    exact rfl
  · cases h
def Fz10.enc (e : TypeId) (r : Bool) : Res := ⟨[.val .bool r], []⟩
noncomputable def Fz10.sig (f : Fz10.A → Option Fz10.B) : Sig := mkSig [] Fz10.dec f (fun avs r => Fz10.enc 0 r)
abbrev Fz10.S (f : Fz10.A → Option Fz10.B) : Prop := Sound Try.pinned.checked.prog 66 (Fz10.sig f)
abbrev Fz13.A : Type := (List Zb)
abbrev Fz13.B : Type := Bool
def Fz13.dec (avs : List AV) : Option (List Zb) := match avs with
  | [a0] => (a0.toVal (.arr 12 (.st (.pair (.int .u8) (.int .i16))))).bind fun x0 => some x0
  | _ => none
theorem Fz13.dec_eq {avs : List AV} {x : (List Zb)} (h : Fz13.dec avs = some x) : avs = [.val (.arr 12 (.st (.pair (.int .u8) (.int .i16)))) x] := by
  unfold Fz13.dec at h
  split at h
  · obtain ⟨x0, hx0, hh1⟩ := Option.bind_eq_some_iff.1 h
    obtain rfl := toVal_eq hx0
    obtain rfl := Option.some.inj hh1
    exact rfl
  · cases h
def Fz13.enc (e : TypeId) (r : Bool) : Res := ⟨[.val .bool r], []⟩
noncomputable def Fz13.sig (f : Fz13.A → Option Fz13.B) : Sig := mkSig [] Fz13.dec f (fun avs r => Fz13.enc 0 r)
abbrev Fz13.S (f : Fz13.A → Option Fz13.B) : Prop := Sound Try.pinned.checked.prog 109 (Fz13.sig f)
abbrev Fz42.A : Type := (List (List Zb))
abbrev Fz42.B : Type := Int
def Fz42.dec (avs : List AV) : Option (List (List Zb)) := match avs with
  | [a0, a1] => (a0.toList (.arr 12 (.st (.pair (.int .u8) (.int .i16))))).bind fun x0 => (a1.toFn 109).bind fun q1 => match q1 with | [] => some x0 | _ => none
  | _ => none
theorem Fz42.dec_eq {avs : List AV} {x : (List (List Zb))} (h : Fz42.dec avs = some x) : ∃ e0, avs = [.obj false ⟨e0, (.arr 12 (.st (.pair (.int .u8) (.int .i16)))), x⟩, .fn 109 []] := by
  unfold Fz42.dec at h
  split at h
  · obtain ⟨x0, hx0, hh1⟩ := Option.bind_eq_some_iff.1 h
    obtain ⟨e0, rfl⟩ := toList_eq hx0
    obtain ⟨q1, hq1, hh2⟩ := Option.bind_eq_some_iff.1 hh1
    obtain ⟨w1, rfl, rfl⟩ := toFn_eq hq1
    match w1, hh2 with
    | [], hh3 =>
    obtain rfl := Option.some.inj hh3
    exact ⟨e0, rfl⟩
  · cases h
def Fz42.enc (e : TypeId) (r : Int) : Res := ⟨[.val (.int .i64) r], []⟩
noncomputable def Fz42.sig (f : Fz42.A → Option Fz42.B) : Sig := mkSig [] Fz42.dec f (fun avs r => Fz42.enc 0 r)
abbrev Fz42.S (f : Fz42.A → Option Fz42.B) : Prop := Sound Try.pinned.checked.prog 129 (Fz42.sig f)
abbrev Fz36.A : Type := (List (List Zb))
abbrev Fz36.B : Type := Bool
def Fz36.dec (avs : List AV) : Option (List (List Zb)) := match avs with
  | [a0, a1] => (a0.toList (.arr 12 (.st (.pair (.int .u8) (.int .i16))))).bind fun x0 => (a1.toFn 109).bind fun q1 => match q1 with | [] => some x0 | _ => none
  | _ => none
theorem Fz36.dec_eq {avs : List AV} {x : (List (List Zb))} (h : Fz36.dec avs = some x) : ∃ e0, avs = [.obj false ⟨e0, (.arr 12 (.st (.pair (.int .u8) (.int .i16)))), x⟩, .fn 109 []] := by
  unfold Fz36.dec at h
  split at h
  · obtain ⟨x0, hx0, hh1⟩ := Option.bind_eq_some_iff.1 h
    obtain ⟨e0, rfl⟩ := toList_eq hx0
    obtain ⟨q1, hq1, hh2⟩ := Option.bind_eq_some_iff.1 hh1
    obtain ⟨w1, rfl, rfl⟩ := toFn_eq hq1
    match w1, hh2 with
    | [], hh3 =>
    obtain rfl := Option.some.inj hh3
    exact ⟨e0, rfl⟩
  · cases h
def Fz36.enc (e : TypeId) (r : Bool) : Res := ⟨[.val .bool r], []⟩
noncomputable def Fz36.sig (f : Fz36.A → Option Fz36.B) : Sig := mkSig [] Fz36.dec f (fun avs r => Fz36.enc 0 r)
abbrev Fz36.S (f : Fz36.A → Option Fz36.B) : Prop := Sound Try.pinned.checked.prog 108 (Fz36.sig f)
abbrev Fz12.A : Type := (List (List Zb))
abbrev Fz12.B : Type := Bool
def Fz12.dec (avs : List AV) : Option (List (List Zb)) := match avs with
  | [a0] => (a0.toList (.arr 12 (.st (.pair (.int .u8) (.int .i16))))).bind fun x0 => some x0
  | _ => none
theorem Fz12.dec_eq {avs : List AV} {x : (List (List Zb))} (h : Fz12.dec avs = some x) : ∃ e0, avs = [.obj false ⟨e0, (.arr 12 (.st (.pair (.int .u8) (.int .i16)))), x⟩] := by
  unfold Fz12.dec at h
  split at h
  · obtain ⟨x0, hx0, hh1⟩ := Option.bind_eq_some_iff.1 h
    obtain ⟨e0, rfl⟩ := toList_eq hx0
    obtain rfl := Option.some.inj hh1
    exact ⟨e0, rfl⟩
  · cases h
def Fz12.enc (e : TypeId) (r : Bool) : Res := ⟨[.val .bool r], []⟩
noncomputable def Fz12.sig (f : Fz12.A → Option Fz12.B) : Sig := mkSig [] Fz12.dec f (fun avs r => Fz12.enc 0 r)
abbrev Fz12.S (f : Fz12.A → Option Fz12.B) : Prop := Sound Try.pinned.checked.prog 60 (Fz12.sig f)
abbrev Fz32.A : Type := Zb
abbrev Fz32.B : Type := Zb
def Fz32.dec (avs : List AV) : Option Zb := match avs with
  | [a0, a1] => (a0.toVal (.int .u64)).bind fun x0 => (a1.toVal (.int .u64)).bind fun x1 => some (x0, x1)
  | _ => none
theorem Fz32.dec_eq {avs : List AV} {x : Zb} (h : Fz32.dec avs = some x) : avs = [.val (.int .u64) x.1, .val (.int .u64) x.2] := by
  unfold Fz32.dec at h
  split at h
  · obtain ⟨x0, hx0, hh1⟩ := Option.bind_eq_some_iff.1 h
    obtain rfl := toVal_eq hx0
    obtain ⟨x1, hx1, hh2⟩ := Option.bind_eq_some_iff.1 hh1
    obtain rfl := toVal_eq hx1
    obtain rfl := Option.some.inj hh2
    exact rfl
  · cases h
def Fz32.enc (e : TypeId) (r : Zb) : Res := ⟨[.val (.int .u64) r.1, .val (.int .u64) r.2], []⟩
noncomputable def Fz32.sig (f : Fz32.A → Option Fz32.B) : Sig := mkSig [] Fz32.dec f (fun avs r => Fz32.enc 0 r)
abbrev Fz32.S (f : Fz32.A → Option Fz32.B) : Prop := Sound Try.pinned.checked.prog 151 (Fz32.sig f)
abbrev Fz31.A : Type := Zb
abbrev Fz31.B : Type := Zb
def Fz31.dec (avs : List AV) : Option Zb := match avs with
  | [a0, a1] => (a0.toVal (.int .u64)).bind fun x0 => (a1.toVal (.int .u64)).bind fun x1 => some (x0, x1)
  | _ => none
theorem Fz31.dec_eq {avs : List AV} {x : Zb} (h : Fz31.dec avs = some x) : avs = [.val (.int .u64) x.1, .val (.int .u64) x.2] := by
  unfold Fz31.dec at h
  split at h
  · obtain ⟨x0, hx0, hh1⟩ := Option.bind_eq_some_iff.1 h
    obtain rfl := toVal_eq hx0
    obtain ⟨x1, hx1, hh2⟩ := Option.bind_eq_some_iff.1 hh1
    obtain rfl := toVal_eq hx1
    obtain rfl := Option.some.inj hh2
    exact rfl
  · cases h
def Fz31.enc (e : TypeId) (r : Zb) : Res := ⟨[.val (.int .u64) r.1, .val (.int .u64) r.2], []⟩
noncomputable def Fz31.sig (f : Fz31.A → Option Fz31.B) : Sig := mkSig [] Fz31.dec f (fun avs r => Fz31.enc 0 r)
abbrev Fz31.S (f : Fz31.A → Option Fz31.B) : Prop := Sound Try.pinned.checked.prog 136 (Fz31.sig f)
abbrev Fz43.A : Type := ((List Int) × Int)
abbrev Fz43.B : Type := (List Int)
def Fz43.dec (avs : List AV) : Option ((List Int) × Int) := match avs with
  | [a0, a1] => (a0.toList (.int .i64)).bind fun x0 => (a1.toVal (.int .i64)).bind fun x1 => some (x0, x1)
  | _ => none
theorem Fz43.dec_eq {avs : List AV} {x : ((List Int) × Int)} (h : Fz43.dec avs = some x) : ∃ e0, avs = [.obj false ⟨e0, (.int .i64), x.1⟩, .val (.int .i64) x.2] := by
  unfold Fz43.dec at h
  split at h
  · obtain ⟨x0, hx0, hh1⟩ := Option.bind_eq_some_iff.1 h
    obtain ⟨e0, rfl⟩ := toList_eq hx0
    obtain ⟨x1, hx1, hh2⟩ := Option.bind_eq_some_iff.1 hh1
    obtain rfl := toVal_eq hx1
    obtain rfl := Option.some.inj hh2
    exact ⟨e0, rfl⟩
  · cases h
def Fz43.enc (e : TypeId) (r : (List Int)) : Res := ⟨[.own ⟨2, (.int .i64), r⟩], []⟩
noncomputable def Fz43.sig (f : Fz43.A → Option Fz43.B) : Sig := mkSig [] Fz43.dec f (fun avs r => Fz43.enc 0 r)
abbrev Fz43.S (f : Fz43.A → Option Fz43.B) : Prop := Sound Try.pinned.checked.prog 124 (Fz43.sig f)
abbrev Fz16.A : Type := ((List (List Zb)) × Zb)
abbrev Fz16.B : Type := Int
def Fz16.dec (avs : List AV) : Option ((List (List Zb)) × Zb) := match avs with
  | [a0, a1] => (a0.toList (.arr 12 (.st (.pair (.int .u8) (.int .i16))))).bind fun x0 => (a1.toVal (.st (.pair (.int .u8) (.int .i16)))).bind fun x1 => some (x0, x1)
  | _ => none
theorem Fz16.dec_eq {avs : List AV} {x : ((List (List Zb)) × Zb)} (h : Fz16.dec avs = some x) : ∃ e0, avs = [.obj false ⟨e0, (.arr 12 (.st (.pair (.int .u8) (.int .i16)))), x.1⟩, .val (.st (.pair (.int .u8) (.int .i16))) x.2] := by
  unfold Fz16.dec at h
  split at h
  · obtain ⟨x0, hx0, hh1⟩ := Option.bind_eq_some_iff.1 h
    obtain ⟨e0, rfl⟩ := toList_eq hx0
    obtain ⟨x1, hx1, hh2⟩ := Option.bind_eq_some_iff.1 hh1
    obtain rfl := toVal_eq hx1
    obtain rfl := Option.some.inj hh2
    exact ⟨e0, rfl⟩
  · cases h
def Fz16.enc (e : TypeId) (r : Int) : Res := ⟨[.val (.int .i64) r], []⟩
noncomputable def Fz16.sig (f : Fz16.A → Option Fz16.B) : Sig := mkSig [] Fz16.dec f (fun avs r => Fz16.enc 0 r)
abbrev Fz16.S (f : Fz16.A → Option Fz16.B) : Prop := Sound Try.pinned.checked.prog 62 (Fz16.sig f)
abbrev Fz17.A : Type := ((List (List Zb)) × Int × (List Zb))
abbrev Fz17.B : Type := Int
def Fz17.dec (avs : List AV) : Option ((List (List Zb)) × Int × (List Zb)) := match avs with
  | [a0, a1, a2] => (a0.toList (.arr 12 (.st (.pair (.int .u8) (.int .i16))))).bind fun x0 => (a1.toVal (.int .i64)).bind fun x1 => (a2.toList (.st (.pair (.int .u8) (.int .i16)))).bind fun x2 => some (x0, x1, x2)
  | _ => none
theorem Fz17.dec_eq {avs : List AV} {x : ((List (List Zb)) × Int × (List Zb))} (h : Fz17.dec avs = some x) : ∃ e0 e1, avs = [.obj false ⟨e0, (.arr 12 (.st (.pair (.int .u8) (.int .i16)))), x.1⟩, .val (.int .i64) x.2.1, .obj false ⟨e1, (.st (.pair (.int .u8) (.int .i16))), x.2.2⟩] := by
  unfold Fz17.dec at h
  split at h
  · obtain ⟨x0, hx0, hh1⟩ := Option.bind_eq_some_iff.1 h
    obtain ⟨e0, rfl⟩ := toList_eq hx0
    obtain ⟨x1, hx1, hh2⟩ := Option.bind_eq_some_iff.1 hh1
    obtain rfl := toVal_eq hx1
    obtain ⟨x2, hx2, hh3⟩ := Option.bind_eq_some_iff.1 hh2
    obtain ⟨e1, rfl⟩ := toList_eq hx2
    obtain rfl := Option.some.inj hh3
    exact ⟨e0, e1, rfl⟩
  · cases h
def Fz17.enc (e : TypeId) (r : Int) : Res := ⟨[.val (.int .i64) r], []⟩
noncomputable def Fz17.sig (f : Fz17.A → Option Fz17.B) : Sig := mkSig [] Fz17.dec f (fun avs r => Fz17.enc 0 r)
abbrev Fz17.S (f : Fz17.A → Option Fz17.B) : Prop := Sound Try.pinned.checked.prog 93 (Fz17.sig f)
abbrev Fz6.A : Type := (Zb × Zb)
abbrev Fz6.B : Type := Bool
def Fz6.dec (avs : List AV) : Option (Zb × Zb) := match avs with
  | [a0, a1] => (a0.toVal (.st (.pair (.int .u8) (.int .i16)))).bind fun x0 => (a1.toBox (.st (.pair (.int .u8) (.int .i16)))).bind fun x1 => some (x0, x1)
  | _ => none
theorem Fz6.dec_eq {avs : List AV} {x : (Zb × Zb)} (h : Fz6.dec avs = some x) : ∃ e0, avs = [.val (.st (.pair (.int .u8) (.int .i16))) x.1, .obj true ⟨e0, (.st (.pair (.int .u8) (.int .i16))), [x.2]⟩] := by
  unfold Fz6.dec at h
  split at h
  · obtain ⟨x0, hx0, hh1⟩ := Option.bind_eq_some_iff.1 h
    obtain rfl := toVal_eq hx0
    obtain ⟨x1, hx1, hh2⟩ := Option.bind_eq_some_iff.1 hh1
    obtain ⟨e0, rfl⟩ := toBox_eq hx1
    obtain rfl := Option.some.inj hh2
    exact ⟨e0, rfl⟩
  · cases h
def Fz6.enc (e : TypeId) (r : Bool) : Res := ⟨[.val .bool r], []⟩
noncomputable def Fz6.sig (f : Fz6.A → Option Fz6.B) : Sig := mkSig [] Fz6.dec f (fun avs r => Fz6.enc 0 r)
abbrev Fz6.S (f : Fz6.A → Option Fz6.B) : Prop := Sound Try.pinned.checked.prog 96 (Fz6.sig f)
abbrev Fz39.A : Type := ((List Zb) × Zb)
abbrev Fz39.B : Type := Int
def Fz39.dec (avs : List AV) : Option ((List Zb) × Zb) := match avs with
  | [a0, a1] => (a0.toList (.st (.pair (.int .u8) (.int .i16)))).bind fun x0 => (a1.toFn 96).bind fun q1 => match q1 with | [c1_0] => (c1_0.toBox (.st (.pair (.int .u8) (.int .i16)))).bind fun x1 => some (x0, x1) | _ => none
  | _ => none
theorem Fz39.dec_eq {avs : List AV} {x : ((List Zb) × Zb)} (h : Fz39.dec avs = some x) : ∃ e0 e1, avs = [.obj false ⟨e0, (.st (.pair (.int .u8) (.int .i16))), x.1⟩, .fn 96 [(none, ⟨e1, (.st (.pair (.int .u8) (.int .i16))), [x.2]⟩)]] := by
  unfold Fz39.dec at h
  split at h
  · obtain ⟨x0, hx0, hh1⟩ := Option.bind_eq_some_iff.1 h
    obtain ⟨e0, rfl⟩ := toList_eq hx0
    obtain ⟨q1, hq1, hh2⟩ := Option.bind_eq_some_iff.1 hh1
    obtain ⟨w1, rfl, rfl⟩ := toFn_eq hq1
    match w1, hh2 with
    | [c1_0], hh3 =>
    obtain ⟨x1, hx1, hh4⟩ := Option.bind_eq_some_iff.1 hh3
    obtain ⟨e1, hx1⟩ := toBox_eq hx1
    obtain rfl := capAV_box hx1
    obtain rfl := Option.some.inj hh4
    exact ⟨e0, e1, rfl⟩
  · cases h
def Fz39.enc (e : TypeId) (r : Int) : Res := ⟨[.val (.int .i64) r], []⟩
noncomputable def Fz39.sig (f : Fz39.A → Option Fz39.B) : Sig := mkSig [] Fz39.dec f (fun avs r => Fz39.enc 0 r)
abbrev Fz39.S (f : Fz39.A → Option Fz39.B) : Prop := Sound Try.pinned.checked.prog 106 (Fz39.sig f)
abbrev Fz37.A : Type := ((List Zb) × Zb)
abbrev Fz37.B : Type := ((Option (Nat × Nat)) × (List Zb))
def Fz37.dec (avs : List AV) : Option ((List Zb) × Zb) := match avs with
  | [a0, a1] => (a0.toList (.st (.pair (.int .u8) (.int .i16)))).bind fun x0 => (a1.toFn 96).bind fun q1 => match q1 with | [c1_0] => (c1_0.toBox (.st (.pair (.int .u8) (.int .i16)))).bind fun x1 => some (x0, x1) | _ => none
  | _ => none
theorem Fz37.dec_eq {avs : List AV} {x : ((List Zb) × Zb)} (h : Fz37.dec avs = some x) : ∃ e0 e1, avs = [.obj false ⟨e0, (.st (.pair (.int .u8) (.int .i16))), x.1⟩, .fn 96 [(none, ⟨e1, (.st (.pair (.int .u8) (.int .i16))), [x.2]⟩)]] := by
  unfold Fz37.dec at h
  split at h
  · obtain ⟨x0, hx0, hh1⟩ := Option.bind_eq_some_iff.1 h
    obtain ⟨e0, rfl⟩ := toList_eq hx0
    obtain ⟨q1, hq1, hh2⟩ := Option.bind_eq_some_iff.1 hh1
    obtain ⟨w1, rfl, rfl⟩ := toFn_eq hq1
    match w1, hh2 with
    | [c1_0], hh3 =>
    obtain ⟨x1, hx1, hh4⟩ := Option.bind_eq_some_iff.1 hh3
    obtain ⟨e1, hx1⟩ := toBox_eq hx1
    obtain rfl := capAV_box hx1
    obtain rfl := Option.some.inj hh4
    exact ⟨e0, e1, rfl⟩
  · cases h
def Fz37.enc (e : TypeId) (r : ((Option (Nat × Nat)) × (List Zb))) : Res := ⟨[.al 0 r.1], [⟨e, (.st (.pair (.int .u8) (.int .i16))), r.2⟩]⟩
noncomputable def Fz37.sig (f : Fz37.A → Option Fz37.B) : Sig := mkSig [0] Fz37.dec f (fun avs r => Fz37.enc (avs.getD 0 (.val .bool false)).elem r)
abbrev Fz37.S (f : Fz37.A → Option Fz37.B) : Prop := Sound Try.pinned.checked.prog 94 (Fz37.sig f)
abbrev Fz5.A : Type := (List (List Zb))
abbrev Fz5.B : Type := ((List Zb) × Int × Int)
def Fz5.dec (avs : List AV) : Option (List (List Zb)) := match avs with
  | [a0] => (a0.toList (.arr 12 (.st (.pair (.int .u8) (.int .i16))))).bind fun x0 => some x0
  | _ => none
theorem Fz5.dec_eq {avs : List AV} {x : (List (List Zb))} (h : Fz5.dec avs = some x) : ∃ e0, avs = [.obj false ⟨e0, (.arr 12 (.st (.pair (.int .u8) (.int .i16)))), x⟩] := by
  unfold Fz5.dec at h
  split at h
  · obtain ⟨x0, hx0, hh1⟩ := Option.bind_eq_some_iff.1 h
    obtain ⟨e0, rfl⟩ := toList_eq hx0
    obtain rfl := Option.some.inj hh1
    exact ⟨e0, rfl⟩
  · cases h
def Fz5.enc (e : TypeId) (r : ((List Zb) × Int × Int)) : Res := ⟨[.own ⟨41, (.st (.pair (.int .u8) (.int .i16))), r.1⟩, .val (.int .i64) r.2.1, .val (.int .i64) r.2.2], []⟩
noncomputable def Fz5.sig (f : Fz5.A → Option Fz5.B) : Sig := mkSig [] Fz5.dec f (fun avs r => Fz5.enc 0 r)
abbrev Fz5.S (f : Fz5.A → Option Fz5.B) : Prop := Sound Try.pinned.checked.prog 44 (Fz5.sig f)
abbrev Fz20.A : Type := (Zb × Zb)
abbrev Fz20.B : Type := Bool
def Fz20.dec (avs : List AV) : Option (Zb × Zb) := match avs with
  | [a0, a1] => (a0.toVal (.st (.pair (.int .u8) (.int .i16)))).bind fun x0 => (a1.toVal (.st (.pair (.int .u8) (.int .i16)))).bind fun x1 => some (x0, x1)
  | _ => none
theorem Fz20.dec_eq {avs : List AV} {x : (Zb × Zb)} (h : Fz20.dec avs = some x) : avs = [.val (.st (.pair (.int .u8) (.int .i16))) x.1, .val (.st (.pair (.int .u8) (.int .i16))) x.2] := by
  unfold Fz20.dec at h
  split at h
  · obtain ⟨x0, hx0, hh1⟩ := Option.bind_eq_some_iff.1 h
    obtain rfl := toVal_eq hx0
    obtain ⟨x1, hx1, hh2⟩ := Option.bind_eq_some_iff.1 hh1
    obtain rfl := toVal_eq hx1
    obtain rfl := Option.some.inj hh2
    exact rfl
  · cases h
def Fz20.enc (e : TypeId) (r : Bool) : Res := ⟨[.val .bool r], []⟩
noncomputable def Fz20.sig (f : Fz20.A → Option Fz20.B) : Sig := mkSig [] Fz20.dec f (fun avs r => Fz20.enc 0 r)
abbrev Fz20.S (f : Fz20.A → Option Fz20.B) : Prop := Sound Try.pinned.checked.prog 26 (Fz20.sig f)
abbrev Fz21.A : Type := ((List Zb) × (List Zb))
abbrev Fz21.B : Type := Bool
def Fz21.dec (avs : List AV) : Option ((List Zb) × (List Zb)) := match avs with
  | [a0, a1] => (a0.toList (.st (.pair (.int .u8) (.int .i16)))).bind fun x0 => (a1.toList (.st (.pair (.int .u8) (.int .i16)))).bind fun x1 => some (x0, x1)
  | _ => none
theorem Fz21.dec_eq {avs : List AV} {x : ((List Zb) × (List Zb))} (h : Fz21.dec avs = some x) : ∃ e0 e1, avs = [.obj false ⟨e0, (.st (.pair (.int .u8) (.int .i16))), x.1⟩, .obj false ⟨e1, (.st (.pair (.int .u8) (.int .i16))), x.2⟩] := by
  unfold Fz21.dec at h
  split at h
  · obtain ⟨x0, hx0, hh1⟩ := Option.bind_eq_some_iff.1 h
    obtain ⟨e0, rfl⟩ := toList_eq hx0
    obtain ⟨x1, hx1, hh2⟩ := Option.bind_eq_some_iff.1 hh1
    obtain ⟨e1, rfl⟩ := toList_eq hx1
    obtain rfl := Option.some.inj hh2
    exact ⟨e0, e1, rfl⟩
  · cases h
def Fz21.enc (e : TypeId) (r : Bool) : Res := ⟨[.val .bool r], []⟩
noncomputable def Fz21.sig (f : Fz21.A → Option Fz21.B) : Sig := mkSig [] Fz21.dec f (fun avs r => Fz21.enc 0 r)
abbrev Fz21.S (f : Fz21.A → Option Fz21.B) : Prop := Sound Try.pinned.checked.prog 20 (Fz21.sig f)
abbrev Fz22.A : Type := ((List Zb) × (List Zb))
abbrev Fz22.B : Type := Bool
def Fz22.dec (avs : List AV) : Option ((List Zb) × (List Zb)) := match avs with
  | [a0, a1] => (a0.toVal (.arr 12 (.st (.pair (.int .u8) (.int .i16))))).bind fun x0 => (a1.toVal (.arr 12 (.st (.pair (.int .u8) (.int .i16))))).bind fun x1 => some (x0, x1)
  | _ => none
theorem Fz22.dec_eq {avs : List AV} {x : ((List Zb) × (List Zb))} (h : Fz22.dec avs = some x) : avs = [.val (.arr 12 (.st (.pair (.int .u8) (.int .i16)))) x.1, .val (.arr 12 (.st (.pair (.int .u8) (.int .i16)))) x.2] := by
  unfold Fz22.dec at h
  split at h
  · obtain ⟨x0, hx0, hh1⟩ := Option.bind_eq_some_iff.1 h
    obtain rfl := toVal_eq hx0
    obtain ⟨x1, hx1, hh2⟩ := Option.bind_eq_some_iff.1 hh1
    obtain rfl := toVal_eq hx1
    obtain rfl := Option.some.inj hh2
    exact rfl
  · cases h
def Fz22.enc (e : TypeId) (r : Bool) : Res := ⟨[.val .bool r], []⟩
noncomputable def Fz22.sig (f : Fz22.A → Option Fz22.B) : Sig := mkSig [] Fz22.dec f (fun avs r => Fz22.enc 0 r)
abbrev Fz22.S (f : Fz22.A → Option Fz22.B) : Prop := Sound Try.pinned.checked.prog 63 (Fz22.sig f)
abbrev Fz23.A : Type := ((List (List Zb)) × (List (List Zb)))
abbrev Fz23.B : Type := Bool
def Fz23.dec (avs : List AV) : Option ((List (List Zb)) × (List (List Zb))) := match avs with
  | [a0, a1] => (a0.toList (.arr 12 (.st (.pair (.int .u8) (.int .i16))))).bind fun x0 => (a1.toList (.arr 12 (.st (.pair (.int .u8) (.int .i16))))).bind fun x1 => some (x0, x1)
  | _ => none
theorem Fz23.dec_eq {avs : List AV} {x : ((List (List Zb)) × (List (List Zb)))} (h : Fz23.dec avs = some x) : ∃ e0 e1, avs = [.obj false ⟨e0, (.arr 12 (.st (.pair (.int .u8) (.int .i16)))), x.1⟩, .obj false ⟨e1, (.arr 12 (.st (.pair (.int .u8) (.int .i16)))), x.2⟩] := by
  unfold Fz23.dec at h
  split at h
  · obtain ⟨x0, hx0, hh1⟩ := Option.bind_eq_some_iff.1 h
    obtain ⟨e0, rfl⟩ := toList_eq hx0
    obtain ⟨x1, hx1, hh2⟩ := Option.bind_eq_some_iff.1 hh1
    obtain ⟨e1, rfl⟩ := toList_eq hx1
    obtain rfl := Option.some.inj hh2
    exact ⟨e0, e1, rfl⟩
  · cases h
def Fz23.enc (e : TypeId) (r : Bool) : Res := ⟨[.val .bool r], []⟩
noncomputable def Fz23.sig (f : Fz23.A → Option Fz23.B) : Sig := mkSig [] Fz23.dec f (fun avs r => Fz23.enc 0 r)
abbrev Fz23.S (f : Fz23.A → Option Fz23.B) : Prop := Sound Try.pinned.checked.prog 19 (Fz23.sig f)
abbrev Fz26.A : Type := ((List (List Zb)) × Int)
abbrev Fz26.B : Type := Int
def Fz26.dec (avs : List AV) : Option ((List (List Zb)) × Int) := match avs with
  | [a0, a1] => (a0.toList (.arr 12 (.st (.pair (.int .u8) (.int .i16))))).bind fun x0 => (a1.toVal (.int .i64)).bind fun x1 => some (x0, x1)
  | _ => none
theorem Fz26.dec_eq {avs : List AV} {x : ((List (List Zb)) × Int)} (h : Fz26.dec avs = some x) : ∃ e0, avs = [.obj false ⟨e0, (.arr 12 (.st (.pair (.int .u8) (.int .i16)))), x.1⟩, .val (.int .i64) x.2] := by
  unfold Fz26.dec at h
  split at h
  · obtain ⟨x0, hx0, hh1⟩ := Option.bind_eq_some_iff.1 h
    obtain ⟨e0, rfl⟩ := toList_eq hx0
    obtain ⟨x1, hx1, hh2⟩ := Option.bind_eq_some_iff.1 hh1
    obtain rfl := toVal_eq hx1
    obtain rfl := Option.some.inj hh2
    exact ⟨e0, rfl⟩
  · cases h
def Fz26.enc (e : TypeId) (r : Int) : Res := ⟨[.val (.int .i64) r], []⟩
noncomputable def Fz26.sig (f : Fz26.A → Option Fz26.B) : Sig := mkSig [] Fz26.dec f (fun avs r => Fz26.enc 0 r)
abbrev Fz26.S (f : Fz26.A → Option Fz26.B) : Prop := Sound Try.pinned.checked.prog 31 (Fz26.sig f)
abbrev Fz25.A : Type := ((List Zb) × Int)
abbrev Fz25.B : Type := (Int × (List Zb))
def Fz25.dec (avs : List AV) : Option ((List Zb) × Int) := match avs with
  | [a0, a1] => (a0.toList (.st (.pair (.int .u8) (.int .i16)))).bind fun x0 => (a1.toVal (.int .i64)).bind fun x1 => some (x0, x1)
  | _ => none
theorem Fz25.dec_eq {avs : List AV} {x : ((List Zb) × Int)} (h : Fz25.dec avs = some x) : ∃ e0, avs = [.obj false ⟨e0, (.st (.pair (.int .u8) (.int .i16))), x.1⟩, .val (.int .i64) x.2] := by
  unfold Fz25.dec at h
  split at h
  · obtain ⟨x0, hx0, hh1⟩ := Option.bind_eq_some_iff.1 h
    obtain ⟨e0, rfl⟩ := toList_eq hx0
    obtain ⟨x1, hx1, hh2⟩ := Option.bind_eq_some_iff.1 hh1
    obtain rfl := toVal_eq hx1
    obtain rfl := Option.some.inj hh2
    exact ⟨e0, rfl⟩
  · cases h
def Fz25.enc (e : TypeId) (r : (Int × (List Zb))) : Res := ⟨[.val (.int .i64) r.1], [⟨e, (.st (.pair (.int .u8) (.int .i16))), r.2⟩]⟩
noncomputable def Fz25.sig (f : Fz25.A → Option Fz25.B) : Sig := mkSig [0] Fz25.dec f (fun avs r => Fz25.enc (avs.getD 0 (.val .bool false)).elem r)
abbrev Fz25.S (f : Fz25.A → Option Fz25.B) : Prop := Sound Try.pinned.checked.prog 45 (Fz25.sig f)
abbrev Fz24.A : Type := ((List Zb) × Int)
abbrev Fz24.B : Type := Int
def Fz24.dec (avs : List AV) : Option ((List Zb) × Int) := match avs with
  | [a0, a1] => (a0.toList (.st (.pair (.int .u8) (.int .i16)))).bind fun x0 => (a1.toVal (.int .i64)).bind fun x1 => some (x0, x1)
  | _ => none
theorem Fz24.dec_eq {avs : List AV} {x : ((List Zb) × Int)} (h : Fz24.dec avs = some x) : ∃ e0, avs = [.obj false ⟨e0, (.st (.pair (.int .u8) (.int .i16))), x.1⟩, .val (.int .i64) x.2] := by
  unfold Fz24.dec at h
  split at h
  · obtain ⟨x0, hx0, hh1⟩ := Option.bind_eq_some_iff.1 h
    obtain ⟨e0, rfl⟩ := toList_eq hx0
    obtain ⟨x1, hx1, hh2⟩ := Option.bind_eq_some_iff.1 hh1
    obtain rfl := toVal_eq hx1
    obtain rfl := Option.some.inj hh2
    exact ⟨e0, rfl⟩
  · cases h
def Fz24.enc (e : TypeId) (r : Int) : Res := ⟨[.val (.int .i64) r], []⟩
noncomputable def Fz24.sig (f : Fz24.A → Option Fz24.B) : Sig := mkSig [] Fz24.dec f (fun avs r => Fz24.enc 0 r)
abbrev Fz24.S (f : Fz24.A → Option Fz24.B) : Prop := Sound Try.pinned.checked.prog 46 (Fz24.sig f)
abbrev laws_FnExactBestLabels.A : Type := (List (List Zb))
abbrev laws_FnExactBestLabels.B : Type := Bool
def laws_FnExactBestLabels.dec (avs : List AV) : Option (List (List Zb)) := match avs with
  | [a0] => (a0.toList (.arr 12 (.st (.pair (.int .u8) (.int .i16))))).bind fun x0 => some x0
  | _ => none
theorem laws_FnExactBestLabels.dec_eq {avs : List AV} {x : (List (List Zb))} (h : laws_FnExactBestLabels.dec avs = some x) : ∃ e0, avs = [.obj false ⟨e0, (.arr 12 (.st (.pair (.int .u8) (.int .i16)))), x⟩] := by
  unfold laws_FnExactBestLabels.dec at h
  split at h
  · obtain ⟨x0, hx0, hh1⟩ := Option.bind_eq_some_iff.1 h
    obtain ⟨e0, rfl⟩ := toList_eq hx0
    obtain rfl := Option.some.inj hh1
    exact ⟨e0, rfl⟩
  · cases h
def laws_FnExactBestLabels.enc (e : TypeId) (r : Bool) : Res := ⟨[.val .bool r], []⟩
noncomputable def laws_FnExactBestLabels.sig (f : laws_FnExactBestLabels.A → Option laws_FnExactBestLabels.B) : Sig := mkSig [] laws_FnExactBestLabels.dec f (fun avs r => laws_FnExactBestLabels.enc 0 r)
abbrev laws_FnExactBestLabels.S (f : laws_FnExactBestLabels.A → Option laws_FnExactBestLabels.B) : Prop := Sound Try.pinned.checked.prog 10 (laws_FnExactBestLabels.sig f)
abbrev Fz4.A : Type := Int
abbrev Fz4.B : Type := Bool
def Fz4.dec (avs : List AV) : Option Int := match avs with
  | [a0] => (a0.toVal (.int .u8)).bind fun x0 => some x0
  | _ => none
theorem Fz4.dec_eq {avs : List AV} {x : Int} (h : Fz4.dec avs = some x) : avs = [.val (.int .u8) x] := by
  unfold Fz4.dec at h
  split at h
  · obtain ⟨x0, hx0, hh1⟩ := Option.bind_eq_some_iff.1 h
    obtain rfl := toVal_eq hx0
    obtain rfl := Option.some.inj hh1
    exact rfl
  · cases h
def Fz4.enc (e : TypeId) (r : Bool) : Res := ⟨[.val .bool r], []⟩
noncomputable def Fz4.sig (f : Fz4.A → Option Fz4.B) : Sig := mkSig [] Fz4.dec f (fun avs r => Fz4.enc 0 r)
abbrev Fz4.S (f : Fz4.A → Option Fz4.B) : Prop := Sound Try.pinned.checked.prog 148 (Fz4.sig f)
abbrev Fz1.A : Type := Zb
abbrev Fz1.B : Type := Int
def Fz1.dec (avs : List AV) : Option Zb := match avs with
  | [a0, a1] => (a0.toVal (.int .u8)).bind fun x0 => (a1.toVal (.int .u8)).bind fun x1 => some (x0, x1)
  | _ => none
theorem Fz1.dec_eq {avs : List AV} {x : Zb} (h : Fz1.dec avs = some x) : avs = [.val (.int .u8) x.1, .val (.int .u8) x.2] := by
  unfold Fz1.dec at h
  split at h
  · obtain ⟨x0, hx0, hh1⟩ := Option.bind_eq_some_iff.1 h
    obtain rfl := toVal_eq hx0
    obtain ⟨x1, hx1, hh2⟩ := Option.bind_eq_some_iff.1 hh1
    obtain rfl := toVal_eq hx1
    obtain rfl := Option.some.inj hh2
    exact rfl
  · cases h
def Fz1.enc (e : TypeId) (r : Int) : Res := ⟨[.val (.int .i64) r], []⟩
noncomputable def Fz1.sig (f : Fz1.A → Option Fz1.B) : Sig := mkSig [] Fz1.dec f (fun avs r => Fz1.enc 0 r)
abbrev Fz1.S (f : Fz1.A → Option Fz1.B) : Prop := Sound Try.pinned.checked.prog 133 (Fz1.sig f)
abbrev Fz3.A : Type := Int
abbrev Fz3.B : Type := Bool
def Fz3.dec (avs : List AV) : Option Int := match avs with
  | [a0] => (a0.toVal (.int .i16)).bind fun x0 => some x0
  | _ => none
theorem Fz3.dec_eq {avs : List AV} {x : Int} (h : Fz3.dec avs = some x) : avs = [.val (.int .i16) x] := by
  unfold Fz3.dec at h
  split at h
  · obtain ⟨x0, hx0, hh1⟩ := Option.bind_eq_some_iff.1 h
    obtain rfl := toVal_eq hx0
    obtain rfl := Option.some.inj hh1
    exact rfl
  · cases h
def Fz3.enc (e : TypeId) (r : Bool) : Res := ⟨[.val .bool r], []⟩
noncomputable def Fz3.sig (f : Fz3.A → Option Fz3.B) : Sig := mkSig [] Fz3.dec f (fun avs r => Fz3.enc 0 r)
abbrev Fz3.S (f : Fz3.A → Option Fz3.B) : Prop := Sound Try.pinned.checked.prog 149 (Fz3.sig f)
abbrev Fz0.A : Type := Zb
abbrev Fz0.B : Type := Int
def Fz0.dec (avs : List AV) : Option Zb := match avs with
  | [a0, a1] => (a0.toVal (.int .i16)).bind fun x0 => (a1.toVal (.int .i16)).bind fun x1 => some (x0, x1)
  | _ => none
theorem Fz0.dec_eq {avs : List AV} {x : Zb} (h : Fz0.dec avs = some x) : avs = [.val (.int .i16) x.1, .val (.int .i16) x.2] := by
  unfold Fz0.dec at h
  split at h
  · obtain ⟨x0, hx0, hh1⟩ := Option.bind_eq_some_iff.1 h
    obtain rfl := toVal_eq hx0
    obtain ⟨x1, hx1, hh2⟩ := Option.bind_eq_some_iff.1 hh1
    obtain rfl := toVal_eq hx1
    obtain rfl := Option.some.inj hh2
    exact rfl
  · cases h
def Fz0.enc (e : TypeId) (r : Int) : Res := ⟨[.val (.int .i64) r], []⟩
noncomputable def Fz0.sig (f : Fz0.A → Option Fz0.B) : Sig := mkSig [] Fz0.dec f (fun avs r => Fz0.enc 0 r)
abbrev Fz0.S (f : Fz0.A → Option Fz0.B) : Prop := Sound Try.pinned.checked.prog 134 (Fz0.sig f)
abbrev Fz2.A : Type := (List Int)
abbrev Fz2.B : Type := Int
def Fz2.dec (avs : List AV) : Option (List Int) := match avs with
  | [a0] => (a0.toList (.int .i64)).bind fun x0 => some x0
  | _ => none
theorem Fz2.dec_eq {avs : List AV} {x : (List Int)} (h : Fz2.dec avs = some x) : ∃ e0, avs = [.obj false ⟨e0, (.int .i64), x⟩] := by
  unfold Fz2.dec at h
  split at h
  · obtain ⟨x0, hx0, hh1⟩ := Option.bind_eq_some_iff.1 h
    obtain ⟨e0, rfl⟩ := toList_eq hx0
    obtain rfl := Option.some.inj hh1
    exact ⟨e0, rfl⟩
  · cases h
def Fz2.enc (e : TypeId) (r : Int) : Res := ⟨[.val (.int .i64) r], []⟩
noncomputable def Fz2.sig (f : Fz2.A → Option Fz2.B) : Sig := mkSig [] Fz2.dec f (fun avs r => Fz2.enc 0 r)
abbrev Fz2.S (f : Fz2.A → Option Fz2.B) : Prop := Sound Try.pinned.checked.prog 132 (Fz2.sig f)
abbrev Fz15.A : Type := (Zb × Zb)
abbrev Fz15.B : Type := Int
def Fz15.dec (avs : List AV) : Option (Zb × Zb) := match avs with
  | [a0, a1] => (a0.toVal (.st (.pair (.int .u8) (.int .i16)))).bind fun x0 => (a1.toVal (.st (.pair (.int .u8) (.int .i16)))).bind fun x1 => some (x0, x1)
  | _ => none
theorem Fz15.dec_eq {avs : List AV} {x : (Zb × Zb)} (h : Fz15.dec avs = some x) : avs = [.val (.st (.pair (.int .u8) (.int .i16))) x.1, .val (.st (.pair (.int .u8) (.int .i16))) x.2] := by
  unfold Fz15.dec at h
  split at h
  · obtain ⟨x0, hx0, hh1⟩ := Option.bind_eq_some_iff.1 h
    obtain rfl := toVal_eq hx0
    obtain ⟨x1, hx1, hh2⟩ := Option.bind_eq_some_iff.1 hh1
    obtain rfl := toVal_eq hx1
    obtain rfl := Option.some.inj hh2
    exact rfl
  · cases h
def Fz15.enc (e : TypeId) (r : Int) : Res := ⟨[.val (.int .i64) r], []⟩
noncomputable def Fz15.sig (f : Fz15.A → Option Fz15.B) : Sig := mkSig [] Fz15.dec f (fun avs r => Fz15.enc 0 r)
abbrev Fz15.S (f : Fz15.A → Option Fz15.B) : Prop := Sound Try.pinned.checked.prog 113 (Fz15.sig f)
abbrev Fz51.A : Type := Zb
abbrev Fz51.B : Type := Bool
def Fz51.dec (avs : List AV) : Option Zb := match avs with
  | [a0] => (a0.toVal (.st (.pair (.int .u8) (.int .i16)))).bind fun x0 => some x0
  | _ => none
theorem Fz51.dec_eq {avs : List AV} {x : Zb} (h : Fz51.dec avs = some x) : avs = [.val (.st (.pair (.int .u8) (.int .i16))) x] := by
  unfold Fz51.dec at h
  split at h
  · obtain ⟨x0, hx0, hh1⟩ := Option.bind_eq_some_iff.1 h
    obtain rfl := toVal_eq hx0
    obtain rfl := Option.some.inj hh1
    exact rfl
  · cases h
def Fz51.enc (e : TypeId) (r : Bool) : Res := ⟨[.val .bool r], []⟩
noncomputable def Fz51.sig (f : Fz51.A → Option Fz51.B) : Sig := mkSig [] Fz51.dec f (fun avs r => Fz51.enc 0 r)
abbrev Fz51.S (f : Fz51.A → Option Fz51.B) : Prop := Sound Try.pinned.checked.prog 105 (Fz51.sig f)
abbrev Fz47.A : Type := (Int × Int × Int)
abbrev Fz47.B : Type := Bool
def Fz47.dec (avs : List AV) : Option (Int × Int × Int) := match avs with
  | [a0, a1, a2] => (a0.toVal (.int .i64)).bind fun x0 => (a1.toVal (.int .i64)).bind fun x1 => (a2.toVal (.int .i64)).bind fun x2 => some (x0, x1, x2)
  | _ => none
theorem Fz47.dec_eq {avs : List AV} {x : (Int × Int × Int)} (h : Fz47.dec avs = some x) : avs = [.val (.int .i64) x.1, .val (.int .i64) x.2.1, .val (.int .i64) x.2.2] := by
  unfold Fz47.dec at h
  split at h
  · obtain ⟨x0, hx0, hh1⟩ := Option.bind_eq_some_iff.1 h
    obtain rfl := toVal_eq hx0
    obtain ⟨x1, hx1, hh2⟩ := Option.bind_eq_some_iff.1 hh1
    obtain rfl := toVal_eq hx1
    obtain ⟨x2, hx2, hh3⟩ := Option.bind_eq_some_iff.1 hh2
    obtain rfl := toVal_eq hx2
    obtain rfl := Option.some.inj hh3
    exact rfl
  · cases h
def Fz47.enc (e : TypeId) (r : Bool) : Res := ⟨[.val .bool r], []⟩
noncomputable def Fz47.sig (f : Fz47.A → Option Fz47.B) : Sig := mkSig [] Fz47.dec f (fun avs r => Fz47.enc 0 r)
abbrev Fz47.S (f : Fz47.A → Option Fz47.B) : Prop := Sound Try.pinned.checked.prog 99 (Fz47.sig f)
abbrev Fz49.A : Type := Zb
abbrev Fz49.B : Type := Bool
def Fz49.dec (avs : List AV) : Option Zb := match avs with
  | [a0] => (a0.toVal (.st (.pair (.int .u8) (.int .i16)))).bind fun x0 => some x0
  | _ => none
theorem Fz49.dec_eq {avs : List AV} {x : Zb} (h : Fz49.dec avs = some x) : avs = [.val (.st (.pair (.int .u8) (.int .i16))) x] := by
  unfold Fz49.dec at h
  split at h
  · obtain ⟨x0, hx0, hh1⟩ := Option.bind_eq_some_iff.1 h
    obtain rfl := toVal_eq hx0
    obtain rfl := Option.some.inj hh1
    exact rfl
  · cases h
def Fz49.enc (e : TypeId) (r : Bool) : Res := ⟨[.val .bool r], []⟩
noncomputable def Fz49.sig (f : Fz49.A → Option Fz49.B) : Sig := mkSig [] Fz49.dec f (fun avs r => Fz49.enc 0 r)
abbrev Fz49.S (f : Fz49.A → Option Fz49.B) : Prop := Sound Try.pinned.checked.prog 53 (Fz49.sig f)
abbrev Fz52.A : Type := (List Zb)
abbrev Fz52.B : Type := Bool
def Fz52.dec (avs : List AV) : Option (List Zb) := match avs with
  | [a0] => (a0.toBox (.arr 12 (.st (.pair (.int .u8) (.int .i16))))).bind fun x0 => some x0
  | _ => none
theorem Fz52.dec_eq {avs : List AV} {x : (List Zb)} (h : Fz52.dec avs = some x) : ∃ e0, avs = [.obj true ⟨e0, (.arr 12 (.st (.pair (.int .u8) (.int .i16)))), [x]⟩] := by
  unfold Fz52.dec at h
  split at h
  · obtain ⟨x0, hx0, hh1⟩ := Option.bind_eq_some_iff.1 h
    obtain ⟨e0, rfl⟩ := toBox_eq hx0
    obtain rfl := Option.some.inj hh1
    exact ⟨e0, rfl⟩
  · cases h
def Fz52.enc (e : TypeId) (r : Bool) : Res := ⟨[.val .bool r], []⟩
noncomputable def Fz52.sig (f : Fz52.A → Option Fz52.B) : Sig := mkSig [] Fz52.dec f (fun avs r => Fz52.enc 0 r)
abbrev Fz52.S (f : Fz52.A → Option Fz52.B) : Prop := Sound Try.pinned.checked.prog 64 (Fz52.sig f)
abbrev Fz54.A : Type := (List (List Zb))
abbrev Fz54.B : Type := Bool
def Fz54.dec (avs : List AV) : Option (List (List Zb)) := match avs with
  | [a0] => (a0.toList (.arr 12 (.st (.pair (.int .u8) (.int .i16))))).bind fun x0 => some x0
  | _ => none
theorem Fz54.dec_eq {avs : List AV} {x : (List (List Zb))} (h : Fz54.dec avs = some x) : ∃ e0, avs = [.obj false ⟨e0, (.arr 12 (.st (.pair (.int .u8) (.int .i16)))), x⟩] := by
  unfold Fz54.dec at h
  split at h
  · obtain ⟨x0, hx0, hh1⟩ := Option.bind_eq_some_iff.1 h
    obtain ⟨e0, rfl⟩ := toList_eq hx0
    obtain rfl := Option.some.inj hh1
    exact ⟨e0, rfl⟩
  · cases h
def Fz54.enc (e : TypeId) (r : Bool) : Res := ⟨[.val .bool r], []⟩
noncomputable def Fz54.sig (f : Fz54.A → Option Fz54.B) : Sig := mkSig [] Fz54.dec f (fun avs r => Fz54.enc 0 r)
abbrev Fz54.S (f : Fz54.A → Option Fz54.B) : Prop := Sound Try.pinned.checked.prog 52 (Fz54.sig f)
abbrev Fz48.A : Type := (List Zb)
abbrev Fz48.B : Type := (List Zb)
def Fz48.dec (avs : List AV) : Option (List Zb) := match avs with
  | [a0] => (a0.toBox (.arr 12 (.st (.pair (.int .u8) (.int .i16))))).bind fun x0 => some x0
  | _ => none
theorem Fz48.dec_eq {avs : List AV} {x : (List Zb)} (h : Fz48.dec avs = some x) : ∃ e0, avs = [.obj true ⟨e0, (.arr 12 (.st (.pair (.int .u8) (.int .i16)))), [x]⟩] := by
  unfold Fz48.dec at h
  split at h
  · obtain ⟨x0, hx0, hh1⟩ := Option.bind_eq_some_iff.1 h
    obtain ⟨e0, rfl⟩ := toBox_eq hx0
    obtain rfl := Option.some.inj hh1
    exact ⟨e0, rfl⟩
  · cases h
def Fz48.enc (e : TypeId) (r : (List Zb)) : Res := ⟨[.own ⟨41, (.st (.pair (.int .u8) (.int .i16))), r⟩], []⟩
noncomputable def Fz48.sig (f : Fz48.A → Option Fz48.B) : Sig := mkSig [] Fz48.dec f (fun avs r => Fz48.enc 0 r)
abbrev Fz48.S (f : Fz48.A → Option Fz48.B) : Prop := Sound Try.pinned.checked.prog 71 (Fz48.sig f)
abbrev Fz46.A : Type := (Zb × Zb)
abbrev Fz46.B : Type := Int
def Fz46.dec (avs : List AV) : Option (Zb × Zb) := match avs with
  | [a0, a1] => (a0.toVal (.st (.pair (.int .u8) (.int .i16)))).bind fun x0 => (a1.toVal (.st (.pair (.int .u8) (.int .i16)))).bind fun x1 => some (x0, x1)
  | _ => none
theorem Fz46.dec_eq {avs : List AV} {x : (Zb × Zb)} (h : Fz46.dec avs = some x) : avs = [.val (.st (.pair (.int .u8) (.int .i16))) x.1, .val (.st (.pair (.int .u8) (.int .i16))) x.2] := by
  unfold Fz46.dec at h
  split at h
  · obtain ⟨x0, hx0, hh1⟩ := Option.bind_eq_some_iff.1 h
    obtain rfl := toVal_eq hx0
    obtain ⟨x1, hx1, hh2⟩ := Option.bind_eq_some_iff.1 hh1
    obtain rfl := toVal_eq hx1
    obtain rfl := Option.some.inj hh2
    exact rfl
  · cases h
def Fz46.enc (e : TypeId) (r : Int) : Res := ⟨[.val (.int .i64) r], []⟩
noncomputable def Fz46.sig (f : Fz46.A → Option Fz46.B) : Sig := mkSig [] Fz46.dec f (fun avs r => Fz46.enc 0 r)
abbrev Fz46.S (f : Fz46.A → Option Fz46.B) : Prop := Sound Try.pinned.checked.prog 114 (Fz46.sig f)
abbrev Fz53.A : Type := (List Zb)
abbrev Fz53.B : Type := (List Zb)
def Fz53.dec (avs : List AV) : Option (List Zb) := match avs with
  | [a0] => (a0.toList (.st (.pair (.int .u8) (.int .i16)))).bind fun x0 => some x0
  | _ => none
theorem Fz53.dec_eq {avs : List AV} {x : (List Zb)} (h : Fz53.dec avs = some x) : ∃ e0, avs = [.obj false ⟨e0, (.st (.pair (.int .u8) (.int .i16))), x⟩] := by
  unfold Fz53.dec at h
  split at h
  · obtain ⟨x0, hx0, hh1⟩ := Option.bind_eq_some_iff.1 h
    obtain ⟨e0, rfl⟩ := toList_eq hx0
    obtain rfl := Option.some.inj hh1
    exact ⟨e0, rfl⟩
  · cases h
def Fz53.enc (e : TypeId) (r : (List Zb)) : Res := ⟨[.own ⟨41, (.st (.pair (.int .u8) (.int .i16))), r⟩], []⟩
noncomputable def Fz53.sig (f : Fz53.A → Option Fz53.B) : Sig := mkSig [] Fz53.dec f (fun avs r => Fz53.enc 0 r)
abbrev Fz53.S (f : Fz53.A → Option Fz53.B) : Prop := Sound Try.pinned.checked.prog 70 (Fz53.sig f)
abbrev Fz55.A : Type := (List (List Zb))
abbrev Fz55.B : Type := (List Zb)
def Fz55.dec (avs : List AV) : Option (List (List Zb)) := match avs with
  | [a0] => (a0.toList (.arr 12 (.st (.pair (.int .u8) (.int .i16))))).bind fun x0 => some x0
  | _ => none
theorem Fz55.dec_eq {avs : List AV} {x : (List (List Zb))} (h : Fz55.dec avs = some x) : ∃ e0, avs = [.obj false ⟨e0, (.arr 12 (.st (.pair (.int .u8) (.int .i16)))), x⟩] := by
  unfold Fz55.dec at h
  split at h
  · obtain ⟨x0, hx0, hh1⟩ := Option.bind_eq_some_iff.1 h
    obtain ⟨e0, rfl⟩ := toList_eq hx0
    obtain rfl := Option.some.inj hh1
    exact ⟨e0, rfl⟩
  · cases h
def Fz55.enc (e : TypeId) (r : (List Zb)) : Res := ⟨[.own ⟨41, (.st (.pair (.int .u8) (.int .i16))), r⟩], []⟩
noncomputable def Fz55.sig (f : Fz55.A → Option Fz55.B) : Sig := mkSig [] Fz55.dec f (fun avs r => Fz55.enc 0 r)
abbrev Fz55.S (f : Fz55.A → Option Fz55.B) : Prop := Sound Try.pinned.checked.prog 74 (Fz55.sig f)
abbrev Fz50.A : Type := (List Zb)
abbrev Fz50.B : Type := (List Zs)
def Fz50.dec (avs : List AV) : Option (List Zb) := match avs with
  | [a0] => (a0.toList (.st (.pair (.int .u8) (.int .i16)))).bind fun x0 => some x0
  | _ => none
theorem Fz50.dec_eq {avs : List AV} {x : (List Zb)} (h : Fz50.dec avs = some x) : ∃ e0, avs = [.obj false ⟨e0, (.st (.pair (.int .u8) (.int .i16))), x⟩] := by
  unfold Fz50.dec at h
  split at h
  · obtain ⟨x0, hx0, hh1⟩ := Option.bind_eq_some_iff.1 h
    obtain ⟨e0, rfl⟩ := toList_eq hx0
    obtain rfl := Option.some.inj hh1
    exact ⟨e0, rfl⟩
  · cases h
def Fz50.enc (e : TypeId) (r : (List Zs)) : Res := ⟨[.own ⟨90, (.st (.pair (.st (.pair (.int .u8) (.int .i16))) (.int .i64))), r⟩], []⟩
noncomputable def Fz50.sig (f : Fz50.A → Option Fz50.B) : Sig := mkSig [] Fz50.dec f (fun avs r => Fz50.enc 0 r)
abbrev Fz50.S (f : Fz50.A → Option Fz50.B) : Prop := Sound Try.pinned.checked.prog 69 (Fz50.sig f)
abbrev Fz56.A : Type := ((List Zb) × Zb)
abbrev Fz56.B : Type := Int
def Fz56.dec (avs : List AV) : Option ((List Zb) × Zb) := match avs with
  | [a0, a1] => (a0.toBox (.arr 12 (.st (.pair (.int .u8) (.int .i16))))).bind fun x0 => (a1.toVal (.st (.pair (.int .u8) (.int .i16)))).bind fun x1 => some (x0, x1)
  | _ => none
theorem Fz56.dec_eq {avs : List AV} {x : ((List Zb) × Zb)} (h : Fz56.dec avs = some x) : ∃ e0, avs = [.obj true ⟨e0, (.arr 12 (.st (.pair (.int .u8) (.int .i16)))), [x.1]⟩, .val (.st (.pair (.int .u8) (.int .i16))) x.2] := by
  unfold Fz56.dec at h
  split at h
  · obtain ⟨x0, hx0, hh1⟩ := Option.bind_eq_some_iff.1 h
    obtain ⟨e0, rfl⟩ := toBox_eq hx0
    obtain ⟨x1, hx1, hh2⟩ := Option.bind_eq_some_iff.1 hh1
    obtain rfl := toVal_eq hx1
    obtain rfl := Option.some.inj hh2
    exact ⟨e0, rfl⟩
  · cases h
def Fz56.enc (e : TypeId) (r : Int) : Res := ⟨[.val (.int .i64) r], []⟩
noncomputable def Fz56.sig (f : Fz56.A → Option Fz56.B) : Sig := mkSig [] Fz56.dec f (fun avs r => Fz56.enc 0 r)
abbrev Fz56.S (f : Fz56.A → Option Fz56.B) : Prop := Sound Try.pinned.checked.prog 54 (Fz56.sig f)
end Go.Proofs.Ytjajlmaldeoobaa.G
