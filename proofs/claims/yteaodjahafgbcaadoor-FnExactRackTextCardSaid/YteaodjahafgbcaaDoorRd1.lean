import Derived.Test.YteaodjahafgbcaaDoorSg
namespace Go.Proofs.YteaodjahafgbcaaDoor.G
open Go Go.Proofs
set_option linter.unusedVariables false
set_option linter.unusedSimpArgs false
set_option maxRecDepth 100000
/-! 43 impl_ValidBottle -/
noncomputable def Fz2.tab (fFz8 : Fz8.A → Option Fz8.B) : FuncId → Option Sig := tabOf [(54, Fz8.sig fFz8)]
noncomputable def Fz2.E (fFz8 : Fz8.A → Option Fz8.B) : Env := ⟨TT, small, Fz2.tab fFz8, 0, 13⟩
def Fz2.ann : Ann := .nil
noncomputable def Fz2.pf {α : Type} (fFz8 : Fz8.A → Option Fz8.B) (fuel : Nat) (a0 : (Int × Int)) (k : Bool → Option α) : Option α :=
  (fFz8 ((IntKind.i64.wrap a0.1), (1 : Int), (20 : Int))).bind fun r1 => cond r1 ((fFz8 ((IntKind.i64.wrap a0.2), (1900 : Int), (2099 : Int))).bind fun r2 => k r2) (k false)
theorem Fz2.red {α : Type} (fFz8 : Fz8.A → Option Fz8.B) (K : Res → Option α) (fuel : Nat) (a0 : (Int × Int)) : run TT small (Fz2.tab fFz8) Tryd.f43 Fz2.ann [] fuel [.val (.st (.pair (.int .u8) (.int .i16))) a0] K = Fz2.pf fFz8 fuel a0 (fun r => K (Fz2.enc 0 r)) := by kernel_rfl
theorem Fz2.sound (fFz8 : Fz8.A → Option Fz8.B) (hFz8 : Fz8.S fFz8) (f : Fz2.A → Option Fz2.B) (hf : ∀ x r, f x = some r → ∃ fuel, ∀ k : Fz2.B → Option Res, Fz2.pf fFz8 fuel x k = k r) : Fz2.S f := by
  refine fn_sound (by kernel_rfl) (ttok _) (tab_sound [(54, Fz8.sig fFz8)] (List.forall_mem_cons.2 ⟨hFz8, fun p hp => nomatch hp⟩)) (fn := Tryd.f43) (by kernel_rfl) (by decide) (by decide) Fz2.ann [] _ rfl (fun avs r hr => ?_) (by kernel_rfl)
  obtain ⟨x, y, h1, h2, rfl⟩ := mkSig_run hr
  obtain rfl := Fz2.dec_eq h1
  obtain ⟨fuel, hk⟩ := hf x y h2
  exact ⟨fuel, (Fz2.red fFz8 some fuel x).trans (hk (fun r => some (Fz2.enc 0 r)))⟩
theorem Fz2.of_cl {fFz8 : Fz8.A → Option Fz8.B} (hFz8 : Fz8.S fFz8) {P : Fz2.A → Prop} {v : Fz2.A → Fz2.B} (hp : ∀ x, P x → ∀ k : Fz2.B → Option Res, Fz2.pf fFz8 BIG x k = k (v x)) : Fz2.S (cl P v) := Fz2.sound _ hFz8 _ (fun x r hr => by obtain ⟨h1, rfl⟩ := cl_some hr; exact ⟨BIG, hp x h1⟩)
theorem Fz2.of_tot {fFz8 : Fz8.A → Option Fz8.B} (hFz8 : Fz8.S fFz8) {v : Fz2.A → Fz2.B} (hp : ∀ x, ∀ k : Fz2.B → Option Res, Fz2.pf fFz8 BIG x k = k (v x)) : Fz2.S (tot v) := Fz2.sound _ hFz8 _ (fun x r hr => by obtain rfl := Option.some.inj hr; exact ⟨BIG, hp x⟩)
/-! 42 impl_validStored -/
noncomputable def Fz7.tab (fFz2 : Fz2.A → Option Fz2.B) (fFz8 : Fz8.A → Option Fz8.B) : FuncId → Option Sig := tabOf [(43, Fz2.sig fFz2), (54, Fz8.sig fFz8)]
noncomputable def Fz7.E (fFz2 : Fz2.A → Option Fz2.B) (fFz8 : Fz8.A → Option Fz8.B) : Env := ⟨TT, small, Fz7.tab fFz2 fFz8, 0, 12⟩
def Fz7.ann : Ann := .nil
noncomputable def Fz7.pf {α : Type} (fFz2 : Fz2.A → Option Fz2.B) (fFz8 : Fz8.A → Option Fz8.B) (fuel : Nat) (a0 : ((Int × Int) × Int)) (k : Bool → Option α) : Option α :=
  (fFz2 a0.1).bind fun r1 => cond r1 ((fFz8 ((IntKind.i64.wrap a0.2), (0 : Int), (2000 : Int))).bind fun r2 => k r2) (k false)
theorem Fz7.red {α : Type} (fFz2 : Fz2.A → Option Fz2.B) (fFz8 : Fz8.A → Option Fz8.B) (K : Res → Option α) (fuel : Nat) (a0 : ((Int × Int) × Int)) : run TT small (Fz7.tab fFz2 fFz8) Tryd.f42 Fz7.ann [] fuel [.val (.st (.pair (.st (.pair (.int .u8) (.int .i16))) (.int .i16))) a0] K = Fz7.pf fFz2 fFz8 fuel a0 (fun r => K (Fz7.enc 0 r)) := by kernel_rfl
theorem Fz7.sound (fFz2 : Fz2.A → Option Fz2.B) (fFz8 : Fz8.A → Option Fz8.B) (hFz2 : Fz2.S fFz2) (hFz8 : Fz8.S fFz8) (f : Fz7.A → Option Fz7.B) (hf : ∀ x r, f x = some r → ∃ fuel, ∀ k : Fz7.B → Option Res, Fz7.pf fFz2 fFz8 fuel x k = k r) : Fz7.S f := by
  refine fn_sound (by kernel_rfl) (ttok _) (tab_sound [(43, Fz2.sig fFz2), (54, Fz8.sig fFz8)] (List.forall_mem_cons.2 ⟨hFz2, List.forall_mem_cons.2 ⟨hFz8, fun p hp => nomatch hp⟩⟩)) (fn := Tryd.f42) (by kernel_rfl) (by decide) (by decide) Fz7.ann [] _ rfl (fun avs r hr => ?_) (by kernel_rfl)
  obtain ⟨x, y, h1, h2, rfl⟩ := mkSig_run hr
  obtain rfl := Fz7.dec_eq h1
  obtain ⟨fuel, hk⟩ := hf x y h2
  exact ⟨fuel, (Fz7.red fFz2 fFz8 some fuel x).trans (hk (fun r => some (Fz7.enc 0 r)))⟩
theorem Fz7.of_cl {fFz2 : Fz2.A → Option Fz2.B} {fFz8 : Fz8.A → Option Fz8.B} (hFz2 : Fz2.S fFz2) (hFz8 : Fz8.S fFz8) {P : Fz7.A → Prop} {v : Fz7.A → Fz7.B} (hp : ∀ x, P x → ∀ k : Fz7.B → Option Res, Fz7.pf fFz2 fFz8 BIG x k = k (v x)) : Fz7.S (cl P v) := Fz7.sound _ _ hFz2 hFz8 _ (fun x r hr => by obtain ⟨h1, rfl⟩ := cl_some hr; exact ⟨BIG, hp x h1⟩)
theorem Fz7.of_tot {fFz2 : Fz2.A → Option Fz2.B} {fFz8 : Fz8.A → Option Fz8.B} (hFz2 : Fz2.S fFz2) (hFz8 : Fz8.S fFz8) {v : Fz7.A → Fz7.B} (hp : ∀ x, ∀ k : Fz7.B → Option Res, Fz7.pf fFz2 fFz8 BIG x k = k (v x)) : Fz7.S (tot v) := Fz7.sound _ _ hFz2 hFz8 _ (fun x r hr => by obtain rfl := Option.some.inj hr; exact ⟨BIG, hp x⟩)
/-! 41 impl_ValidRack_1_1 -/
noncomputable def Fz5.tab (fFz7 : Fz7.A → Option Fz7.B) : FuncId → Option Sig := tabOf [(42, Fz7.sig fFz7)]
noncomputable def Fz5.E (fFz7 : Fz7.A → Option Fz7.B) : Env := ⟨TT, small, Fz5.tab fFz7, 0, 6⟩
def Fz5.ann : Ann := .nil
noncomputable def Fz5.pf {α : Type} (fFz7 : Fz7.A → Option Fz7.B) (fuel : Nat) (a0 : ((Int × Int) × Int)) (k : Bool → Option α) : Option α :=
  (fFz7 a0).bind fun r1 => k (!r1)
theorem Fz5.red {α : Type} (fFz7 : Fz7.A → Option Fz7.B) (K : Res → Option α) (fuel : Nat) (a0 : ((Int × Int) × Int)) : run TT small (Fz5.tab fFz7) Tryd.f41 Fz5.ann [] fuel [.val (.st (.pair (.st (.pair (.int .u8) (.int .i16))) (.int .i16))) a0] K = Fz5.pf fFz7 fuel a0 (fun r => K (Fz5.enc 0 r)) := by kernel_rfl
theorem Fz5.sound (fFz7 : Fz7.A → Option Fz7.B) (hFz7 : Fz7.S fFz7) (f : Fz5.A → Option Fz5.B) (hf : ∀ x r, f x = some r → ∃ fuel, ∀ k : Fz5.B → Option Res, Fz5.pf fFz7 fuel x k = k r) : Fz5.S f := by
  refine fn_sound (by kernel_rfl) (ttok _) (tab_sound [(42, Fz7.sig fFz7)] (List.forall_mem_cons.2 ⟨hFz7, fun p hp => nomatch hp⟩)) (fn := Tryd.f41) (by kernel_rfl) (by decide) (by decide) Fz5.ann [] _ rfl (fun avs r hr => ?_) (by kernel_rfl)
  obtain ⟨x, y, h1, h2, rfl⟩ := mkSig_run hr
  obtain rfl := Fz5.dec_eq h1
  obtain ⟨fuel, hk⟩ := hf x y h2
  exact ⟨fuel, (Fz5.red fFz7 some fuel x).trans (hk (fun r => some (Fz5.enc 0 r)))⟩
theorem Fz5.of_cl {fFz7 : Fz7.A → Option Fz7.B} (hFz7 : Fz7.S fFz7) {P : Fz5.A → Prop} {v : Fz5.A → Fz5.B} (hp : ∀ x, P x → ∀ k : Fz5.B → Option Res, Fz5.pf fFz7 BIG x k = k (v x)) : Fz5.S (cl P v) := Fz5.sound _ hFz7 _ (fun x r hr => by obtain ⟨h1, rfl⟩ := cl_some hr; exact ⟨BIG, hp x h1⟩)
theorem Fz5.of_tot {fFz7 : Fz7.A → Option Fz7.B} (hFz7 : Fz7.S fFz7) {v : Fz5.A → Fz5.B} (hp : ∀ x, ∀ k : Fz5.B → Option Res, Fz5.pf fFz7 BIG x k = k (v x)) : Fz5.S (tot v) := Fz5.sound _ hFz7 _ (fun x r hr => by obtain rfl := Option.some.inj hr; exact ⟨BIG, hp x⟩)
/-! 58 slices_IndexFunc_impl_Stored_impl_Stored__impl_ValidRack_1_1 -/
noncomputable def Fz23.tab (fFz5 : Fz5.A → Option Fz5.B) : FuncId → Option Sig := tabOf [(41, Fz5.sig fFz5)]
noncomputable def Fz23.E (fFz5 : Fz5.A → Option Fz5.B) : Env := ⟨TT, small, Fz23.tab fFz5, 1, 19⟩
def Fz23.ann : Ann := (.two .nil (.two (.two .nil (.one (.loop [0, 1, 7, 8] .nil))) .nil))
noncomputable def Fz23.emb1 (e0 : TypeId) (p1_0 : Int) (p1_1 : (List ((Int × Int) × Int))) (x1 : Int) : St := { slots := mkSlots 19 [(0, .sl 0 [] none), (1, .fn 41 []), (7, .val (.int .i64) p1_0), (8, .val (.int .i64) x1)], objs := mkObjs 39 [(0, .dat ⟨e0, (.st (.pair (.st (.pair (.int .u8) (.int .i16))) (.int .i16))), p1_1, false, false, none⟩)] }
noncomputable def Fz23.LB1 {α : Type} (fFz5 : Fz5.A → Option Fz5.B) (fuel : Nat) (cont : Ex → St → Option α) : (St → Option α) → St → Option α := roundV (Fz23.E fFz5) fuel [true, false, true, false] (bodyOf Tryd.f58) Fz23.ann cont
noncomputable def Fz23.C1 {α : Type} (fFz5 : Fz5.A → Option Fz5.B) (K : Res → Option α) (fuel : Nat) : Ex → St → Option α := contAt (Fz23.E fFz5) fuel [true, false, true, false] (bodyOf Tryd.f58) Fz23.ann [] (finK TT 1 [some 0, none] Tryd.f58 [] K)
noncomputable def Fz23.ex1_0 (e0 : TypeId) (p1_0 : Int) (p1_1 : (List ((Int × Int) × Int))) (x1 : Int) (r1001 : Bool) : St := { slots := mkSlots 19 [(0, .sl 0 [] none), (1, .fn 41 []), (4, .val (.int .i64) x1), (5, .val (.int .i64) x1), (7, .val (.int .i64) p1_0), (8, .val (.int .i64) x1), (9, .val .bool (decide (x1 < p1_0))), (10, .val (.int .i64) x1), (11, .fn 41 []), (12, .sl 0 [] none), (13, .val (.int .i64) x1), (14, .ptr 0 [.idx (x1 : Int).toNat] false), (15, .val (.st (.pair (.st (.pair (.int .u8) (.int .i16))) (.int .i16))) ((List.getD p1_1 (x1 : Int).toNat (((0 : Int), (0 : Int)), (0 : Int))))), (16, .val .bool r1001), (17, .val (.int .i64) x1)], objs := mkObjs 39 [(0, .dat ⟨e0, (.st (.pair (.st (.pair (.int .u8) (.int .i16))) (.int .i16))), p1_1, false, false, none⟩)] }
noncomputable def Fz23.ex1_1 (e0 : TypeId) (p1_0 : Int) (p1_1 : (List ((Int × Int) × Int))) (x1 : Int) : St := { slots := mkSlots 19 [(0, .sl 0 [] none), (1, .fn 41 []), (7, .val (.int .i64) p1_0), (8, .val (.int .i64) x1), (9, .val .bool (decide (x1 < p1_0)))], objs := mkObjs 39 [(0, .dat ⟨e0, (.st (.pair (.st (.pair (.int .u8) (.int .i16))) (.int .i16))), p1_1, false, false, none⟩)] }
noncomputable def Fz23.B1 {α : Type} (fFz5 : Fz5.A → Option Fz5.B) (p1_0 : Int) (p1_1 : (List ((Int × Int) × Int))) (K0 : Int → Bool → Option α) (K1 : Int → Option α) (rec : Int → Option α) (x1 : Int) : Option α :=
  cond (decide (x1 < p1_0)) (cond (inB x1 (List.length p1_1)) ((fFz5 (List.getD p1_1 (x1 : Int).toNat (((0 : Int), (0 : Int)), (0 : Int)))).bind fun r1001 => cond r1001 (K0 x1 r1001) (rec (IntKind.i64.wrap (x1 + (1 : Int))))) none) (K1 x1)
theorem Fz23.step1 {α : Type} (fFz5 : Fz5.A → Option Fz5.B) (fuel : Nat) (cont : Ex → St → Option α) (e0 : TypeId) (p1_0 : Int) (p1_1 : (List ((Int × Int) × Int))) (rec : St → Option α) (x1 : Int) : Fz23.LB1 fFz5 fuel cont rec (Fz23.emb1 e0 p1_0 p1_1 x1) = Fz23.B1 fFz5 p1_0 p1_1 (fun x1 r1001 => cont .ret (Fz23.ex1_0 e0 p1_0 p1_1 x1 r1001)) (fun x1 => cont (.exit 0) (Fz23.ex1_1 e0 p1_0 p1_1 x1)) (fun y => rec (Fz23.emb1 e0 p1_0 p1_1 y)) x1 := by kernel_rfl
theorem Fz23.loop1 {α : Type} (fFz5 : Fz5.A → Option Fz5.B) (fuel : Nat) (cont : Ex → St → Option α) (e0 : TypeId) (p1_0 : Int) (p1_1 : (List ((Int × Int) × Int))) (x1 : Int) : loopN (Fz23.LB1 fFz5 fuel cont) fuel (Fz23.emb1 e0 p1_0 p1_1 x1) = iter (Fz23.B1 fFz5 p1_0 p1_1 (fun x1 r1001 => cont .ret (Fz23.ex1_0 e0 p1_0 p1_1 x1 r1001)) (fun x1 => cont (.exit 0) (Fz23.ex1_1 e0 p1_0 p1_1 x1))) fuel x1 := loop_sim (fun rec x => Fz23.step1 fFz5 fuel cont e0 p1_0 p1_1 rec x) fuel x1
noncomputable def Fz23.pf {α : Type} (fFz5 : Fz5.A → Option Fz5.B) (fuel : Nat) (a0 : (List ((Int × Int) × Int))) (k : Int → Option α) : Option α :=
  iter (Fz23.B1 fFz5 (((List.length a0) : Nat) : Int) a0 (fun (x1 : Int) (r1001 : Bool) => k x1) (fun (x1 : Int) => k (-1 : Int))) fuel (0 : Int)
theorem Fz23.tail1 {α : Type} (fFz5 : Fz5.A → Option Fz5.B) (K : Res → Option α) (fuel : Nat) (e0 : TypeId) (a0 : (List ((Int × Int) × Int))) (x1 : Int) (r1001 : Bool) : Fz23.C1 fFz5 K fuel .ret (Fz23.ex1_0 e0 (((List.length a0) : Nat) : Int) a0 x1 r1001) = ((fun (k : Int → Option α) => k x1) (fun r => K (Fz23.enc 0 r))) := by kernel_rfl
theorem Fz23.tail2 {α : Type} (fFz5 : Fz5.A → Option Fz5.B) (K : Res → Option α) (fuel : Nat) (e0 : TypeId) (a0 : (List ((Int × Int) × Int))) (x1 : Int) : Fz23.C1 fFz5 K fuel (.exit 0) (Fz23.ex1_1 e0 (((List.length a0) : Nat) : Int) a0 x1) = ((fun (k : Int → Option α) => k (-1 : Int)) (fun r => K (Fz23.enc 0 r))) := by kernel_rfl
theorem Fz23.red_raw {α : Type} (fFz5 : Fz5.A → Option Fz5.B) (K : Res → Option α) (fuel : Nat) (e0 : TypeId) (a0 : (List ((Int × Int) × Int))) : run TT small (Fz23.tab fFz5) Tryd.f58 Fz23.ann [] fuel [.obj false ⟨e0, (.st (.pair (.st (.pair (.int .u8) (.int .i16))) (.int .i16))), a0⟩, .fn 41 []] K = loopN (Fz23.LB1 fFz5 fuel (Fz23.C1 fFz5 K fuel)) fuel (Fz23.emb1 e0 (((List.length a0) : Nat) : Int) a0 (0 : Int)) := by kernel_rfl
theorem Fz23.red {α : Type} (fFz5 : Fz5.A → Option Fz5.B) (K : Res → Option α) (fuel : Nat) (e0 : TypeId) (a0 : (List ((Int × Int) × Int))) : run TT small (Fz23.tab fFz5) Tryd.f58 Fz23.ann [] fuel [.obj false ⟨e0, (.st (.pair (.st (.pair (.int .u8) (.int .i16))) (.int .i16))), a0⟩, .fn 41 []] K = Fz23.pf fFz5 fuel a0 (fun r => K (Fz23.enc 0 r)) := by
  rw [Fz23.red_raw]
  simp only [Fz23.loop1, Fz23.tail1, Fz23.tail2]
  all_goals kernel_rfl
theorem Fz23.sound (fFz5 : Fz5.A → Option Fz5.B) (hFz5 : Fz5.S fFz5) (f : Fz23.A → Option Fz23.B) (hf : ∀ x r, f x = some r → ∃ fuel, ∀ k : Fz23.B → Option Res, Fz23.pf fFz5 fuel x k = k r) : Fz23.S f := by
  refine fn_sound (by kernel_rfl) (ttok _) (tab_sound [(41, Fz5.sig fFz5)] (List.forall_mem_cons.2 ⟨hFz5, fun p hp => nomatch hp⟩)) (fn := Tryd.f58) (by kernel_rfl) (by decide) (by decide) Fz23.ann [] _ rfl (fun avs r hr => ?_) (by kernel_rfl)
  obtain ⟨x, y, h1, h2, rfl⟩ := mkSig_run hr
  obtain ⟨e0, rfl⟩ := Fz23.dec_eq h1
  obtain ⟨fuel, hk⟩ := hf x y h2
  exact ⟨fuel, (Fz23.red fFz5 some fuel e0 x).trans (hk (fun r => some (Fz23.enc 0 r)))⟩
theorem Fz23.of_cl {fFz5 : Fz5.A → Option Fz5.B} (hFz5 : Fz5.S fFz5) {P : Fz23.A → Prop} {v : Fz23.A → Fz23.B} (hp : ∀ x, P x → ∀ k : Fz23.B → Option Res, Fz23.pf fFz5 BIG x k = k (v x)) : Fz23.S (cl P v) := Fz23.sound _ hFz5 _ (fun x r hr => by obtain ⟨h1, rfl⟩ := cl_some hr; exact ⟨BIG, hp x h1⟩)
theorem Fz23.of_tot {fFz5 : Fz5.A → Option Fz5.B} (hFz5 : Fz5.S fFz5) {v : Fz23.A → Fz23.B} (hp : ∀ x, ∀ k : Fz23.B → Option Res, Fz23.pf fFz5 BIG x k = k (v x)) : Fz23.S (tot v) := Fz23.sound _ hFz5 _ (fun x r hr => by obtain rfl := Option.some.inj hr; exact ⟨BIG, hp x⟩)
/-! 40 slices_ContainsFunc_impl_Stored_impl_Stored__impl_ValidRack_1_1 -/
noncomputable def Fz21.tab (fFz23 : Fz23.A → Option Fz23.B) : FuncId → Option Sig := tabOf [(58, Fz23.sig fFz23)]
noncomputable def Fz21.E (fFz23 : Fz23.A → Option Fz23.B) : Env := ⟨TT, small, Fz21.tab fFz23, 1, 9⟩
def Fz21.ann : Ann := .nil
noncomputable def Fz21.pf {α : Type} (fFz23 : Fz23.A → Option Fz23.B) (fuel : Nat) (a0 : (List ((Int × Int) × Int))) (k : Bool → Option α) : Option α :=
  (fFz23 a0).bind fun r1 => k (decide (r1 ≥ (0 : Int)))
theorem Fz21.red {α : Type} (fFz23 : Fz23.A → Option Fz23.B) (K : Res → Option α) (fuel : Nat) (e0 : TypeId) (a0 : (List ((Int × Int) × Int))) : run TT small (Fz21.tab fFz23) Tryd.f40 Fz21.ann [] fuel [.obj false ⟨e0, (.st (.pair (.st (.pair (.int .u8) (.int .i16))) (.int .i16))), a0⟩, .fn 41 []] K = Fz21.pf fFz23 fuel a0 (fun r => K (Fz21.enc 0 r)) := by kernel_rfl
theorem Fz21.sound (fFz23 : Fz23.A → Option Fz23.B) (hFz23 : Fz23.S fFz23) (f : Fz21.A → Option Fz21.B) (hf : ∀ x r, f x = some r → ∃ fuel, ∀ k : Fz21.B → Option Res, Fz21.pf fFz23 fuel x k = k r) : Fz21.S f := by
  refine fn_sound (by kernel_rfl) (ttok _) (tab_sound [(58, Fz23.sig fFz23)] (List.forall_mem_cons.2 ⟨hFz23, fun p hp => nomatch hp⟩)) (fn := Tryd.f40) (by kernel_rfl) (by decide) (by decide) Fz21.ann [] _ rfl (fun avs r hr => ?_) (by kernel_rfl)
  obtain ⟨x, y, h1, h2, rfl⟩ := mkSig_run hr
  obtain ⟨e0, rfl⟩ := Fz21.dec_eq h1
  obtain ⟨fuel, hk⟩ := hf x y h2
  exact ⟨fuel, (Fz21.red fFz23 some fuel e0 x).trans (hk (fun r => some (Fz21.enc 0 r)))⟩
theorem Fz21.of_cl {fFz23 : Fz23.A → Option Fz23.B} (hFz23 : Fz23.S fFz23) {P : Fz21.A → Prop} {v : Fz21.A → Fz21.B} (hp : ∀ x, P x → ∀ k : Fz21.B → Option Res, Fz21.pf fFz23 BIG x k = k (v x)) : Fz21.S (cl P v) := Fz21.sound _ hFz23 _ (fun x r hr => by obtain ⟨h1, rfl⟩ := cl_some hr; exact ⟨BIG, hp x h1⟩)
theorem Fz21.of_tot {fFz23 : Fz23.A → Option Fz23.B} (hFz23 : Fz23.S fFz23) {v : Fz21.A → Fz21.B} (hp : ∀ x, ∀ k : Fz21.B → Option Res, Fz21.pf fFz23 BIG x k = k (v x)) : Fz21.S (tot v) := Fz21.sound _ hFz23 _ (fun x r hr => by obtain rfl := Option.some.inj hr; exact ⟨BIG, hp x⟩)
/-! 39 impl_ValidRack_1 -/
noncomputable def Fz4.tab (fFz21 : Fz21.A → Option Fz21.B) : FuncId → Option Sig := tabOf [(40, Fz21.sig fFz21)]
noncomputable def Fz4.E (fFz21 : Fz21.A → Option Fz21.B) : Env := ⟨TT, small, Fz4.tab fFz21, 1, 10⟩
def Fz4.ann : Ann := .nil
noncomputable def Fz4.pf {α : Type} (fFz21 : Fz21.A → Option Fz21.B) (fuel : Nat) (a0 : (List ((Int × Int) × Int))) (k : Bool → Option α) : Option α :=
  cond (decide ((((List.length a0) : Nat) : Int) > (6 : Int))) (k true) ((fFz21 a0).bind fun r1 => k r1)
theorem Fz4.red {α : Type} (fFz21 : Fz21.A → Option Fz21.B) (K : Res → Option α) (fuel : Nat) (e0 : TypeId) (a0 : (List ((Int × Int) × Int))) : run TT small (Fz4.tab fFz21) Tryd.f39 Fz4.ann [] fuel [.obj false ⟨e0, (.st (.pair (.st (.pair (.int .u8) (.int .i16))) (.int .i16))), a0⟩] K = Fz4.pf fFz21 fuel a0 (fun r => K (Fz4.enc 0 r)) := by kernel_rfl
theorem Fz4.sound (fFz21 : Fz21.A → Option Fz21.B) (hFz21 : Fz21.S fFz21) (f : Fz4.A → Option Fz4.B) (hf : ∀ x r, f x = some r → ∃ fuel, ∀ k : Fz4.B → Option Res, Fz4.pf fFz21 fuel x k = k r) : Fz4.S f := by
  refine fn_sound (by kernel_rfl) (ttok _) (tab_sound [(40, Fz21.sig fFz21)] (List.forall_mem_cons.2 ⟨hFz21, fun p hp => nomatch hp⟩)) (fn := Tryd.f39) (by kernel_rfl) (by decide) (by decide) Fz4.ann [] _ rfl (fun avs r hr => ?_) (by kernel_rfl)
  obtain ⟨x, y, h1, h2, rfl⟩ := mkSig_run hr
  obtain ⟨e0, rfl⟩ := Fz4.dec_eq h1
  obtain ⟨fuel, hk⟩ := hf x y h2
  exact ⟨fuel, (Fz4.red fFz21 some fuel e0 x).trans (hk (fun r => some (Fz4.enc 0 r)))⟩
theorem Fz4.of_cl {fFz21 : Fz21.A → Option Fz21.B} (hFz21 : Fz21.S fFz21) {P : Fz4.A → Prop} {v : Fz4.A → Fz4.B} (hp : ∀ x, P x → ∀ k : Fz4.B → Option Res, Fz4.pf fFz21 BIG x k = k (v x)) : Fz4.S (cl P v) := Fz4.sound _ hFz21 _ (fun x r hr => by obtain ⟨h1, rfl⟩ := cl_some hr; exact ⟨BIG, hp x h1⟩)
theorem Fz4.of_tot {fFz21 : Fz21.A → Option Fz21.B} (hFz21 : Fz21.S fFz21) {v : Fz4.A → Fz4.B} (hp : ∀ x, ∀ k : Fz4.B → Option Res, Fz4.pf fFz21 BIG x k = k (v x)) : Fz4.S (tot v) := Fz4.sound _ hFz21 _ (fun x r hr => by obtain rfl := Option.some.inj hr; exact ⟨BIG, hp x⟩)
/-! 57 slices_IndexFunc_impl_Rack_impl_Stored__impl_ValidRack_1 -/
noncomputable def Fz22.tab (fFz4 : Fz4.A → Option Fz4.B) : FuncId → Option Sig := tabOf [(39, Fz4.sig fFz4)]
noncomputable def Fz22.E (fFz4 : Fz4.A → Option Fz4.B) : Env := ⟨TT, small, Fz22.tab fFz4, 1, 19⟩
def Fz22.ann : Ann := (.two .nil (.two (.two .nil (.one (.loop [0, 1, 7, 8] .nil))) .nil))
noncomputable def Fz22.emb1 (e0 : TypeId) (p1_0 : Int) (p1_1 : (List (List ((Int × Int) × Int)))) (x1 : Int) : St := { slots := mkSlots 19 [(0, .sl 0 [] none), (1, .fn 39 []), (7, .val (.int .i64) p1_0), (8, .val (.int .i64) x1)], objs := mkObjs 39 [(0, .dat ⟨e0, (.row 48 (.st (.pair (.st (.pair (.int .u8) (.int .i16))) (.int .i16)))), p1_1, false, false, none⟩)] }
noncomputable def Fz22.LB1 {α : Type} (fFz4 : Fz4.A → Option Fz4.B) (fuel : Nat) (cont : Ex → St → Option α) : (St → Option α) → St → Option α := roundV (Fz22.E fFz4) fuel [true, false, true, false] (bodyOf Tryd.f57) Fz22.ann cont
noncomputable def Fz22.C1 {α : Type} (fFz4 : Fz4.A → Option Fz4.B) (K : Res → Option α) (fuel : Nat) : Ex → St → Option α := contAt (Fz22.E fFz4) fuel [true, false, true, false] (bodyOf Tryd.f57) Fz22.ann [] (finK TT 1 [some 0, none] Tryd.f57 [] K)
noncomputable def Fz22.ex1_0 (e0 : TypeId) (p1_0 : Int) (p1_1 : (List (List ((Int × Int) × Int)))) (x1 : Int) (r1001 : Bool) : St := { slots := mkSlots 19 [(0, .sl 0 [] none), (1, .fn 39 []), (4, .val (.int .i64) x1), (5, .val (.int .i64) x1), (7, .val (.int .i64) p1_0), (8, .val (.int .i64) x1), (9, .val .bool (decide (x1 < p1_0))), (10, .val (.int .i64) x1), (11, .fn 39 []), (12, .sl 0 [] none), (13, .val (.int .i64) x1), (14, .ptr 0 [.idx (x1 : Int).toNat] false), (15, .sl 0 [.idx (x1 : Int).toNat] none), (16, .val .bool r1001), (17, .val (.int .i64) x1)], objs := mkObjs 39 [(0, .dat ⟨e0, (.row 48 (.st (.pair (.st (.pair (.int .u8) (.int .i16))) (.int .i16)))), p1_1, false, false, none⟩)] }
noncomputable def Fz22.ex1_1 (e0 : TypeId) (p1_0 : Int) (p1_1 : (List (List ((Int × Int) × Int)))) (x1 : Int) : St := { slots := mkSlots 19 [(0, .sl 0 [] none), (1, .fn 39 []), (7, .val (.int .i64) p1_0), (8, .val (.int .i64) x1), (9, .val .bool (decide (x1 < p1_0)))], objs := mkObjs 39 [(0, .dat ⟨e0, (.row 48 (.st (.pair (.st (.pair (.int .u8) (.int .i16))) (.int .i16)))), p1_1, false, false, none⟩)] }
noncomputable def Fz22.B1 {α : Type} (fFz4 : Fz4.A → Option Fz4.B) (p1_0 : Int) (p1_1 : (List (List ((Int × Int) × Int)))) (K0 : Int → Bool → Option α) (K1 : Int → Option α) (rec : Int → Option α) (x1 : Int) : Option α :=
  cond (decide (x1 < p1_0)) (cond (inB x1 (List.length p1_1)) ((fFz4 (List.getD p1_1 (x1 : Int).toNat ([] : List ((Int × Int) × Int)))).bind fun r1001 => cond r1001 (K0 x1 r1001) (rec (IntKind.i64.wrap (x1 + (1 : Int))))) none) (K1 x1)
theorem Fz22.step1 {α : Type} (fFz4 : Fz4.A → Option Fz4.B) (fuel : Nat) (cont : Ex → St → Option α) (e0 : TypeId) (p1_0 : Int) (p1_1 : (List (List ((Int × Int) × Int)))) (rec : St → Option α) (x1 : Int) : Fz22.LB1 fFz4 fuel cont rec (Fz22.emb1 e0 p1_0 p1_1 x1) = Fz22.B1 fFz4 p1_0 p1_1 (fun x1 r1001 => cont .ret (Fz22.ex1_0 e0 p1_0 p1_1 x1 r1001)) (fun x1 => cont (.exit 0) (Fz22.ex1_1 e0 p1_0 p1_1 x1)) (fun y => rec (Fz22.emb1 e0 p1_0 p1_1 y)) x1 := by kernel_rfl
theorem Fz22.loop1 {α : Type} (fFz4 : Fz4.A → Option Fz4.B) (fuel : Nat) (cont : Ex → St → Option α) (e0 : TypeId) (p1_0 : Int) (p1_1 : (List (List ((Int × Int) × Int)))) (x1 : Int) : loopN (Fz22.LB1 fFz4 fuel cont) fuel (Fz22.emb1 e0 p1_0 p1_1 x1) = iter (Fz22.B1 fFz4 p1_0 p1_1 (fun x1 r1001 => cont .ret (Fz22.ex1_0 e0 p1_0 p1_1 x1 r1001)) (fun x1 => cont (.exit 0) (Fz22.ex1_1 e0 p1_0 p1_1 x1))) fuel x1 := loop_sim (fun rec x => Fz22.step1 fFz4 fuel cont e0 p1_0 p1_1 rec x) fuel x1
noncomputable def Fz22.pf {α : Type} (fFz4 : Fz4.A → Option Fz4.B) (fuel : Nat) (a0 : (List (List ((Int × Int) × Int)))) (k : Int → Option α) : Option α :=
  iter (Fz22.B1 fFz4 (((List.length a0) : Nat) : Int) a0 (fun (x1 : Int) (r1001 : Bool) => k x1) (fun (x1 : Int) => k (-1 : Int))) fuel (0 : Int)
theorem Fz22.tail1 {α : Type} (fFz4 : Fz4.A → Option Fz4.B) (K : Res → Option α) (fuel : Nat) (e0 : TypeId) (a0 : (List (List ((Int × Int) × Int)))) (x1 : Int) (r1001 : Bool) : Fz22.C1 fFz4 K fuel .ret (Fz22.ex1_0 e0 (((List.length a0) : Nat) : Int) a0 x1 r1001) = ((fun (k : Int → Option α) => k x1) (fun r => K (Fz22.enc 0 r))) := by kernel_rfl
theorem Fz22.tail2 {α : Type} (fFz4 : Fz4.A → Option Fz4.B) (K : Res → Option α) (fuel : Nat) (e0 : TypeId) (a0 : (List (List ((Int × Int) × Int)))) (x1 : Int) : Fz22.C1 fFz4 K fuel (.exit 0) (Fz22.ex1_1 e0 (((List.length a0) : Nat) : Int) a0 x1) = ((fun (k : Int → Option α) => k (-1 : Int)) (fun r => K (Fz22.enc 0 r))) := by kernel_rfl
theorem Fz22.red_raw {α : Type} (fFz4 : Fz4.A → Option Fz4.B) (K : Res → Option α) (fuel : Nat) (e0 : TypeId) (a0 : (List (List ((Int × Int) × Int)))) : run TT small (Fz22.tab fFz4) Tryd.f57 Fz22.ann [] fuel [.obj false ⟨e0, (.row 48 (.st (.pair (.st (.pair (.int .u8) (.int .i16))) (.int .i16)))), a0⟩, .fn 39 []] K = loopN (Fz22.LB1 fFz4 fuel (Fz22.C1 fFz4 K fuel)) fuel (Fz22.emb1 e0 (((List.length a0) : Nat) : Int) a0 (0 : Int)) := by kernel_rfl
theorem Fz22.red {α : Type} (fFz4 : Fz4.A → Option Fz4.B) (K : Res → Option α) (fuel : Nat) (e0 : TypeId) (a0 : (List (List ((Int × Int) × Int)))) : run TT small (Fz22.tab fFz4) Tryd.f57 Fz22.ann [] fuel [.obj false ⟨e0, (.row 48 (.st (.pair (.st (.pair (.int .u8) (.int .i16))) (.int .i16)))), a0⟩, .fn 39 []] K = Fz22.pf fFz4 fuel a0 (fun r => K (Fz22.enc 0 r)) := by
  rw [Fz22.red_raw]
  simp only [Fz22.loop1, Fz22.tail1, Fz22.tail2]
  all_goals kernel_rfl
theorem Fz22.sound (fFz4 : Fz4.A → Option Fz4.B) (hFz4 : Fz4.S fFz4) (f : Fz22.A → Option Fz22.B) (hf : ∀ x r, f x = some r → ∃ fuel, ∀ k : Fz22.B → Option Res, Fz22.pf fFz4 fuel x k = k r) : Fz22.S f := by
  refine fn_sound (by kernel_rfl) (ttok _) (tab_sound [(39, Fz4.sig fFz4)] (List.forall_mem_cons.2 ⟨hFz4, fun p hp => nomatch hp⟩)) (fn := Tryd.f57) (by kernel_rfl) (by decide) (by decide) Fz22.ann [] _ rfl (fun avs r hr => ?_) (by kernel_rfl)
  obtain ⟨x, y, h1, h2, rfl⟩ := mkSig_run hr
  obtain ⟨e0, rfl⟩ := Fz22.dec_eq h1
  obtain ⟨fuel, hk⟩ := hf x y h2
  exact ⟨fuel, (Fz22.red fFz4 some fuel e0 x).trans (hk (fun r => some (Fz22.enc 0 r)))⟩
theorem Fz22.of_cl {fFz4 : Fz4.A → Option Fz4.B} (hFz4 : Fz4.S fFz4) {P : Fz22.A → Prop} {v : Fz22.A → Fz22.B} (hp : ∀ x, P x → ∀ k : Fz22.B → Option Res, Fz22.pf fFz4 BIG x k = k (v x)) : Fz22.S (cl P v) := Fz22.sound _ hFz4 _ (fun x r hr => by obtain ⟨h1, rfl⟩ := cl_some hr; exact ⟨BIG, hp x h1⟩)
theorem Fz22.of_tot {fFz4 : Fz4.A → Option Fz4.B} (hFz4 : Fz4.S fFz4) {v : Fz22.A → Fz22.B} (hp : ∀ x, ∀ k : Fz22.B → Option Res, Fz22.pf fFz4 BIG x k = k (v x)) : Fz22.S (tot v) := Fz22.sound _ hFz4 _ (fun x r hr => by obtain rfl := Option.some.inj hr; exact ⟨BIG, hp x⟩)
/-! 38 slices_ContainsFunc_impl_Rack_impl_Stored__impl_ValidRack_1 -/
noncomputable def Fz20.tab (fFz22 : Fz22.A → Option Fz22.B) : FuncId → Option Sig := tabOf [(57, Fz22.sig fFz22)]
noncomputable def Fz20.E (fFz22 : Fz22.A → Option Fz22.B) : Env := ⟨TT, small, Fz20.tab fFz22, 1, 9⟩
def Fz20.ann : Ann := .nil
noncomputable def Fz20.pf {α : Type} (fFz22 : Fz22.A → Option Fz22.B) (fuel : Nat) (a0 : (List (List ((Int × Int) × Int)))) (k : Bool → Option α) : Option α :=
  (fFz22 a0).bind fun r1 => k (decide (r1 ≥ (0 : Int)))
theorem Fz20.red {α : Type} (fFz22 : Fz22.A → Option Fz22.B) (K : Res → Option α) (fuel : Nat) (e0 : TypeId) (a0 : (List (List ((Int × Int) × Int)))) : run TT small (Fz20.tab fFz22) Tryd.f38 Fz20.ann [] fuel [.obj false ⟨e0, (.row 48 (.st (.pair (.st (.pair (.int .u8) (.int .i16))) (.int .i16)))), a0⟩, .fn 39 []] K = Fz20.pf fFz22 fuel a0 (fun r => K (Fz20.enc 0 r)) := by kernel_rfl
theorem Fz20.sound (fFz22 : Fz22.A → Option Fz22.B) (hFz22 : Fz22.S fFz22) (f : Fz20.A → Option Fz20.B) (hf : ∀ x r, f x = some r → ∃ fuel, ∀ k : Fz20.B → Option Res, Fz20.pf fFz22 fuel x k = k r) : Fz20.S f := by
  refine fn_sound (by kernel_rfl) (ttok _) (tab_sound [(57, Fz22.sig fFz22)] (List.forall_mem_cons.2 ⟨hFz22, fun p hp => nomatch hp⟩)) (fn := Tryd.f38) (by kernel_rfl) (by decide) (by decide) Fz20.ann [] _ rfl (fun avs r hr => ?_) (by kernel_rfl)
  obtain ⟨x, y, h1, h2, rfl⟩ := mkSig_run hr
  obtain ⟨e0, rfl⟩ := Fz20.dec_eq h1
  obtain ⟨fuel, hk⟩ := hf x y h2
  exact ⟨fuel, (Fz20.red fFz22 some fuel e0 x).trans (hk (fun r => some (Fz20.enc 0 r)))⟩
theorem Fz20.of_cl {fFz22 : Fz22.A → Option Fz22.B} (hFz22 : Fz22.S fFz22) {P : Fz20.A → Prop} {v : Fz20.A → Fz20.B} (hp : ∀ x, P x → ∀ k : Fz20.B → Option Res, Fz20.pf fFz22 BIG x k = k (v x)) : Fz20.S (cl P v) := Fz20.sound _ hFz22 _ (fun x r hr => by obtain ⟨h1, rfl⟩ := cl_some hr; exact ⟨BIG, hp x h1⟩)
theorem Fz20.of_tot {fFz22 : Fz22.A → Option Fz22.B} (hFz22 : Fz22.S fFz22) {v : Fz20.A → Fz20.B} (hp : ∀ x, ∀ k : Fz20.B → Option Res, Fz20.pf fFz22 BIG x k = k (v x)) : Fz20.S (tot v) := Fz20.sound _ hFz22 _ (fun x r hr => by obtain rfl := Option.some.inj hr; exact ⟨BIG, hp x⟩)
/-! 18 impl_ValidRack -/
noncomputable def Fz3.tab (fFz20 : Fz20.A → Option Fz20.B) : FuncId → Option Sig := tabOf [(38, Fz20.sig fFz20)]
noncomputable def Fz3.E (fFz20 : Fz20.A → Option Fz20.B) : Env := ⟨TT, small, Fz3.tab fFz20, 1, 11⟩
def Fz3.ann : Ann := .nil
noncomputable def Fz3.pf {α : Type} (fFz20 : Fz20.A → Option Fz20.B) (fuel : Nat) (a0 : (List (List ((Int × Int) × Int)))) (k : Bool → Option α) : Option α :=
  cond (decide ((((List.length a0) : Nat) : Int) ≤ (8 : Int))) ((fFz20 a0).bind fun r1 => k (!r1)) (k false)
theorem Fz3.red {α : Type} (fFz20 : Fz20.A → Option Fz20.B) (K : Res → Option α) (fuel : Nat) (e0 : TypeId) (a0 : (List (List ((Int × Int) × Int)))) : run TT small (Fz3.tab fFz20) Tryd.f18 Fz3.ann [] fuel [.obj false ⟨e0, (.row 48 (.st (.pair (.st (.pair (.int .u8) (.int .i16))) (.int .i16)))), a0⟩] K = Fz3.pf fFz20 fuel a0 (fun r => K (Fz3.enc 0 r)) := by kernel_rfl
theorem Fz3.sound (fFz20 : Fz20.A → Option Fz20.B) (hFz20 : Fz20.S fFz20) (f : Fz3.A → Option Fz3.B) (hf : ∀ x r, f x = some r → ∃ fuel, ∀ k : Fz3.B → Option Res, Fz3.pf fFz20 fuel x k = k r) : Fz3.S f := by
  refine fn_sound (by kernel_rfl) (ttok _) (tab_sound [(38, Fz20.sig fFz20)] (List.forall_mem_cons.2 ⟨hFz20, fun p hp => nomatch hp⟩)) (fn := Tryd.f18) (by kernel_rfl) (by decide) (by decide) Fz3.ann [] _ rfl (fun avs r hr => ?_) (by kernel_rfl)
  obtain ⟨x, y, h1, h2, rfl⟩ := mkSig_run hr
  obtain ⟨e0, rfl⟩ := Fz3.dec_eq h1
  obtain ⟨fuel, hk⟩ := hf x y h2
  exact ⟨fuel, (Fz3.red fFz20 some fuel e0 x).trans (hk (fun r => some (Fz3.enc 0 r)))⟩
theorem Fz3.of_cl {fFz20 : Fz20.A → Option Fz20.B} (hFz20 : Fz20.S fFz20) {P : Fz3.A → Prop} {v : Fz3.A → Fz3.B} (hp : ∀ x, P x → ∀ k : Fz3.B → Option Res, Fz3.pf fFz20 BIG x k = k (v x)) : Fz3.S (cl P v) := Fz3.sound _ hFz20 _ (fun x r hr => by obtain ⟨h1, rfl⟩ := cl_some hr; exact ⟨BIG, hp x h1⟩)
theorem Fz3.of_tot {fFz20 : Fz20.A → Option Fz20.B} (hFz20 : Fz20.S fFz20) {v : Fz3.A → Fz3.B} (hp : ∀ x, ∀ k : Fz3.B → Option Res, Fz3.pf fFz20 BIG x k = k (v x)) : Fz3.S (tot v) := Fz3.sound _ hFz20 _ (fun x r hr => by obtain rfl := Option.some.inj hr; exact ⟨BIG, hp x⟩)
/-! 19 impl_BottleText -/
noncomputable def Fz0.tab (fFz2 : Fz2.A → Option Fz2.B) (fFz6 : Fz6.A → Option Fz6.B) : FuncId → Option Sig := tabOf [(43, Fz2.sig fFz2), (20, Fz6.sig fFz6)]
noncomputable def Fz0.E (fFz2 : Fz2.A → Option Fz2.B) (fFz6 : Fz6.A → Option Fz6.B) : Env := ⟨TT, small, Fz0.tab fFz2 fFz6, 0, 16⟩
def Fz0.ann : Ann := .nil
noncomputable def Fz0.pf {α : Type} (fFz2 : Fz2.A → Option Fz2.B) (fFz6 : Fz6.A → Option Fz6.B) (fuel : Nat) (a0 : (Int × Int)) (k : ByteArray → Option α) : Option α :=
  (fFz2 a0).bind fun r1 => cond (!r1) (k (bytesOf [])) ((fFz6 (IntKind.i64.wrap a0.1)).bind fun r2 => cond (decide (ByteArray.size r2 + ByteArray.size (bytesOf [58]) ≤ LIM)) ((fFz6 (IntKind.i64.wrap a0.2)).bind fun r3 => cond (decide (ByteArray.size (r2 ++ (bytesOf [58])) + ByteArray.size r3 ≤ LIM)) (k ((r2 ++ (bytesOf [58])) ++ r3)) none) none)
theorem Fz0.red {α : Type} (fFz2 : Fz2.A → Option Fz2.B) (fFz6 : Fz6.A → Option Fz6.B) (K : Res → Option α) (fuel : Nat) (a0 : (Int × Int)) : run TT small (Fz0.tab fFz2 fFz6) Tryd.f19 Fz0.ann [] fuel [.val (.st (.pair (.int .u8) (.int .i16))) a0] K = Fz0.pf fFz2 fFz6 fuel a0 (fun r => K (Fz0.enc 0 r)) := by kernel_rfl
theorem Fz0.sound (fFz2 : Fz2.A → Option Fz2.B) (fFz6 : Fz6.A → Option Fz6.B) (hFz2 : Fz2.S fFz2) (hFz6 : Fz6.S fFz6) (f : Fz0.A → Option Fz0.B) (hf : ∀ x r, f x = some r → ∃ fuel, ∀ k : Fz0.B → Option Res, Fz0.pf fFz2 fFz6 fuel x k = k r) : Fz0.S f := by
  refine fn_sound (by kernel_rfl) (ttok _) (tab_sound [(43, Fz2.sig fFz2), (20, Fz6.sig fFz6)] (List.forall_mem_cons.2 ⟨hFz2, List.forall_mem_cons.2 ⟨hFz6, fun p hp => nomatch hp⟩⟩)) (fn := Tryd.f19) (by kernel_rfl) (by decide) (by decide) Fz0.ann [] _ rfl (fun avs r hr => ?_) (by kernel_rfl)
  obtain ⟨x, y, h1, h2, rfl⟩ := mkSig_run hr
  obtain rfl := Fz0.dec_eq h1
  obtain ⟨fuel, hk⟩ := hf x y h2
  exact ⟨fuel, (Fz0.red fFz2 fFz6 some fuel x).trans (hk (fun r => some (Fz0.enc 0 r)))⟩
theorem Fz0.of_cl {fFz2 : Fz2.A → Option Fz2.B} {fFz6 : Fz6.A → Option Fz6.B} (hFz2 : Fz2.S fFz2) (hFz6 : Fz6.S fFz6) {P : Fz0.A → Prop} {v : Fz0.A → Fz0.B} (hp : ∀ x, P x → ∀ k : Fz0.B → Option Res, Fz0.pf fFz2 fFz6 BIG x k = k (v x)) : Fz0.S (cl P v) := Fz0.sound _ _ hFz2 hFz6 _ (fun x r hr => by obtain ⟨h1, rfl⟩ := cl_some hr; exact ⟨BIG, hp x h1⟩)
theorem Fz0.of_tot {fFz2 : Fz2.A → Option Fz2.B} {fFz6 : Fz6.A → Option Fz6.B} (hFz2 : Fz2.S fFz2) (hFz6 : Fz6.S fFz6) {v : Fz0.A → Fz0.B} (hp : ∀ x, ∀ k : Fz0.B → Option Res, Fz0.pf fFz2 fFz6 BIG x k = k (v x)) : Fz0.S (tot v) := Fz0.sound _ _ hFz2 hFz6 _ (fun x r hr => by obtain rfl := Option.some.inj hr; exact ⟨BIG, hp x⟩)
end Go.Proofs.YteaodjahafgbcaaDoor.G
