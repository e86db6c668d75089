import Derived.Test.YtjajlmaldeoobaaSg
namespace Go.Proofs.Ytjajlmaldeoobaa.G
open Go Go.Proofs
set_option linter.unusedVariables false
set_option linter.unusedSimpArgs false
set_option maxRecDepth 100000
/-! 111 impl_ValidCrate_1 -/
noncomputable def Fz10.tab (fFz8 : Fz8.A → Option Fz8.B) : FuncId → Option Sig := tabOf [(58, Fz8.sig fFz8)]
noncomputable def Fz10.E (fFz8 : Fz8.A → Option Fz8.B) : Env := ⟨TT, small, Fz10.tab fFz8, 0, 11⟩
def Fz10.ann : Ann := .nil
noncomputable def Fz10.pf {α : Type} (fFz8 : Fz8.A → Option Fz8.B) (fuel : Nat) (a0 : (Int × Int)) (k : Bool → Option α) : Option α :=
  cond (!(eqV (.st (.pair (.int .u8) (.int .i16))) a0 ((0 : Int), (0 : Int)))) ((fFz8 a0).bind fun r1 => k (!r1)) (k false)
theorem Fz10.red {α : Type} (fFz8 : Fz8.A → Option Fz8.B) (K : Res → Option α) (fuel : Nat) (a0 : (Int × Int)) : run TT small (Fz10.tab fFz8) Try.f111 Fz10.ann [] fuel [.val (.st (.pair (.int .u8) (.int .i16))) a0] K = Fz10.pf fFz8 fuel a0 (fun r => K (Fz10.enc 0 r)) := by kernel_rfl
theorem Fz10.sound (fFz8 : Fz8.A → Option Fz8.B) (hFz8 : Fz8.S fFz8) (f : Fz10.A → Option Fz10.B) (hf : ∀ x r, f x = some r → ∃ fuel, ∀ k : Fz10.B → Option Res, Fz10.pf fFz8 fuel x k = k r) : Fz10.S f := by
  refine fn_sound (by kernel_rfl) (ttok _) (tab_sound [(58, Fz8.sig fFz8)] (List.forall_mem_cons.2 ⟨hFz8, fun p hp => nomatch hp⟩)) (fn := Try.f111) (by kernel_rfl) (by decide) (by decide) Fz10.ann [] _ rfl (fun avs r hr => ?_) (by kernel_rfl)
  obtain ⟨x, y, h1, h2, rfl⟩ := mkSig_run hr
  obtain rfl := Fz10.dec_eq h1
  obtain ⟨fuel, hk⟩ := hf x y h2
  exact ⟨fuel, (Fz10.red fFz8 some fuel x).trans (hk (fun r => some (Fz10.enc 0 r)))⟩
theorem Fz10.of_cl {fFz8 : Fz8.A → Option Fz8.B} (hFz8 : Fz8.S fFz8) {P : Fz10.A → Prop} {v : Fz10.A → Fz10.B} (hp : ∀ x, P x → ∀ k : Fz10.B → Option Res, Fz10.pf fFz8 BIG x k = k (v x)) : Fz10.S (cl P v) := Fz10.sound _ hFz8 _ (fun x r hr => by obtain ⟨h1, rfl⟩ := cl_some hr; exact ⟨BIG, hp x h1⟩)
theorem Fz10.of_tot {fFz8 : Fz8.A → Option Fz8.B} (hFz8 : Fz8.S fFz8) {v : Fz10.A → Fz10.B} (hp : ∀ x, ∀ k : Fz10.B → Option Res, Fz10.pf fFz8 BIG x k = k (v x)) : Fz10.S (tot v) := Fz10.sound _ hFz8 _ (fun x r hr => by obtain rfl := Option.some.inj hr; exact ⟨BIG, hp x⟩)
/-! 106 slices_IndexFunc_impl_Bottle_impl_Bottle__impl_ValidCrate_1 -/
noncomputable def Fz32.tab (fFz10 : Fz10.A → Option Fz10.B) : FuncId → Option Sig := tabOf [(111, Fz10.sig fFz10)]
noncomputable def Fz32.E (fFz10 : Fz10.A → Option Fz10.B) : Env := ⟨TT, small, Fz32.tab fFz10, 1, 19⟩
def Fz32.ann : Ann := (.two .nil (.two (.two .nil (.one (.loop [0, 1, 7, 8] .nil))) .nil))
noncomputable def Fz32.emb1 (e0 : TypeId) (p1_0 : Int) (p1_1 : (List (Int × Int))) (x1 : Int) : St := { slots := mkSlots 19 [(0, .sl 0 [] none), (1, .fn 111 []), (7, .val (.int .i64) p1_0), (8, .val (.int .i64) x1)], objs := mkObjs 39 [(0, .dat ⟨e0, (.st (.pair (.int .u8) (.int .i16))), p1_1, false, false, none⟩)] }
noncomputable def Fz32.LB1 {α : Type} (fFz10 : Fz10.A → Option Fz10.B) (fuel : Nat) (cont : Ex → St → Option α) : (St → Option α) → St → Option α := roundV (Fz32.E fFz10) fuel [true, false, true, false] (bodyOf Try.f106) Fz32.ann cont
noncomputable def Fz32.C1 {α : Type} (fFz10 : Fz10.A → Option Fz10.B) (K : Res → Option α) (fuel : Nat) : Ex → St → Option α := contAt (Fz32.E fFz10) fuel [true, false, true, false] (bodyOf Try.f106) Fz32.ann [] (finK TT 1 [some 0, none] Try.f106 [] K)
noncomputable def Fz32.ex1_0 (e0 : TypeId) (p1_0 : Int) (p1_1 : (List (Int × Int))) (x1 : Int) (r1001 : Bool) : St := { slots := mkSlots 19 [(0, .sl 0 [] none), (1, .fn 111 []), (4, .val (.int .i64) x1), (5, .val (.int .i64) x1), (7, .val (.int .i64) p1_0), (8, .val (.int .i64) x1), (9, .val .bool (decide (x1 < p1_0))), (10, .val (.int .i64) x1), (11, .fn 111 []), (12, .sl 0 [] none), (13, .val (.int .i64) x1), (14, .ptr 0 [.idx (x1 : Int).toNat] false), (15, .val (.st (.pair (.int .u8) (.int .i16))) (List.getD p1_1 (x1 : Int).toNat ((0 : Int), (0 : Int)))), (16, .val .bool r1001), (17, .val (.int .i64) x1)], objs := mkObjs 39 [(0, .dat ⟨e0, (.st (.pair (.int .u8) (.int .i16))), p1_1, false, false, none⟩)] }
noncomputable def Fz32.ex1_1 (e0 : TypeId) (p1_0 : Int) (p1_1 : (List (Int × Int))) (x1 : Int) : St := { slots := mkSlots 19 [(0, .sl 0 [] none), (1, .fn 111 []), (7, .val (.int .i64) p1_0), (8, .val (.int .i64) x1), (9, .val .bool (decide (x1 < p1_0)))], objs := mkObjs 39 [(0, .dat ⟨e0, (.st (.pair (.int .u8) (.int .i16))), p1_1, false, false, none⟩)] }
noncomputable def Fz32.B1 {α : Type} (fFz10 : Fz10.A → Option Fz10.B) (p1_0 : Int) (p1_1 : (List (Int × Int))) (K0 : Int → Bool → Option α) (K1 : Int → Option α) (rec : Int → Option α) (x1 : Int) : Option α :=
  cond (decide (x1 < p1_0)) (cond (inB x1 (List.length p1_1)) ((fFz10 (List.getD p1_1 (x1 : Int).toNat ((0 : Int), (0 : Int)))).bind fun r1001 => cond r1001 (K0 x1 r1001) (rec (IntKind.i64.wrap (x1 + (1 : Int))))) none) (K1 x1)
theorem Fz32.step1 {α : Type} (fFz10 : Fz10.A → Option Fz10.B) (fuel : Nat) (cont : Ex → St → Option α) (e0 : TypeId) (p1_0 : Int) (p1_1 : (List (Int × Int))) (rec : St → Option α) (x1 : Int) : Fz32.LB1 fFz10 fuel cont rec (Fz32.emb1 e0 p1_0 p1_1 x1) = Fz32.B1 fFz10 p1_0 p1_1 (fun x1 r1001 => cont .ret (Fz32.ex1_0 e0 p1_0 p1_1 x1 r1001)) (fun x1 => cont (.exit 0) (Fz32.ex1_1 e0 p1_0 p1_1 x1)) (fun y => rec (Fz32.emb1 e0 p1_0 p1_1 y)) x1 := by kernel_rfl
theorem Fz32.loop1 {α : Type} (fFz10 : Fz10.A → Option Fz10.B) (fuel : Nat) (cont : Ex → St → Option α) (e0 : TypeId) (p1_0 : Int) (p1_1 : (List (Int × Int))) (x1 : Int) : loopN (Fz32.LB1 fFz10 fuel cont) fuel (Fz32.emb1 e0 p1_0 p1_1 x1) = iter (Fz32.B1 fFz10 p1_0 p1_1 (fun x1 r1001 => cont .ret (Fz32.ex1_0 e0 p1_0 p1_1 x1 r1001)) (fun x1 => cont (.exit 0) (Fz32.ex1_1 e0 p1_0 p1_1 x1))) fuel x1 := loop_sim (fun rec x => Fz32.step1 fFz10 fuel cont e0 p1_0 p1_1 rec x) fuel x1
noncomputable def Fz32.pf {α : Type} (fFz10 : Fz10.A → Option Fz10.B) (fuel : Nat) (a0 : (List (Int × Int))) (k : Int → Option α) : Option α :=
  iter (Fz32.B1 fFz10 (((List.length a0) : Nat) : Int) a0 (fun (x1 : Int) (r1001 : Bool) => k x1) (fun (x1 : Int) => k (-1 : Int))) fuel (0 : Int)
theorem Fz32.tail1 {α : Type} (fFz10 : Fz10.A → Option Fz10.B) (K : Res → Option α) (fuel : Nat) (e0 : TypeId) (a0 : (List (Int × Int))) (x1 : Int) (r1001 : Bool) : Fz32.C1 fFz10 K fuel .ret (Fz32.ex1_0 e0 (((List.length a0) : Nat) : Int) a0 x1 r1001) = ((fun (k : Int → Option α) => k x1) (fun r => K (Fz32.enc 0 r))) := by kernel_rfl
theorem Fz32.tail2 {α : Type} (fFz10 : Fz10.A → Option Fz10.B) (K : Res → Option α) (fuel : Nat) (e0 : TypeId) (a0 : (List (Int × Int))) (x1 : Int) : Fz32.C1 fFz10 K fuel (.exit 0) (Fz32.ex1_1 e0 (((List.length a0) : Nat) : Int) a0 x1) = ((fun (k : Int → Option α) => k (-1 : Int)) (fun r => K (Fz32.enc 0 r))) := by kernel_rfl
theorem Fz32.red_raw {α : Type} (fFz10 : Fz10.A → Option Fz10.B) (K : Res → Option α) (fuel : Nat) (e0 : TypeId) (a0 : (List (Int × Int))) : run TT small (Fz32.tab fFz10) Try.f106 Fz32.ann [] fuel [.obj false ⟨e0, (.st (.pair (.int .u8) (.int .i16))), a0⟩, .fn 111 []] K = loopN (Fz32.LB1 fFz10 fuel (Fz32.C1 fFz10 K fuel)) fuel (Fz32.emb1 e0 (((List.length a0) : Nat) : Int) a0 (0 : Int)) := by kernel_rfl
theorem Fz32.red {α : Type} (fFz10 : Fz10.A → Option Fz10.B) (K : Res → Option α) (fuel : Nat) (e0 : TypeId) (a0 : (List (Int × Int))) : run TT small (Fz32.tab fFz10) Try.f106 Fz32.ann [] fuel [.obj false ⟨e0, (.st (.pair (.int .u8) (.int .i16))), a0⟩, .fn 111 []] K = Fz32.pf fFz10 fuel a0 (fun r => K (Fz32.enc 0 r)) := by
  rw [Fz32.red_raw]
  simp only [Fz32.loop1, Fz32.tail1, Fz32.tail2]
  all_goals kernel_rfl
theorem Fz32.sound (fFz10 : Fz10.A → Option Fz10.B) (hFz10 : Fz10.S fFz10) (f : Fz32.A → Option Fz32.B) (hf : ∀ x r, f x = some r → ∃ fuel, ∀ k : Fz32.B → Option Res, Fz32.pf fFz10 fuel x k = k r) : Fz32.S f := by
  refine fn_sound (by kernel_rfl) (ttok _) (tab_sound [(111, Fz10.sig fFz10)] (List.forall_mem_cons.2 ⟨hFz10, fun p hp => nomatch hp⟩)) (fn := Try.f106) (by kernel_rfl) (by decide) (by decide) Fz32.ann [] _ rfl (fun avs r hr => ?_) (by kernel_rfl)
  obtain ⟨x, y, h1, h2, rfl⟩ := mkSig_run hr
  obtain ⟨e0, rfl⟩ := Fz32.dec_eq h1
  obtain ⟨fuel, hk⟩ := hf x y h2
  exact ⟨fuel, (Fz32.red fFz10 some fuel e0 x).trans (hk (fun r => some (Fz32.enc 0 r)))⟩
theorem Fz32.of_cl {fFz10 : Fz10.A → Option Fz10.B} (hFz10 : Fz10.S fFz10) {P : Fz32.A → Prop} {v : Fz32.A → Fz32.B} (hp : ∀ x, P x → ∀ k : Fz32.B → Option Res, Fz32.pf fFz10 BIG x k = k (v x)) : Fz32.S (cl P v) := Fz32.sound _ hFz10 _ (fun x r hr => by obtain ⟨h1, rfl⟩ := cl_some hr; exact ⟨BIG, hp x h1⟩)
theorem Fz32.of_tot {fFz10 : Fz10.A → Option Fz10.B} (hFz10 : Fz10.S fFz10) {v : Fz32.A → Fz32.B} (hp : ∀ x, ∀ k : Fz32.B → Option Res, Fz32.pf fFz10 BIG x k = k (v x)) : Fz32.S (tot v) := Fz32.sound _ hFz10 _ (fun x r hr => by obtain rfl := Option.some.inj hr; exact ⟨BIG, hp x⟩)
/-! 56 slices_ContainsFunc_impl_Bottle_impl_Bottle__impl_ValidCrate_1 -/
noncomputable def Fz28.tab (fFz32 : Fz32.A → Option Fz32.B) : FuncId → Option Sig := tabOf [(106, Fz32.sig fFz32)]
noncomputable def Fz28.E (fFz32 : Fz32.A → Option Fz32.B) : Env := ⟨TT, small, Fz28.tab fFz32, 1, 9⟩
def Fz28.ann : Ann := .nil
noncomputable def Fz28.pf {α : Type} (fFz32 : Fz32.A → Option Fz32.B) (fuel : Nat) (a0 : (List (Int × Int))) (k : Bool → Option α) : Option α :=
  (fFz32 a0).bind fun r1 => k (decide (r1 ≥ (0 : Int)))
theorem Fz28.red {α : Type} (fFz32 : Fz32.A → Option Fz32.B) (K : Res → Option α) (fuel : Nat) (e0 : TypeId) (a0 : (List (Int × Int))) : run TT small (Fz28.tab fFz32) Try.f56 Fz28.ann [] fuel [.obj false ⟨e0, (.st (.pair (.int .u8) (.int .i16))), a0⟩, .fn 111 []] K = Fz28.pf fFz32 fuel a0 (fun r => K (Fz28.enc 0 r)) := by kernel_rfl
theorem Fz28.sound (fFz32 : Fz32.A → Option Fz32.B) (hFz32 : Fz32.S fFz32) (f : Fz28.A → Option Fz28.B) (hf : ∀ x r, f x = some r → ∃ fuel, ∀ k : Fz28.B → Option Res, Fz28.pf fFz32 fuel x k = k r) : Fz28.S f := by
  refine fn_sound (by kernel_rfl) (ttok _) (tab_sound [(106, Fz32.sig fFz32)] (List.forall_mem_cons.2 ⟨hFz32, fun p hp => nomatch hp⟩)) (fn := Try.f56) (by kernel_rfl) (by decide) (by decide) Fz28.ann [] _ rfl (fun avs r hr => ?_) (by kernel_rfl)
  obtain ⟨x, y, h1, h2, rfl⟩ := mkSig_run hr
  obtain ⟨e0, rfl⟩ := Fz28.dec_eq h1
  obtain ⟨fuel, hk⟩ := hf x y h2
  exact ⟨fuel, (Fz28.red fFz32 some fuel e0 x).trans (hk (fun r => some (Fz28.enc 0 r)))⟩
theorem Fz28.of_cl {fFz32 : Fz32.A → Option Fz32.B} (hFz32 : Fz32.S fFz32) {P : Fz28.A → Prop} {v : Fz28.A → Fz28.B} (hp : ∀ x, P x → ∀ k : Fz28.B → Option Res, Fz28.pf fFz32 BIG x k = k (v x)) : Fz28.S (cl P v) := Fz28.sound _ hFz32 _ (fun x r hr => by obtain ⟨h1, rfl⟩ := cl_some hr; exact ⟨BIG, hp x h1⟩)
theorem Fz28.of_tot {fFz32 : Fz32.A → Option Fz32.B} (hFz32 : Fz32.S fFz32) {v : Fz28.A → Fz28.B} (hp : ∀ x, ∀ k : Fz28.B → Option Res, Fz28.pf fFz32 BIG x k = k (v x)) : Fz28.S (tot v) := Fz28.sound _ hFz32 _ (fun x r hr => by obtain rfl := Option.some.inj hr; exact ⟨BIG, hp x⟩)
/-! 66 impl_ValidCrate -/
noncomputable def Fz9.tab (fFz28 : Fz28.A → Option Fz28.B) : FuncId → Option Sig := tabOf [(56, Fz28.sig fFz28)]
noncomputable def Fz9.E (fFz28 : Fz28.A → Option Fz28.B) : Env := ⟨TT, small, Fz9.tab fFz28, 0, 6⟩
def Fz9.ann : Ann := .nil
noncomputable def Fz9.pf {α : Type} (fFz28 : Fz28.A → Option Fz28.B) (fuel : Nat) (a0 : (List (Int × Int))) (k : Bool → Option α) : Option α :=
  (fFz28 a0).bind fun r1 => k (!r1)
theorem Fz9.red {α : Type} (fFz28 : Fz28.A → Option Fz28.B) (K : Res → Option α) (fuel : Nat) (a0 : (List (Int × Int))) : run TT small (Fz9.tab fFz28) Try.f66 Fz9.ann [] fuel [.val (.arr 12 (.st (.pair (.int .u8) (.int .i16)))) a0] K = Fz9.pf fFz28 fuel a0 (fun r => K (Fz9.enc 0 r)) := by kernel_rfl
theorem Fz9.sound (fFz28 : Fz28.A → Option Fz28.B) (hFz28 : Fz28.S fFz28) (f : Fz9.A → Option Fz9.B) (hf : ∀ x r, f x = some r → ∃ fuel, ∀ k : Fz9.B → Option Res, Fz9.pf fFz28 fuel x k = k r) : Fz9.S f := by
  refine fn_sound (by kernel_rfl) (ttok _) (tab_sound [(56, Fz28.sig fFz28)] (List.forall_mem_cons.2 ⟨hFz28, fun p hp => nomatch hp⟩)) (fn := Try.f66) (by kernel_rfl) (by decide) (by decide) Fz9.ann [] _ rfl (fun avs r hr => ?_) (by kernel_rfl)
  obtain ⟨x, y, h1, h2, rfl⟩ := mkSig_run hr
  obtain rfl := Fz9.dec_eq h1
  obtain ⟨fuel, hk⟩ := hf x y h2
  exact ⟨fuel, (Fz9.red fFz28 some fuel x).trans (hk (fun r => some (Fz9.enc 0 r)))⟩
theorem Fz9.of_cl {fFz28 : Fz28.A → Option Fz28.B} (hFz28 : Fz28.S fFz28) {P : Fz9.A → Prop} {v : Fz9.A → Fz9.B} (hp : ∀ x, P x → ∀ k : Fz9.B → Option Res, Fz9.pf fFz28 BIG x k = k (v x)) : Fz9.S (cl P v) := Fz9.sound _ hFz28 _ (fun x r hr => by obtain ⟨h1, rfl⟩ := cl_some hr; exact ⟨BIG, hp x h1⟩)
theorem Fz9.of_tot {fFz28 : Fz28.A → Option Fz28.B} (hFz28 : Fz28.S fFz28) {v : Fz9.A → Fz9.B} (hp : ∀ x, ∀ k : Fz9.B → Option Res, Fz9.pf fFz28 BIG x k = k (v x)) : Fz9.S (tot v) := Fz9.sound _ hFz28 _ (fun x r hr => by obtain rfl := Option.some.inj hr; exact ⟨BIG, hp x⟩)
/-! 109 impl_ValidStack_1 -/
noncomputable def Fz12.tab (fFz9 : Fz9.A → Option Fz9.B) : FuncId → Option Sig := tabOf [(66, Fz9.sig fFz9)]
noncomputable def Fz12.E (fFz9 : Fz9.A → Option Fz9.B) : Env := ⟨TT, small, Fz12.tab fFz9, 0, 6⟩
def Fz12.ann : Ann := .nil
noncomputable def Fz12.pf {α : Type} (fFz9 : Fz9.A → Option Fz9.B) (fuel : Nat) (a0 : (List (Int × Int))) (k : Bool → Option α) : Option α :=
  (fFz9 a0).bind fun r1 => k (!r1)
theorem Fz12.red {α : Type} (fFz9 : Fz9.A → Option Fz9.B) (K : Res → Option α) (fuel : Nat) (a0 : (List (Int × Int))) : run TT small (Fz12.tab fFz9) Try.f109 Fz12.ann [] fuel [.val (.arr 12 (.st (.pair (.int .u8) (.int .i16)))) a0] K = Fz12.pf fFz9 fuel a0 (fun r => K (Fz12.enc 0 r)) := by kernel_rfl
theorem Fz12.sound (fFz9 : Fz9.A → Option Fz9.B) (hFz9 : Fz9.S fFz9) (f : Fz12.A → Option Fz12.B) (hf : ∀ x r, f x = some r → ∃ fuel, ∀ k : Fz12.B → Option Res, Fz12.pf fFz9 fuel x k = k r) : Fz12.S f := by
  refine fn_sound (by kernel_rfl) (ttok _) (tab_sound [(66, Fz9.sig fFz9)] (List.forall_mem_cons.2 ⟨hFz9, fun p hp => nomatch hp⟩)) (fn := Try.f109) (by kernel_rfl) (by decide) (by decide) Fz12.ann [] _ rfl (fun avs r hr => ?_) (by kernel_rfl)
  obtain ⟨x, y, h1, h2, rfl⟩ := mkSig_run hr
  obtain rfl := Fz12.dec_eq h1
  obtain ⟨fuel, hk⟩ := hf x y h2
  exact ⟨fuel, (Fz12.red fFz9 some fuel x).trans (hk (fun r => some (Fz12.enc 0 r)))⟩
theorem Fz12.of_cl {fFz9 : Fz9.A → Option Fz9.B} (hFz9 : Fz9.S fFz9) {P : Fz12.A → Prop} {v : Fz12.A → Fz12.B} (hp : ∀ x, P x → ∀ k : Fz12.B → Option Res, Fz12.pf fFz9 BIG x k = k (v x)) : Fz12.S (cl P v) := Fz12.sound _ hFz9 _ (fun x r hr => by obtain ⟨h1, rfl⟩ := cl_some hr; exact ⟨BIG, hp x h1⟩)
theorem Fz12.of_tot {fFz9 : Fz9.A → Option Fz9.B} (hFz9 : Fz9.S fFz9) {v : Fz12.A → Fz12.B} (hp : ∀ x, ∀ k : Fz12.B → Option Res, Fz12.pf fFz9 BIG x k = k (v x)) : Fz12.S (tot v) := Fz12.sound _ hFz9 _ (fun x r hr => by obtain rfl := Option.some.inj hr; exact ⟨BIG, hp x⟩)
/-! 129 slices_IndexFunc_impl_Crate_impl_Crate__impl_ValidStack_1 -/
noncomputable def Fz33.tab (fFz12 : Fz12.A → Option Fz12.B) : FuncId → Option Sig := tabOf [(109, Fz12.sig fFz12)]
noncomputable def Fz33.E (fFz12 : Fz12.A → Option Fz12.B) : Env := ⟨TT, small, Fz33.tab fFz12, 1, 19⟩
def Fz33.ann : Ann := (.two .nil (.two (.two .nil (.one (.loop [0, 1, 7, 8] .nil))) .nil))
noncomputable def Fz33.emb1 (e0 : TypeId) (p1_0 : Int) (p1_1 : (List (List (Int × Int)))) (x1 : Int) : St := { slots := mkSlots 19 [(0, .sl 0 [] none), (1, .fn 109 []), (7, .val (.int .i64) p1_0), (8, .val (.int .i64) x1)], objs := mkObjs 39 [(0, .dat ⟨e0, (.arr 12 (.st (.pair (.int .u8) (.int .i16)))), p1_1, false, false, none⟩)] }
noncomputable def Fz33.LB1 {α : Type} (fFz12 : Fz12.A → Option Fz12.B) (fuel : Nat) (cont : Ex → St → Option α) : (St → Option α) → St → Option α := roundV (Fz33.E fFz12) fuel [true, false, true, false] (bodyOf Try.f129) Fz33.ann cont
noncomputable def Fz33.C1 {α : Type} (fFz12 : Fz12.A → Option Fz12.B) (K : Res → Option α) (fuel : Nat) : Ex → St → Option α := contAt (Fz33.E fFz12) fuel [true, false, true, false] (bodyOf Try.f129) Fz33.ann [] (finK TT 1 [some 0, none] Try.f129 [] K)
noncomputable def Fz33.ex1_0 (e0 : TypeId) (p1_0 : Int) (p1_1 : (List (List (Int × Int)))) (x1 : Int) (r1001 : Bool) : St := { slots := mkSlots 19 [(0, .sl 0 [] none), (1, .fn 109 []), (4, .val (.int .i64) x1), (5, .val (.int .i64) x1), (7, .val (.int .i64) p1_0), (8, .val (.int .i64) x1), (9, .val .bool (decide (x1 < p1_0))), (10, .val (.int .i64) x1), (11, .fn 109 []), (12, .sl 0 [] none), (13, .val (.int .i64) x1), (14, .ptr 0 [.idx (x1 : Int).toNat] false), (15, .val (.arr 12 (.st (.pair (.int .u8) (.int .i16)))) ((List.getD p1_1 (x1 : Int).toNat (List.replicate 12 ((0 : Int), (0 : Int)))))), (16, .val .bool r1001), (17, .val (.int .i64) x1)], objs := mkObjs 39 [(0, .dat ⟨e0, (.arr 12 (.st (.pair (.int .u8) (.int .i16)))), p1_1, false, false, none⟩)] }
noncomputable def Fz33.ex1_1 (e0 : TypeId) (p1_0 : Int) (p1_1 : (List (List (Int × Int)))) (x1 : Int) : St := { slots := mkSlots 19 [(0, .sl 0 [] none), (1, .fn 109 []), (7, .val (.int .i64) p1_0), (8, .val (.int .i64) x1), (9, .val .bool (decide (x1 < p1_0)))], objs := mkObjs 39 [(0, .dat ⟨e0, (.arr 12 (.st (.pair (.int .u8) (.int .i16)))), p1_1, false, false, none⟩)] }
noncomputable def Fz33.B1 {α : Type} (fFz12 : Fz12.A → Option Fz12.B) (p1_0 : Int) (p1_1 : (List (List (Int × Int)))) (K0 : Int → Bool → Option α) (K1 : Int → Option α) (rec : Int → Option α) (x1 : Int) : Option α :=
  cond (decide (x1 < p1_0)) (cond (inB x1 (List.length p1_1)) ((fFz12 (List.getD p1_1 (x1 : Int).toNat (List.replicate 12 ((0 : Int), (0 : Int))))).bind fun r1001 => cond r1001 (K0 x1 r1001) (rec (IntKind.i64.wrap (x1 + (1 : Int))))) none) (K1 x1)
theorem Fz33.step1 {α : Type} (fFz12 : Fz12.A → Option Fz12.B) (fuel : Nat) (cont : Ex → St → Option α) (e0 : TypeId) (p1_0 : Int) (p1_1 : (List (List (Int × Int)))) (rec : St → Option α) (x1 : Int) : Fz33.LB1 fFz12 fuel cont rec (Fz33.emb1 e0 p1_0 p1_1 x1) = Fz33.B1 fFz12 p1_0 p1_1 (fun x1 r1001 => cont .ret (Fz33.ex1_0 e0 p1_0 p1_1 x1 r1001)) (fun x1 => cont (.exit 0) (Fz33.ex1_1 e0 p1_0 p1_1 x1)) (fun y => rec (Fz33.emb1 e0 p1_0 p1_1 y)) x1 := by kernel_rfl
theorem Fz33.loop1 {α : Type} (fFz12 : Fz12.A → Option Fz12.B) (fuel : Nat) (cont : Ex → St → Option α) (e0 : TypeId) (p1_0 : Int) (p1_1 : (List (List (Int × Int)))) (x1 : Int) : loopN (Fz33.LB1 fFz12 fuel cont) fuel (Fz33.emb1 e0 p1_0 p1_1 x1) = iter (Fz33.B1 fFz12 p1_0 p1_1 (fun x1 r1001 => cont .ret (Fz33.ex1_0 e0 p1_0 p1_1 x1 r1001)) (fun x1 => cont (.exit 0) (Fz33.ex1_1 e0 p1_0 p1_1 x1))) fuel x1 := loop_sim (fun rec x => Fz33.step1 fFz12 fuel cont e0 p1_0 p1_1 rec x) fuel x1
noncomputable def Fz33.pf {α : Type} (fFz12 : Fz12.A → Option Fz12.B) (fuel : Nat) (a0 : (List (List (Int × Int)))) (k : Int → Option α) : Option α :=
  iter (Fz33.B1 fFz12 (((List.length a0) : Nat) : Int) a0 (fun (x1 : Int) (r1001 : Bool) => k x1) (fun (x1 : Int) => k (-1 : Int))) fuel (0 : Int)
theorem Fz33.tail1 {α : Type} (fFz12 : Fz12.A → Option Fz12.B) (K : Res → Option α) (fuel : Nat) (e0 : TypeId) (a0 : (List (List (Int × Int)))) (x1 : Int) (r1001 : Bool) : Fz33.C1 fFz12 K fuel .ret (Fz33.ex1_0 e0 (((List.length a0) : Nat) : Int) a0 x1 r1001) = ((fun (k : Int → Option α) => k x1) (fun r => K (Fz33.enc 0 r))) := by kernel_rfl
theorem Fz33.tail2 {α : Type} (fFz12 : Fz12.A → Option Fz12.B) (K : Res → Option α) (fuel : Nat) (e0 : TypeId) (a0 : (List (List (Int × Int)))) (x1 : Int) : Fz33.C1 fFz12 K fuel (.exit 0) (Fz33.ex1_1 e0 (((List.length a0) : Nat) : Int) a0 x1) = ((fun (k : Int → Option α) => k (-1 : Int)) (fun r => K (Fz33.enc 0 r))) := by kernel_rfl
theorem Fz33.red_raw {α : Type} (fFz12 : Fz12.A → Option Fz12.B) (K : Res → Option α) (fuel : Nat) (e0 : TypeId) (a0 : (List (List (Int × Int)))) : run TT small (Fz33.tab fFz12) Try.f129 Fz33.ann [] fuel [.obj false ⟨e0, (.arr 12 (.st (.pair (.int .u8) (.int .i16)))), a0⟩, .fn 109 []] K = loopN (Fz33.LB1 fFz12 fuel (Fz33.C1 fFz12 K fuel)) fuel (Fz33.emb1 e0 (((List.length a0) : Nat) : Int) a0 (0 : Int)) := by kernel_rfl
theorem Fz33.red {α : Type} (fFz12 : Fz12.A → Option Fz12.B) (K : Res → Option α) (fuel : Nat) (e0 : TypeId) (a0 : (List (List (Int × Int)))) : run TT small (Fz33.tab fFz12) Try.f129 Fz33.ann [] fuel [.obj false ⟨e0, (.arr 12 (.st (.pair (.int .u8) (.int .i16)))), a0⟩, .fn 109 []] K = Fz33.pf fFz12 fuel a0 (fun r => K (Fz33.enc 0 r)) := by
  rw [Fz33.red_raw]
  simp only [Fz33.loop1, Fz33.tail1, Fz33.tail2]
  all_goals kernel_rfl
theorem Fz33.sound (fFz12 : Fz12.A → Option Fz12.B) (hFz12 : Fz12.S fFz12) (f : Fz33.A → Option Fz33.B) (hf : ∀ x r, f x = some r → ∃ fuel, ∀ k : Fz33.B → Option Res, Fz33.pf fFz12 fuel x k = k r) : Fz33.S f := by
  refine fn_sound (by kernel_rfl) (ttok _) (tab_sound [(109, Fz12.sig fFz12)] (List.forall_mem_cons.2 ⟨hFz12, fun p hp => nomatch hp⟩)) (fn := Try.f129) (by kernel_rfl) (by decide) (by decide) Fz33.ann [] _ rfl (fun avs r hr => ?_) (by kernel_rfl)
  obtain ⟨x, y, h1, h2, rfl⟩ := mkSig_run hr
  obtain ⟨e0, rfl⟩ := Fz33.dec_eq h1
  obtain ⟨fuel, hk⟩ := hf x y h2
  exact ⟨fuel, (Fz33.red fFz12 some fuel e0 x).trans (hk (fun r => some (Fz33.enc 0 r)))⟩
theorem Fz33.of_cl {fFz12 : Fz12.A → Option Fz12.B} (hFz12 : Fz12.S fFz12) {P : Fz33.A → Prop} {v : Fz33.A → Fz33.B} (hp : ∀ x, P x → ∀ k : Fz33.B → Option Res, Fz33.pf fFz12 BIG x k = k (v x)) : Fz33.S (cl P v) := Fz33.sound _ hFz12 _ (fun x r hr => by obtain ⟨h1, rfl⟩ := cl_some hr; exact ⟨BIG, hp x h1⟩)
theorem Fz33.of_tot {fFz12 : Fz12.A → Option Fz12.B} (hFz12 : Fz12.S fFz12) {v : Fz33.A → Fz33.B} (hp : ∀ x, ∀ k : Fz33.B → Option Res, Fz33.pf fFz12 BIG x k = k (v x)) : Fz33.S (tot v) := Fz33.sound _ hFz12 _ (fun x r hr => by obtain rfl := Option.some.inj hr; exact ⟨BIG, hp x⟩)
/-! 108 slices_ContainsFunc_impl_Crate_impl_Crate__impl_ValidStack_1 -/
noncomputable def Fz29.tab (fFz33 : Fz33.A → Option Fz33.B) : FuncId → Option Sig := tabOf [(129, Fz33.sig fFz33)]
noncomputable def Fz29.E (fFz33 : Fz33.A → Option Fz33.B) : Env := ⟨TT, small, Fz29.tab fFz33, 1, 9⟩
def Fz29.ann : Ann := .nil
noncomputable def Fz29.pf {α : Type} (fFz33 : Fz33.A → Option Fz33.B) (fuel : Nat) (a0 : (List (List (Int × Int)))) (k : Bool → Option α) : Option α :=
  (fFz33 a0).bind fun r1 => k (decide (r1 ≥ (0 : Int)))
theorem Fz29.red {α : Type} (fFz33 : Fz33.A → Option Fz33.B) (K : Res → Option α) (fuel : Nat) (e0 : TypeId) (a0 : (List (List (Int × Int)))) : run TT small (Fz29.tab fFz33) Try.f108 Fz29.ann [] fuel [.obj false ⟨e0, (.arr 12 (.st (.pair (.int .u8) (.int .i16)))), a0⟩, .fn 109 []] K = Fz29.pf fFz33 fuel a0 (fun r => K (Fz29.enc 0 r)) := by kernel_rfl
theorem Fz29.sound (fFz33 : Fz33.A → Option Fz33.B) (hFz33 : Fz33.S fFz33) (f : Fz29.A → Option Fz29.B) (hf : ∀ x r, f x = some r → ∃ fuel, ∀ k : Fz29.B → Option Res, Fz29.pf fFz33 fuel x k = k r) : Fz29.S f := by
  refine fn_sound (by kernel_rfl) (ttok _) (tab_sound [(129, Fz33.sig fFz33)] (List.forall_mem_cons.2 ⟨hFz33, fun p hp => nomatch hp⟩)) (fn := Try.f108) (by kernel_rfl) (by decide) (by decide) Fz29.ann [] _ rfl (fun avs r hr => ?_) (by kernel_rfl)
  obtain ⟨x, y, h1, h2, rfl⟩ := mkSig_run hr
  obtain ⟨e0, rfl⟩ := Fz29.dec_eq h1
  obtain ⟨fuel, hk⟩ := hf x y h2
  exact ⟨fuel, (Fz29.red fFz33 some fuel e0 x).trans (hk (fun r => some (Fz29.enc 0 r)))⟩
theorem Fz29.of_cl {fFz33 : Fz33.A → Option Fz33.B} (hFz33 : Fz33.S fFz33) {P : Fz29.A → Prop} {v : Fz29.A → Fz29.B} (hp : ∀ x, P x → ∀ k : Fz29.B → Option Res, Fz29.pf fFz33 BIG x k = k (v x)) : Fz29.S (cl P v) := Fz29.sound _ hFz33 _ (fun x r hr => by obtain ⟨h1, rfl⟩ := cl_some hr; exact ⟨BIG, hp x h1⟩)
theorem Fz29.of_tot {fFz33 : Fz33.A → Option Fz33.B} (hFz33 : Fz33.S fFz33) {v : Fz29.A → Fz29.B} (hp : ∀ x, ∀ k : Fz29.B → Option Res, Fz29.pf fFz33 BIG x k = k (v x)) : Fz29.S (tot v) := Fz29.sound _ hFz33 _ (fun x r hr => by obtain rfl := Option.some.inj hr; exact ⟨BIG, hp x⟩)
/-! 60 impl_ValidStack -/
noncomputable def Fz11.tab (fFz29 : Fz29.A → Option Fz29.B) : FuncId → Option Sig := tabOf [(108, Fz29.sig fFz29)]
noncomputable def Fz11.E (fFz29 : Fz29.A → Option Fz29.B) : Env := ⟨TT, small, Fz11.tab fFz29, 1, 11⟩
def Fz11.ann : Ann := .nil
noncomputable def Fz11.pf {α : Type} (fFz29 : Fz29.A → Option Fz29.B) (fuel : Nat) (a0 : (List (List (Int × Int)))) (k : Bool → Option α) : Option α :=
  cond (decide ((((List.length a0) : Nat) : Int) ≤ (12 : Int))) ((fFz29 a0).bind fun r1 => k (!r1)) (k false)
theorem Fz11.red {α : Type} (fFz29 : Fz29.A → Option Fz29.B) (K : Res → Option α) (fuel : Nat) (e0 : TypeId) (a0 : (List (List (Int × Int)))) : run TT small (Fz11.tab fFz29) Try.f60 Fz11.ann [] fuel [.obj false ⟨e0, (.arr 12 (.st (.pair (.int .u8) (.int .i16)))), a0⟩] K = Fz11.pf fFz29 fuel a0 (fun r => K (Fz11.enc 0 r)) := by kernel_rfl
theorem Fz11.sound (fFz29 : Fz29.A → Option Fz29.B) (hFz29 : Fz29.S fFz29) (f : Fz11.A → Option Fz11.B) (hf : ∀ x r, f x = some r → ∃ fuel, ∀ k : Fz11.B → Option Res, Fz11.pf fFz29 fuel x k = k r) : Fz11.S f := by
  refine fn_sound (by kernel_rfl) (ttok _) (tab_sound [(108, Fz29.sig fFz29)] (List.forall_mem_cons.2 ⟨hFz29, fun p hp => nomatch hp⟩)) (fn := Try.f60) (by kernel_rfl) (by decide) (by decide) Fz11.ann [] _ rfl (fun avs r hr => ?_) (by kernel_rfl)
  obtain ⟨x, y, h1, h2, rfl⟩ := mkSig_run hr
  obtain ⟨e0, rfl⟩ := Fz11.dec_eq h1
  obtain ⟨fuel, hk⟩ := hf x y h2
  exact ⟨fuel, (Fz11.red fFz29 some fuel e0 x).trans (hk (fun r => some (Fz11.enc 0 r)))⟩
theorem Fz11.of_cl {fFz29 : Fz29.A → Option Fz29.B} (hFz29 : Fz29.S fFz29) {P : Fz11.A → Prop} {v : Fz11.A → Fz11.B} (hp : ∀ x, P x → ∀ k : Fz11.B → Option Res, Fz11.pf fFz29 BIG x k = k (v x)) : Fz11.S (cl P v) := Fz11.sound _ hFz29 _ (fun x r hr => by obtain ⟨h1, rfl⟩ := cl_some hr; exact ⟨BIG, hp x h1⟩)
theorem Fz11.of_tot {fFz29 : Fz29.A → Option Fz29.B} (hFz29 : Fz29.S fFz29) {v : Fz11.A → Fz11.B} (hp : ∀ x, ∀ k : Fz11.B → Option Res, Fz11.pf fFz29 BIG x k = k (v x)) : Fz11.S (tot v) := Fz11.sound _ hFz29 _ (fun x r hr => by obtain rfl := Option.some.inj hr; exact ⟨BIG, hp x⟩)
/-! 95 slices_Clone_impl_Bottle_impl_Bottle -/
noncomputable def Fz27.tab : FuncId → Option Sig := tabOf []
noncomputable def Fz27.E : Env := ⟨TT, small, Fz27.tab , 1, 8⟩
def Fz27.ann : Ann := .nil
noncomputable def Fz27.pf {α : Type} (fuel : Nat) (a0 : (List (Int × Int))) (k : (List (Int × Int)) → Option α) : Option α :=
  cond (List.isEmpty a0) (both (k ([] : List (Int × Int))) (cond (okL (List.length ([] : List (Int × Int)) + List.length a0)) (k (([] : List (Int × Int)) ++ a0)) none)) (cond (okL (List.length ([] : List (Int × Int)) + List.length a0)) (k (([] : List (Int × Int)) ++ a0)) none)
theorem Fz27.red {α : Type} (K : Res → Option α) (fuel : Nat) (e0 : TypeId) (a0 : (List (Int × Int))) : run TT small Fz27.tab Try.f95 Fz27.ann [] fuel [.obj false ⟨e0, (.st (.pair (.int .u8) (.int .i16))), a0⟩] K = Fz27.pf fuel a0 (fun r => K (Fz27.enc 0 r)) := by kernel_rfl
theorem Fz27.sound (f : Fz27.A → Option Fz27.B) (hf : ∀ x r, f x = some r → ∃ fuel, ∀ k : Fz27.B → Option Res, Fz27.pf fuel x k = k r) : Fz27.S f := by
  refine fn_sound (by kernel_rfl) (ttok _) (tab_sound [] (fun p hp => nomatch hp)) (fn := Try.f95) (by kernel_rfl) (by decide) (by decide) Fz27.ann [] _ rfl (fun avs r hr => ?_) (by kernel_rfl)
  obtain ⟨x, y, h1, h2, rfl⟩ := mkSig_run hr
  obtain ⟨e0, rfl⟩ := Fz27.dec_eq h1
  obtain ⟨fuel, hk⟩ := hf x y h2
  exact ⟨fuel, (Fz27.red some fuel e0 x).trans (hk (fun r => some (Fz27.enc 0 r)))⟩
theorem Fz27.of_cl {P : Fz27.A → Prop} {v : Fz27.A → Fz27.B} (hp : ∀ x, P x → ∀ k : Fz27.B → Option Res, Fz27.pf BIG x k = k (v x)) : Fz27.S (cl P v) := Fz27.sound  _ (fun x r hr => by obtain ⟨h1, rfl⟩ := cl_some hr; exact ⟨BIG, hp x h1⟩)
theorem Fz27.of_tot {v : Fz27.A → Fz27.B} (hp : ∀ x, ∀ k : Fz27.B → Option Res, Fz27.pf BIG x k = k (v x)) : Fz27.S (tot v) := Fz27.sound  _ (fun x r hr => by obtain rfl := Option.some.inj hr; exact ⟨BIG, hp x⟩)
/-! 110 impl_Crate_bottles_1 -/
noncomputable def Fz6.tab : FuncId → Option Sig := tabOf []
noncomputable def Fz6.E : Env := ⟨TT, small, Fz6.tab , 0, 6⟩
def Fz6.ann : Ann := .nil
noncomputable def Fz6.pf {α : Type} (fuel : Nat) (a0 : (Int × Int)) (k : Bool → Option α) : Option α :=
  k (eqV (.st (.pair (.int .u8) (.int .i16))) a0 ((0 : Int), (0 : Int)))
theorem Fz6.red {α : Type} (K : Res → Option α) (fuel : Nat) (a0 : (Int × Int)) : run TT small Fz6.tab Try.f110 Fz6.ann [] fuel [.val (.st (.pair (.int .u8) (.int .i16))) a0] K = Fz6.pf fuel a0 (fun r => K (Fz6.enc 0 r)) := by kernel_rfl
theorem Fz6.sound (f : Fz6.A → Option Fz6.B) (hf : ∀ x r, f x = some r → ∃ fuel, ∀ k : Fz6.B → Option Res, Fz6.pf fuel x k = k r) : Fz6.S f := by
  refine fn_sound (by kernel_rfl) (ttok _) (tab_sound [] (fun p hp => nomatch hp)) (fn := Try.f110) (by kernel_rfl) (by decide) (by decide) Fz6.ann [] _ rfl (fun avs r hr => ?_) (by kernel_rfl)
  obtain ⟨x, y, h1, h2, rfl⟩ := mkSig_run hr
  obtain rfl := Fz6.dec_eq h1
  obtain ⟨fuel, hk⟩ := hf x y h2
  exact ⟨fuel, (Fz6.red some fuel x).trans (hk (fun r => some (Fz6.enc 0 r)))⟩
theorem Fz6.of_cl {P : Fz6.A → Prop} {v : Fz6.A → Fz6.B} (hp : ∀ x, P x → ∀ k : Fz6.B → Option Res, Fz6.pf BIG x k = k (v x)) : Fz6.S (cl P v) := Fz6.sound  _ (fun x r hr => by obtain ⟨h1, rfl⟩ := cl_some hr; exact ⟨BIG, hp x h1⟩)
theorem Fz6.of_tot {v : Fz6.A → Fz6.B} (hp : ∀ x, ∀ k : Fz6.B → Option Res, Fz6.pf BIG x k = k (v x)) : Fz6.S (tot v) := Fz6.sound  _ (fun x r hr => by obtain rfl := Option.some.inj hr; exact ⟨BIG, hp x⟩)
/-! 106 slices_IndexFunc_impl_Bottle_impl_Bottle__impl_Crate_bottles_1 -/
noncomputable def Fz31.tab (fFz6 : Fz6.A → Option Fz6.B) : FuncId → Option Sig := tabOf [(110, Fz6.sig fFz6)]
noncomputable def Fz31.E (fFz6 : Fz6.A → Option Fz6.B) : Env := ⟨TT, small, Fz31.tab fFz6, 1, 19⟩
def Fz31.ann : Ann := (.two .nil (.two (.two .nil (.one (.loop [0, 1, 7, 8] .nil))) .nil))
noncomputable def Fz31.emb1 (e0 : TypeId) (p1_0 : Int) (p1_1 : (List (Int × Int))) (x1 : Int) : St := { slots := mkSlots 19 [(0, .sl 0 [] none), (1, .fn 110 []), (7, .val (.int .i64) p1_0), (8, .val (.int .i64) x1)], objs := mkObjs 39 [(0, .dat ⟨e0, (.st (.pair (.int .u8) (.int .i16))), p1_1, false, false, none⟩)] }
noncomputable def Fz31.LB1 {α : Type} (fFz6 : Fz6.A → Option Fz6.B) (fuel : Nat) (cont : Ex → St → Option α) : (St → Option α) → St → Option α := roundV (Fz31.E fFz6) fuel [true, false, true, false] (bodyOf Try.f106) Fz31.ann cont
noncomputable def Fz31.C1 {α : Type} (fFz6 : Fz6.A → Option Fz6.B) (K : Res → Option α) (fuel : Nat) : Ex → St → Option α := contAt (Fz31.E fFz6) fuel [true, false, true, false] (bodyOf Try.f106) Fz31.ann [] (finK TT 1 [some 0, none] Try.f106 [] K)
noncomputable def Fz31.ex1_0 (e0 : TypeId) (p1_0 : Int) (p1_1 : (List (Int × Int))) (x1 : Int) (r1001 : Bool) : St := { slots := mkSlots 19 [(0, .sl 0 [] none), (1, .fn 110 []), (4, .val (.int .i64) x1), (5, .val (.int .i64) x1), (7, .val (.int .i64) p1_0), (8, .val (.int .i64) x1), (9, .val .bool (decide (x1 < p1_0))), (10, .val (.int .i64) x1), (11, .fn 110 []), (12, .sl 0 [] none), (13, .val (.int .i64) x1), (14, .ptr 0 [.idx (x1 : Int).toNat] false), (15, .val (.st (.pair (.int .u8) (.int .i16))) (List.getD p1_1 (x1 : Int).toNat ((0 : Int), (0 : Int)))), (16, .val .bool r1001), (17, .val (.int .i64) x1)], objs := mkObjs 39 [(0, .dat ⟨e0, (.st (.pair (.int .u8) (.int .i16))), p1_1, false, false, none⟩)] }
noncomputable def Fz31.ex1_1 (e0 : TypeId) (p1_0 : Int) (p1_1 : (List (Int × Int))) (x1 : Int) : St := { slots := mkSlots 19 [(0, .sl 0 [] none), (1, .fn 110 []), (7, .val (.int .i64) p1_0), (8, .val (.int .i64) x1), (9, .val .bool (decide (x1 < p1_0)))], objs := mkObjs 39 [(0, .dat ⟨e0, (.st (.pair (.int .u8) (.int .i16))), p1_1, false, false, none⟩)] }
noncomputable def Fz31.B1 {α : Type} (fFz6 : Fz6.A → Option Fz6.B) (p1_0 : Int) (p1_1 : (List (Int × Int))) (K0 : Int → Bool → Option α) (K1 : Int → Option α) (rec : Int → Option α) (x1 : Int) : Option α :=
  cond (decide (x1 < p1_0)) (cond (inB x1 (List.length p1_1)) ((fFz6 (List.getD p1_1 (x1 : Int).toNat ((0 : Int), (0 : Int)))).bind fun r1001 => cond r1001 (K0 x1 r1001) (rec (IntKind.i64.wrap (x1 + (1 : Int))))) none) (K1 x1)
theorem Fz31.step1 {α : Type} (fFz6 : Fz6.A → Option Fz6.B) (fuel : Nat) (cont : Ex → St → Option α) (e0 : TypeId) (p1_0 : Int) (p1_1 : (List (Int × Int))) (rec : St → Option α) (x1 : Int) : Fz31.LB1 fFz6 fuel cont rec (Fz31.emb1 e0 p1_0 p1_1 x1) = Fz31.B1 fFz6 p1_0 p1_1 (fun x1 r1001 => cont .ret (Fz31.ex1_0 e0 p1_0 p1_1 x1 r1001)) (fun x1 => cont (.exit 0) (Fz31.ex1_1 e0 p1_0 p1_1 x1)) (fun y => rec (Fz31.emb1 e0 p1_0 p1_1 y)) x1 := by kernel_rfl
theorem Fz31.loop1 {α : Type} (fFz6 : Fz6.A → Option Fz6.B) (fuel : Nat) (cont : Ex → St → Option α) (e0 : TypeId) (p1_0 : Int) (p1_1 : (List (Int × Int))) (x1 : Int) : loopN (Fz31.LB1 fFz6 fuel cont) fuel (Fz31.emb1 e0 p1_0 p1_1 x1) = iter (Fz31.B1 fFz6 p1_0 p1_1 (fun x1 r1001 => cont .ret (Fz31.ex1_0 e0 p1_0 p1_1 x1 r1001)) (fun x1 => cont (.exit 0) (Fz31.ex1_1 e0 p1_0 p1_1 x1))) fuel x1 := loop_sim (fun rec x => Fz31.step1 fFz6 fuel cont e0 p1_0 p1_1 rec x) fuel x1
noncomputable def Fz31.pf {α : Type} (fFz6 : Fz6.A → Option Fz6.B) (fuel : Nat) (a0 : (List (Int × Int))) (k : Int → Option α) : Option α :=
  iter (Fz31.B1 fFz6 (((List.length a0) : Nat) : Int) a0 (fun (x1 : Int) (r1001 : Bool) => k x1) (fun (x1 : Int) => k (-1 : Int))) fuel (0 : Int)
theorem Fz31.tail1 {α : Type} (fFz6 : Fz6.A → Option Fz6.B) (K : Res → Option α) (fuel : Nat) (e0 : TypeId) (a0 : (List (Int × Int))) (x1 : Int) (r1001 : Bool) : Fz31.C1 fFz6 K fuel .ret (Fz31.ex1_0 e0 (((List.length a0) : Nat) : Int) a0 x1 r1001) = ((fun (k : Int → Option α) => k x1) (fun r => K (Fz31.enc 0 r))) := by kernel_rfl
theorem Fz31.tail2 {α : Type} (fFz6 : Fz6.A → Option Fz6.B) (K : Res → Option α) (fuel : Nat) (e0 : TypeId) (a0 : (List (Int × Int))) (x1 : Int) : Fz31.C1 fFz6 K fuel (.exit 0) (Fz31.ex1_1 e0 (((List.length a0) : Nat) : Int) a0 x1) = ((fun (k : Int → Option α) => k (-1 : Int)) (fun r => K (Fz31.enc 0 r))) := by kernel_rfl
theorem Fz31.red_raw {α : Type} (fFz6 : Fz6.A → Option Fz6.B) (K : Res → Option α) (fuel : Nat) (e0 : TypeId) (a0 : (List (Int × Int))) : run TT small (Fz31.tab fFz6) Try.f106 Fz31.ann [] fuel [.obj false ⟨e0, (.st (.pair (.int .u8) (.int .i16))), a0⟩, .fn 110 []] K = loopN (Fz31.LB1 fFz6 fuel (Fz31.C1 fFz6 K fuel)) fuel (Fz31.emb1 e0 (((List.length a0) : Nat) : Int) a0 (0 : Int)) := by kernel_rfl
theorem Fz31.red {α : Type} (fFz6 : Fz6.A → Option Fz6.B) (K : Res → Option α) (fuel : Nat) (e0 : TypeId) (a0 : (List (Int × Int))) : run TT small (Fz31.tab fFz6) Try.f106 Fz31.ann [] fuel [.obj false ⟨e0, (.st (.pair (.int .u8) (.int .i16))), a0⟩, .fn 110 []] K = Fz31.pf fFz6 fuel a0 (fun r => K (Fz31.enc 0 r)) := by
  rw [Fz31.red_raw]
  simp only [Fz31.loop1, Fz31.tail1, Fz31.tail2]
  all_goals kernel_rfl
theorem Fz31.sound (fFz6 : Fz6.A → Option Fz6.B) (hFz6 : Fz6.S fFz6) (f : Fz31.A → Option Fz31.B) (hf : ∀ x r, f x = some r → ∃ fuel, ∀ k : Fz31.B → Option Res, Fz31.pf fFz6 fuel x k = k r) : Fz31.S f := by
  refine fn_sound (by kernel_rfl) (ttok _) (tab_sound [(110, Fz6.sig fFz6)] (List.forall_mem_cons.2 ⟨hFz6, fun p hp => nomatch hp⟩)) (fn := Try.f106) (by kernel_rfl) (by decide) (by decide) Fz31.ann [] _ rfl (fun avs r hr => ?_) (by kernel_rfl)
  obtain ⟨x, y, h1, h2, rfl⟩ := mkSig_run hr
  obtain ⟨e0, rfl⟩ := Fz31.dec_eq h1
  obtain ⟨fuel, hk⟩ := hf x y h2
  exact ⟨fuel, (Fz31.red fFz6 some fuel e0 x).trans (hk (fun r => some (Fz31.enc 0 r)))⟩
theorem Fz31.of_cl {fFz6 : Fz6.A → Option Fz6.B} (hFz6 : Fz6.S fFz6) {P : Fz31.A → Prop} {v : Fz31.A → Fz31.B} (hp : ∀ x, P x → ∀ k : Fz31.B → Option Res, Fz31.pf fFz6 BIG x k = k (v x)) : Fz31.S (cl P v) := Fz31.sound _ hFz6 _ (fun x r hr => by obtain ⟨h1, rfl⟩ := cl_some hr; exact ⟨BIG, hp x h1⟩)
theorem Fz31.of_tot {fFz6 : Fz6.A → Option Fz6.B} (hFz6 : Fz6.S fFz6) {v : Fz31.A → Fz31.B} (hp : ∀ x, ∀ k : Fz31.B → Option Res, Fz31.pf fFz6 BIG x k = k (v x)) : Fz31.S (tot v) := Fz31.sound _ hFz6 _ (fun x r hr => by obtain rfl := Option.some.inj hr; exact ⟨BIG, hp x⟩)
/-! 94 slices_DeleteFunc_impl_Bottle_impl_Bottle__impl_Crate_bottles_1 -/
noncomputable def Fz30.tab (fFz31 : Fz31.A → Option Fz31.B) (fFz6 : Fz6.A → Option Fz6.B) : FuncId → Option Sig := tabOf [(106, Fz31.sig fFz31), (110, Fz6.sig fFz6)]
noncomputable def Fz30.E (fFz31 : Fz31.A → Option Fz31.B) (fFz6 : Fz6.A → Option Fz6.B) : Env := ⟨TT, small, Fz30.tab fFz31 fFz6, 1, 42⟩
def Fz30.ann : Ann := (.two .nil (.two .nil (.two .nil (.two (.two .nil (.one (.loop [0, 1, 5, 6] .nil))) .nil))))
noncomputable def Fz30.emb1 (e0 : TypeId) (x1 : (Int × Int × (List (Int × Int)))) : St := { slots := mkSlots 42 [(0, .sl 0 [] none), (1, .fn 110 []), (5, .val (.int .i64) x1.1), (6, .val (.int .i64) x1.2.1)], objs := mkObjs 85 [(0, .dat ⟨e0, (.st (.pair (.int .u8) (.int .i16))), x1.2.2, true, false, none⟩)] }
noncomputable def Fz30.LB1 {α : Type} (fFz31 : Fz31.A → Option Fz31.B) (fFz6 : Fz6.A → Option Fz6.B) (fuel : Nat) (cont : Ex → St → Option α) : (St → Option α) → St → Option α := roundV (Fz30.E fFz31 fFz6) fuel [true, true, true, false, true, false] (bodyOf Try.f94) Fz30.ann cont
noncomputable def Fz30.C1 {α : Type} (fFz31 : Fz31.A → Option Fz31.B) (fFz6 : Fz6.A → Option Fz6.B) (K : Res → Option α) (fuel : Nat) : Ex → St → Option α := contAt (Fz30.E fFz31 fFz6) fuel [true, true, true, false, true, false] (bodyOf Try.f94) Fz30.ann [] (finK TT 1 [some 0, none] Try.f94 [0] K)
noncomputable def Fz30.ex1_0 (e0 : TypeId) (x1 : (Int × Int × (List (Int × Int)))) : St := { slots := mkSlots 42 [(0, .sl 0 [] none), (1, .fn 110 []), (5, .val (.int .i64) x1.1), (6, .val (.int .i64) x1.2.1), (16, .val (.int .i64) x1.2.1), (17, .sl 0 [] none), (18, .val (.int .i64) (((List.length x1.2.2) : Nat) : Int)), (19, .val .bool ((decide (x1.2.1 < (((List.length x1.2.2) : Nat) : Int)))))], objs := mkObjs 85 [(0, .dat ⟨e0, (.st (.pair (.int .u8) (.int .i16))), x1.2.2, true, false, none⟩)] }
noncomputable def Fz30.B1 {α : Type} (fFz6 : Fz6.A → Option Fz6.B) (K0 : (Int × Int × (List (Int × Int))) → Option α) (rec : (Int × Int × (List (Int × Int))) → Option α) (x1 : (Int × Int × (List (Int × Int)))) : Option α :=
  cond (decide (x1.2.1 < (((List.length x1.2.2) : Nat) : Int))) (cond (inB x1.2.1 (List.length x1.2.2)) ((fFz6 (List.getD x1.2.2 (x1.2.1 : Int).toNat ((0 : Int), (0 : Int)))).bind fun r1001 => cond (!r1001) (cond (inB x1.1 (List.length x1.2.2)) (rec (((IntKind.i64.wrap (x1.1 + (1 : Int))), (IntKind.i64.wrap (x1.2.1 + (1 : Int))), (List.set x1.2.2 (x1.1 : Int).toNat (List.getD x1.2.2 (x1.2.1 : Int).toNat ((0 : Int), (0 : Int))))))) none) (rec ((x1.1, (IntKind.i64.wrap (x1.2.1 + (1 : Int))), x1.2.2)))) none) (K0 x1)
theorem Fz30.step1 {α : Type} (fFz31 : Fz31.A → Option Fz31.B) (fFz6 : Fz6.A → Option Fz6.B) (fuel : Nat) (cont : Ex → St → Option α) (e0 : TypeId) (rec : St → Option α) (x1 : (Int × Int × (List (Int × Int)))) : Fz30.LB1 fFz31 fFz6 fuel cont rec (Fz30.emb1 e0 x1) = Fz30.B1 fFz6 (fun x1 => cont (.exit 0) (Fz30.ex1_0 e0 x1)) (fun y => rec (Fz30.emb1 e0 y)) x1 := by kernel_rfl
theorem Fz30.loop1 {α : Type} (fFz31 : Fz31.A → Option Fz31.B) (fFz6 : Fz6.A → Option Fz6.B) (fuel : Nat) (cont : Ex → St → Option α) (e0 : TypeId) (x1 : (Int × Int × (List (Int × Int)))) : loopN (Fz30.LB1 fFz31 fFz6 fuel cont) fuel (Fz30.emb1 e0 x1) = iter (Fz30.B1 fFz6 (fun x1 => cont (.exit 0) (Fz30.ex1_0 e0 x1))) fuel x1 := loop_sim (fun rec x => Fz30.step1 fFz31 fFz6 fuel cont e0 rec x) fuel x1
noncomputable def Fz30.pf {α : Type} (fFz31 : Fz31.A → Option Fz31.B) (fFz6 : Fz6.A → Option Fz6.B) (fuel : Nat) (a0 : (List (Int × Int))) (k : ((Option (Nat × Nat)) × (List (Int × Int))) → Option α) : Option α :=
  (fFz31 a0).bind fun r1 => cond (r1 == (-1 : Int)) (k ((none : Option (Nat × Nat)), a0)) (iter (Fz30.B1 fFz6 (fun (x1 : (Int × Int × (List (Int × Int)))) => cond (inW x1.1 (((List.length x1.2.2) : Nat) : Int) (List.length x1.2.2)) (cond (inW (0 : Int) x1.1 (List.length (overL x1.2.2 (x1.1 : Int).toNat (List.replicate ((((List.length x1.2.2) : Nat) : Int) - x1.1).toNat ((0 : Int), (0 : Int)))))) (k ((some (0, (x1.1 - (0 : Int)).toNat)), (overL x1.2.2 (x1.1 : Int).toNat (List.replicate ((((List.length x1.2.2) : Nat) : Int) - x1.1).toNat ((0 : Int), (0 : Int)))))) none) none)) fuel ((r1, (IntKind.i64.wrap (r1 + (1 : Int))), a0)))
theorem Fz30.tail1 {α : Type} (fFz31 : Fz31.A → Option Fz31.B) (fFz6 : Fz6.A → Option Fz6.B) (K : Res → Option α) (fuel : Nat) (e0 : TypeId) (x1 : (Int × Int × (List (Int × Int)))) : Fz30.C1 fFz31 fFz6 K fuel (.exit 0) (Fz30.ex1_0 e0 x1) = ((fun (k : ((Option (Nat × Nat)) × (List (Int × Int))) → Option α) => cond (inW x1.1 (((List.length x1.2.2) : Nat) : Int) (List.length x1.2.2)) (cond (inW (0 : Int) x1.1 (List.length (overL x1.2.2 (x1.1 : Int).toNat (List.replicate ((((List.length x1.2.2) : Nat) : Int) - x1.1).toNat ((0 : Int), (0 : Int)))))) (k ((some (0, (x1.1 - (0 : Int)).toNat)), (overL x1.2.2 (x1.1 : Int).toNat (List.replicate ((((List.length x1.2.2) : Nat) : Int) - x1.1).toNat ((0 : Int), (0 : Int)))))) none) none) (fun r => K (Fz30.enc e0 r))) := by kernel_rfl
theorem Fz30.red_raw {α : Type} (fFz31 : Fz31.A → Option Fz31.B) (fFz6 : Fz6.A → Option Fz6.B) (K : Res → Option α) (fuel : Nat) (e0 : TypeId) (a0 : (List (Int × Int))) : run TT small (Fz30.tab fFz31 fFz6) Try.f94 Fz30.ann [0] fuel [.obj false ⟨e0, (.st (.pair (.int .u8) (.int .i16))), a0⟩, .fn 110 []] K = (fFz31 a0).bind fun r1 => cond (r1 == (-1 : Int)) (K ⟨[.al 0 (none : Option (Nat × Nat))], [⟨e0, (.st (.pair (.int .u8) (.int .i16))), a0⟩]⟩) (loopN (Fz30.LB1 fFz31 fFz6 fuel (Fz30.C1 fFz31 fFz6 K fuel)) fuel (Fz30.emb1 e0 ((r1, (IntKind.i64.wrap (r1 + (1 : Int))), a0)))) := by kernel_rfl
theorem Fz30.red {α : Type} (fFz31 : Fz31.A → Option Fz31.B) (fFz6 : Fz6.A → Option Fz6.B) (K : Res → Option α) (fuel : Nat) (e0 : TypeId) (a0 : (List (Int × Int))) : run TT small (Fz30.tab fFz31 fFz6) Try.f94 Fz30.ann [0] fuel [.obj false ⟨e0, (.st (.pair (.int .u8) (.int .i16))), a0⟩, .fn 110 []] K = Fz30.pf fFz31 fFz6 fuel a0 (fun r => K (Fz30.enc e0 r)) := by
  rw [Fz30.red_raw]
  simp only [Fz30.loop1, Fz30.tail1]
  all_goals kernel_rfl
theorem Fz30.sound (fFz31 : Fz31.A → Option Fz31.B) (fFz6 : Fz6.A → Option Fz6.B) (hFz31 : Fz31.S fFz31) (hFz6 : Fz6.S fFz6) (f : Fz30.A → Option Fz30.B) (hf : ∀ x r, f x = some r → ∃ fuel, ∀ k : Fz30.B → Option Res, Fz30.pf fFz31 fFz6 fuel x k = k r) : Fz30.S f := by
  refine fn_sound (by kernel_rfl) (ttok _) (tab_sound [(106, Fz31.sig fFz31), (110, Fz6.sig fFz6)] (List.forall_mem_cons.2 ⟨hFz31, List.forall_mem_cons.2 ⟨hFz6, fun p hp => nomatch hp⟩⟩)) (fn := Try.f94) (by kernel_rfl) (by decide) (by decide) Fz30.ann [0] _ rfl (fun avs r hr => ?_) (by kernel_rfl)
  obtain ⟨x, y, h1, h2, rfl⟩ := mkSig_run hr
  obtain ⟨e0, rfl⟩ := Fz30.dec_eq h1
  obtain ⟨fuel, hk⟩ := hf x y h2
  exact ⟨fuel, (Fz30.red fFz31 fFz6 some fuel e0 x).trans (hk (fun r => some (Fz30.enc e0 r)))⟩
theorem Fz30.of_cl {fFz31 : Fz31.A → Option Fz31.B} {fFz6 : Fz6.A → Option Fz6.B} (hFz31 : Fz31.S fFz31) (hFz6 : Fz6.S fFz6) {P : Fz30.A → Prop} {v : Fz30.A → Fz30.B} (hp : ∀ x, P x → ∀ k : Fz30.B → Option Res, Fz30.pf fFz31 fFz6 BIG x k = k (v x)) : Fz30.S (cl P v) := Fz30.sound _ _ hFz31 hFz6 _ (fun x r hr => by obtain ⟨h1, rfl⟩ := cl_some hr; exact ⟨BIG, hp x h1⟩)
theorem Fz30.of_tot {fFz31 : Fz31.A → Option Fz31.B} {fFz6 : Fz6.A → Option Fz6.B} (hFz31 : Fz31.S fFz31) (hFz6 : Fz6.S fFz6) {v : Fz30.A → Fz30.B} (hp : ∀ x, ∀ k : Fz30.B → Option Res, Fz30.pf fFz31 fFz6 BIG x k = k (v x)) : Fz30.S (tot v) := Fz30.sound _ _ hFz31 hFz6 _ (fun x r hr => by obtain rfl := Option.some.inj hr; exact ⟨BIG, hp x⟩)
/-! 61 impl_Crate_bottles -/
noncomputable def Fz5.tab (fFz27 : Fz27.A → Option Fz27.B) (fFz30 : Fz30.A → Option Fz30.B) : FuncId → Option Sig := tabOf [(95, Fz27.sig fFz27), (94, Fz30.sig fFz30)]
noncomputable def Fz5.E (fFz27 : Fz27.A → Option Fz27.B) (fFz30 : Fz30.A → Option Fz30.B) : Env := ⟨TT, small, Fz5.tab fFz27 fFz30, 0, 6⟩
def Fz5.ann : Ann := .nil
noncomputable def Fz5.pf {α : Type} (fFz27 : Fz27.A → Option Fz27.B) (fFz30 : Fz30.A → Option Fz30.B) (fuel : Nat) (a0 : (List (Int × Int))) (k : (List (Int × Int)) → Option α) : Option α :=
  (fFz27 a0).bind fun r1 => (fFz30 r1).bind fun r2 => k (Win.cut r2.1 r2.2)
theorem Fz5.red {α : Type} (fFz27 : Fz27.A → Option Fz27.B) (fFz30 : Fz30.A → Option Fz30.B) (K : Res → Option α) (fuel : Nat) (a0 : (List (Int × Int))) : run TT small (Fz5.tab fFz27 fFz30) Try.f61 Fz5.ann [] fuel [.val (.arr 12 (.st (.pair (.int .u8) (.int .i16)))) a0] K = Fz5.pf fFz27 fFz30 fuel a0 (fun r => K (Fz5.enc 0 r)) := by kernel_rfl
theorem Fz5.sound (fFz27 : Fz27.A → Option Fz27.B) (fFz30 : Fz30.A → Option Fz30.B) (hFz27 : Fz27.S fFz27) (hFz30 : Fz30.S fFz30) (f : Fz5.A → Option Fz5.B) (hf : ∀ x r, f x = some r → ∃ fuel, ∀ k : Fz5.B → Option Res, Fz5.pf fFz27 fFz30 fuel x k = k r) : Fz5.S f := by
  refine fn_sound (by kernel_rfl) (ttok _) (tab_sound [(95, Fz27.sig fFz27), (94, Fz30.sig fFz30)] (List.forall_mem_cons.2 ⟨hFz27, List.forall_mem_cons.2 ⟨hFz30, fun p hp => nomatch hp⟩⟩)) (fn := Try.f61) (by kernel_rfl) (by decide) (by decide) Fz5.ann [] _ rfl (fun avs r hr => ?_) (by kernel_rfl)
  obtain ⟨x, y, h1, h2, rfl⟩ := mkSig_run hr
  obtain rfl := Fz5.dec_eq h1
  obtain ⟨fuel, hk⟩ := hf x y h2
  exact ⟨fuel, (Fz5.red fFz27 fFz30 some fuel x).trans (hk (fun r => some (Fz5.enc 0 r)))⟩
theorem Fz5.of_cl {fFz27 : Fz27.A → Option Fz27.B} {fFz30 : Fz30.A → Option Fz30.B} (hFz27 : Fz27.S fFz27) (hFz30 : Fz30.S fFz30) {P : Fz5.A → Prop} {v : Fz5.A → Fz5.B} (hp : ∀ x, P x → ∀ k : Fz5.B → Option Res, Fz5.pf fFz27 fFz30 BIG x k = k (v x)) : Fz5.S (cl P v) := Fz5.sound _ _ hFz27 hFz30 _ (fun x r hr => by obtain ⟨h1, rfl⟩ := cl_some hr; exact ⟨BIG, hp x h1⟩)
theorem Fz5.of_tot {fFz27 : Fz27.A → Option Fz27.B} {fFz30 : Fz30.A → Option Fz30.B} (hFz27 : Fz27.S fFz27) (hFz30 : Fz30.S fFz30) {v : Fz5.A → Fz5.B} (hp : ∀ x, ∀ k : Fz5.B → Option Res, Fz5.pf fFz27 fFz30 BIG x k = k (v x)) : Fz5.S (tot v) := Fz5.sound _ _ hFz27 hFz30 _ (fun x r hr => by obtain rfl := Option.some.inj hr; exact ⟨BIG, hp x⟩)
/-! 76 impl_allOf -/
noncomputable def impl_allOf.tab (fFz5 : Fz5.A → Option Fz5.B) (fFz34 : Fz34.A → Option Fz34.B) : FuncId → Option Sig := tabOf [(61, Fz5.sig fFz5), (112, Fz34.sig fFz34)]
noncomputable def impl_allOf.E (fFz5 : Fz5.A → Option Fz5.B) (fFz34 : Fz34.A → Option Fz34.B) : Env := ⟨TT, small, impl_allOf.tab fFz5 fFz34, 1, 21⟩
def impl_allOf.ann : Ann := (.two .nil (.two .nil (.two (.two .nil (.one (.loop [3, 7, 8, 9] .nil))) .nil)))
noncomputable def impl_allOf.emb1 (e0 : TypeId) (p1_0 : Int) (p1_1 : (List (List (Int × Int)))) (x1 : (Int × (List (Int × Int)))) : St := { slots := mkSlots 21 [(3, .sl 43 [] none), (7, .sl 0 [] none), (8, .val (.int .i64) p1_0), (9, .val (.int .i64) x1.1)], objs := mkObjs 44 [(0, .dat ⟨e0, (.arr 12 (.st (.pair (.int .u8) (.int .i16)))), p1_1, false, false, none⟩), (43, .dat ⟨41, (.st (.pair (.int .u8) (.int .i16))), x1.2, true, true, none⟩)] }
noncomputable def impl_allOf.LB1 {α : Type} (fFz5 : Fz5.A → Option Fz5.B) (fFz34 : Fz34.A → Option Fz34.B) (fuel : Nat) (cont : Ex → St → Option α) : (St → Option α) → St → Option α := roundV (impl_allOf.E fFz5 fFz34) fuel [true, true, false, true, false] (bodyOf Try.f76) impl_allOf.ann cont
noncomputable def impl_allOf.C1 {α : Type} (fFz5 : Fz5.A → Option Fz5.B) (fFz34 : Fz34.A → Option Fz34.B) (K : Res → Option α) (fuel : Nat) : Ex → St → Option α := contAt (impl_allOf.E fFz5 fFz34) fuel [true, true, false, true, false] (bodyOf Try.f76) impl_allOf.ann [] (finK TT 1 [some 0] Try.f76 [] K)
noncomputable def impl_allOf.ex1_0 (e0 : TypeId) (p1_0 : Int) (p1_1 : (List (List (Int × Int)))) (x1 : (Int × (List (Int × Int)))) : St := { slots := mkSlots 21 [(3, .sl 43 [] none), (7, .sl 0 [] none), (8, .val (.int .i64) p1_0), (9, .val (.int .i64) x1.1), (10, .val .bool (decide (x1.1 < p1_0)))], objs := mkObjs 44 [(0, .dat ⟨e0, (.arr 12 (.st (.pair (.int .u8) (.int .i16)))), p1_1, false, false, none⟩), (43, .dat ⟨41, (.st (.pair (.int .u8) (.int .i16))), x1.2, true, true, none⟩)] }
noncomputable def impl_allOf.B1 {α : Type} (fFz5 : Fz5.A → Option Fz5.B) (p1_0 : Int) (p1_1 : (List (List (Int × Int)))) (K0 : (Int × (List (Int × Int))) → Option α) (rec : (Int × (List (Int × Int))) → Option α) (x1 : (Int × (List (Int × Int)))) : Option α :=
  cond (decide (x1.1 < p1_0)) (cond (inB x1.1 (List.length p1_1)) ((fFz5 (List.getD p1_1 (x1.1 : Int).toNat (List.replicate 12 ((0 : Int), (0 : Int))))).bind fun r1001 => cond (okL (List.length x1.2 + List.length r1001)) (rec (((IntKind.i64.wrap (x1.1 + (1 : Int))), (x1.2 ++ r1001)))) none) none) (K0 x1)
theorem impl_allOf.step1 {α : Type} (fFz5 : Fz5.A → Option Fz5.B) (fFz34 : Fz34.A → Option Fz34.B) (fuel : Nat) (cont : Ex → St → Option α) (e0 : TypeId) (p1_0 : Int) (p1_1 : (List (List (Int × Int)))) (rec : St → Option α) (x1 : (Int × (List (Int × Int)))) : impl_allOf.LB1 fFz5 fFz34 fuel cont rec (impl_allOf.emb1 e0 p1_0 p1_1 x1) = impl_allOf.B1 fFz5 p1_0 p1_1 (fun x1 => cont (.exit 0) (impl_allOf.ex1_0 e0 p1_0 p1_1 x1)) (fun y => rec (impl_allOf.emb1 e0 p1_0 p1_1 y)) x1 := by kernel_rfl
theorem impl_allOf.loop1 {α : Type} (fFz5 : Fz5.A → Option Fz5.B) (fFz34 : Fz34.A → Option Fz34.B) (fuel : Nat) (cont : Ex → St → Option α) (e0 : TypeId) (p1_0 : Int) (p1_1 : (List (List (Int × Int)))) (x1 : (Int × (List (Int × Int)))) : loopN (impl_allOf.LB1 fFz5 fFz34 fuel cont) fuel (impl_allOf.emb1 e0 p1_0 p1_1 x1) = iter (impl_allOf.B1 fFz5 p1_0 p1_1 (fun x1 => cont (.exit 0) (impl_allOf.ex1_0 e0 p1_0 p1_1 x1))) fuel x1 := loop_sim (fun rec x => impl_allOf.step1 fFz5 fFz34 fuel cont e0 p1_0 p1_1 rec x) fuel x1
noncomputable def impl_allOf.pf {α : Type} (fFz5 : Fz5.A → Option Fz5.B) (fFz34 : Fz34.A → Option Fz34.B) (fuel : Nat) (a0 : (List (List (Int × Int)))) (k : (List (Int × Int)) → Option α) : Option α :=
  iter (impl_allOf.B1 fFz5 (((List.length a0) : Nat) : Int) a0 (fun (x1 : (Int × (List (Int × Int)))) => (fFz34 x1.2).bind fun r1 => k r1)) fuel ((0 : Int), ([] : List (Int × Int)))
theorem impl_allOf.tail1 {α : Type} (fFz5 : Fz5.A → Option Fz5.B) (fFz34 : Fz34.A → Option Fz34.B) (K : Res → Option α) (fuel : Nat) (e0 : TypeId) (a0 : (List (List (Int × Int)))) (x1 : (Int × (List (Int × Int)))) : impl_allOf.C1 fFz5 fFz34 K fuel (.exit 0) (impl_allOf.ex1_0 e0 (((List.length a0) : Nat) : Int) a0 x1) = ((fun (k : (List (Int × Int)) → Option α) => (fFz34 x1.2).bind fun r1 => k r1) (fun r => K (impl_allOf.enc 0 r))) := by kernel_rfl
theorem impl_allOf.red_raw {α : Type} (fFz5 : Fz5.A → Option Fz5.B) (fFz34 : Fz34.A → Option Fz34.B) (K : Res → Option α) (fuel : Nat) (e0 : TypeId) (a0 : (List (List (Int × Int)))) : run TT small (impl_allOf.tab fFz5 fFz34) Try.f76 impl_allOf.ann [] fuel [.obj false ⟨e0, (.arr 12 (.st (.pair (.int .u8) (.int .i16)))), a0⟩] K = loopN (impl_allOf.LB1 fFz5 fFz34 fuel (impl_allOf.C1 fFz5 fFz34 K fuel)) fuel (impl_allOf.emb1 e0 (((List.length a0) : Nat) : Int) a0 ((0 : Int), ([] : List (Int × Int)))) := by kernel_rfl
theorem impl_allOf.red {α : Type} (fFz5 : Fz5.A → Option Fz5.B) (fFz34 : Fz34.A → Option Fz34.B) (K : Res → Option α) (fuel : Nat) (e0 : TypeId) (a0 : (List (List (Int × Int)))) : run TT small (impl_allOf.tab fFz5 fFz34) Try.f76 impl_allOf.ann [] fuel [.obj false ⟨e0, (.arr 12 (.st (.pair (.int .u8) (.int .i16)))), a0⟩] K = impl_allOf.pf fFz5 fFz34 fuel a0 (fun r => K (impl_allOf.enc 0 r)) := by
  rw [impl_allOf.red_raw]
  simp only [impl_allOf.loop1, impl_allOf.tail1]
  all_goals kernel_rfl
theorem impl_allOf.sound (fFz5 : Fz5.A → Option Fz5.B) (fFz34 : Fz34.A → Option Fz34.B) (hFz5 : Fz5.S fFz5) (hFz34 : Fz34.S fFz34) (f : impl_allOf.A → Option impl_allOf.B) (hf : ∀ x r, f x = some r → ∃ fuel, ∀ k : impl_allOf.B → Option Res, impl_allOf.pf fFz5 fFz34 fuel x k = k r) : impl_allOf.S f := by
  refine fn_sound (by kernel_rfl) (ttok _) (tab_sound [(61, Fz5.sig fFz5), (112, Fz34.sig fFz34)] (List.forall_mem_cons.2 ⟨hFz5, List.forall_mem_cons.2 ⟨hFz34, fun p hp => nomatch hp⟩⟩)) (fn := Try.f76) (by kernel_rfl) (by decide) (by decide) impl_allOf.ann [] _ rfl (fun avs r hr => ?_) (by kernel_rfl)
  obtain ⟨x, y, h1, h2, rfl⟩ := mkSig_run hr
  obtain ⟨e0, rfl⟩ := impl_allOf.dec_eq h1
  obtain ⟨fuel, hk⟩ := hf x y h2
  exact ⟨fuel, (impl_allOf.red fFz5 fFz34 some fuel e0 x).trans (hk (fun r => some (impl_allOf.enc 0 r)))⟩
theorem impl_allOf.of_cl {fFz5 : Fz5.A → Option Fz5.B} {fFz34 : Fz34.A → Option Fz34.B} (hFz5 : Fz5.S fFz5) (hFz34 : Fz34.S fFz34) {P : impl_allOf.A → Prop} {v : impl_allOf.A → impl_allOf.B} (hp : ∀ x, P x → ∀ k : impl_allOf.B → Option Res, impl_allOf.pf fFz5 fFz34 BIG x k = k (v x)) : impl_allOf.S (cl P v) := impl_allOf.sound _ _ hFz5 hFz34 _ (fun x r hr => by obtain ⟨h1, rfl⟩ := cl_some hr; exact ⟨BIG, hp x h1⟩)
theorem impl_allOf.of_tot {fFz5 : Fz5.A → Option Fz5.B} {fFz34 : Fz34.A → Option Fz34.B} (hFz5 : Fz5.S fFz5) (hFz34 : Fz34.S fFz34) {v : impl_allOf.A → impl_allOf.B} (hp : ∀ x, ∀ k : impl_allOf.B → Option Res, impl_allOf.pf fFz5 fFz34 BIG x k = k (v x)) : impl_allOf.S (tot v) := impl_allOf.sound _ _ hFz5 hFz34 _ (fun x r hr => by obtain rfl := Option.some.inj hr; exact ⟨BIG, hp x⟩)
/-! 77 impl_packed -/
noncomputable def Fz15.tab : FuncId → Option Sig := tabOf []
noncomputable def Fz15.E : Env := ⟨TT, small, Fz15.tab , 1, 31⟩
def Fz15.ann : Ann := (.two .nil (.two .nil (.two (.two .nil (.one (.loop [3, 7, 8, 9] .nil))) .nil)))
noncomputable def Fz15.emb1 (e0 : TypeId) (p1_0 : Int) (p1_1 : (List (Int × Int))) (x1 : (Int × (List (List (Int × Int))))) : St := { slots := mkSlots 31 [(3, .sl 63 [] none), (7, .sl 0 [] none), (8, .val (.int .i64) p1_0), (9, .val (.int .i64) x1.1)], objs := mkObjs 64 [(0, .dat ⟨e0, (.st (.pair (.int .u8) (.int .i16))), p1_1, false, false, none⟩), (63, .dat ⟨43, (.arr 12 (.st (.pair (.int .u8) (.int .i16)))), x1.2, true, true, none⟩)] }
noncomputable def Fz15.LB1 {α : Type} (fuel : Nat) (cont : Ex → St → Option α) : (St → Option α) → St → Option α := roundV Fz15.E fuel [true, true, false, true, false] (bodyOf Try.f77) Fz15.ann cont
noncomputable def Fz15.C1 {α : Type} (K : Res → Option α) (fuel : Nat) : Ex → St → Option α := contAt Fz15.E fuel [true, true, false, true, false] (bodyOf Try.f77) Fz15.ann [] (finK TT 1 [some 0] Try.f77 [] K)
noncomputable def Fz15.ex1_0 (e0 : TypeId) (p1_0 : Int) (p1_1 : (List (Int × Int))) (x1 : (Int × (List (List (Int × Int))))) : St := { slots := mkSlots 31 [(3, .sl 63 [] none), (7, .sl 0 [] none), (8, .val (.int .i64) p1_0), (9, .val (.int .i64) x1.1), (10, .val .bool (decide (x1.1 < p1_0)))], objs := mkObjs 64 [(0, .dat ⟨e0, (.st (.pair (.int .u8) (.int .i16))), p1_1, false, false, none⟩), (63, .dat ⟨43, (.arr 12 (.st (.pair (.int .u8) (.int .i16)))), x1.2, true, true, none⟩)] }
noncomputable def Fz15.B1 {α : Type} (p1_0 : Int) (p1_1 : (List (Int × Int))) (K0 : (Int × (List (List (Int × Int)))) → Option α) (rec : (Int × (List (List (Int × Int)))) → Option α) (x1 : (Int × (List (List (Int × Int))))) : Option α :=
  cond (decide (x1.1 < p1_0)) (cond (inB x1.1 (List.length p1_1)) (cond ((12 : Int) == 0) none (cond ((Int.tmod x1.1 (12 : Int)) == (0 : Int)) (cond (okL (List.length x1.2 + List.length [(List.replicate 12 ((0 : Int), (0 : Int)))])) (cond ((12 : Int) == 0) none (cond ((12 : Int) == 0) none (cond (inB (IntKind.i64.wrap (Int.tdiv x1.1 (12 : Int))) (List.length (x1.2 ++ [(List.replicate 12 ((0 : Int), (0 : Int)))]))) (cond (inB (Int.tmod x1.1 (12 : Int)) 12) (rec (((IntKind.i64.wrap (x1.1 + (1 : Int))), (List.set (x1.2 ++ [(List.replicate 12 ((0 : Int), (0 : Int)))]) (IntKind.i64.wrap (Int.tdiv x1.1 (12 : Int))).toNat (List.set (List.getD (x1.2 ++ [(List.replicate 12 ((0 : Int), (0 : Int)))]) (IntKind.i64.wrap (Int.tdiv x1.1 (12 : Int))).toNat (List.replicate 12 ((0 : Int), (0 : Int)))) (Int.tmod x1.1 (12 : Int)).toNat (List.getD p1_1 (x1.1 : Int).toNat ((0 : Int), (0 : Int)))))))) none) none))) none) (cond ((12 : Int) == 0) none (cond ((12 : Int) == 0) none (cond (inB (IntKind.i64.wrap (Int.tdiv x1.1 (12 : Int))) (List.length x1.2)) (cond (inB (Int.tmod x1.1 (12 : Int)) 12) (rec (((IntKind.i64.wrap (x1.1 + (1 : Int))), (List.set x1.2 (IntKind.i64.wrap (Int.tdiv x1.1 (12 : Int))).toNat (List.set (List.getD x1.2 (IntKind.i64.wrap (Int.tdiv x1.1 (12 : Int))).toNat (List.replicate 12 ((0 : Int), (0 : Int)))) (Int.tmod x1.1 (12 : Int)).toNat (List.getD p1_1 (x1.1 : Int).toNat ((0 : Int), (0 : Int)))))))) none) none))))) none) (K0 x1)
theorem Fz15.step1 {α : Type} (fuel : Nat) (cont : Ex → St → Option α) (e0 : TypeId) (p1_0 : Int) (p1_1 : (List (Int × Int))) (rec : St → Option α) (x1 : (Int × (List (List (Int × Int))))) : Fz15.LB1 fuel cont rec (Fz15.emb1 e0 p1_0 p1_1 x1) = Fz15.B1 p1_0 p1_1 (fun x1 => cont (.exit 0) (Fz15.ex1_0 e0 p1_0 p1_1 x1)) (fun y => rec (Fz15.emb1 e0 p1_0 p1_1 y)) x1 := by kernel_rfl
theorem Fz15.loop1 {α : Type} (fuel : Nat) (cont : Ex → St → Option α) (e0 : TypeId) (p1_0 : Int) (p1_1 : (List (Int × Int))) (x1 : (Int × (List (List (Int × Int))))) : loopN (Fz15.LB1 fuel cont) fuel (Fz15.emb1 e0 p1_0 p1_1 x1) = iter (Fz15.B1 p1_0 p1_1 (fun x1 => cont (.exit 0) (Fz15.ex1_0 e0 p1_0 p1_1 x1))) fuel x1 := loop_sim (fun rec x => Fz15.step1 fuel cont e0 p1_0 p1_1 rec x) fuel x1
noncomputable def Fz15.pf {α : Type} (fuel : Nat) (a0 : (List (Int × Int))) (k : (List (List (Int × Int))) → Option α) : Option α :=
  iter (Fz15.B1 (((List.length a0) : Nat) : Int) a0 (fun (x1 : (Int × (List (List (Int × Int))))) => k x1.2)) fuel (((0 : Int), ([] : List (List (Int × Int)))))
theorem Fz15.tail1 {α : Type} (K : Res → Option α) (fuel : Nat) (e0 : TypeId) (a0 : (List (Int × Int))) (x1 : (Int × (List (List (Int × Int))))) : Fz15.C1 K fuel (.exit 0) (Fz15.ex1_0 e0 (((List.length a0) : Nat) : Int) a0 x1) = ((fun (k : (List (List (Int × Int))) → Option α) => k x1.2) (fun r => K (Fz15.enc 0 r))) := by kernel_rfl
theorem Fz15.red_raw {α : Type} (K : Res → Option α) (fuel : Nat) (e0 : TypeId) (a0 : (List (Int × Int))) : run TT small Fz15.tab Try.f77 Fz15.ann [] fuel [.obj false ⟨e0, (.st (.pair (.int .u8) (.int .i16))), a0⟩] K = loopN (Fz15.LB1 fuel (Fz15.C1 K fuel)) fuel (Fz15.emb1 e0 (((List.length a0) : Nat) : Int) a0 (((0 : Int), ([] : List (List (Int × Int)))))) := by kernel_rfl
theorem Fz15.red {α : Type} (K : Res → Option α) (fuel : Nat) (e0 : TypeId) (a0 : (List (Int × Int))) : run TT small Fz15.tab Try.f77 Fz15.ann [] fuel [.obj false ⟨e0, (.st (.pair (.int .u8) (.int .i16))), a0⟩] K = Fz15.pf fuel a0 (fun r => K (Fz15.enc 0 r)) := by
  rw [Fz15.red_raw]
  simp only [Fz15.loop1, Fz15.tail1]
  all_goals kernel_rfl
theorem Fz15.sound (f : Fz15.A → Option Fz15.B) (hf : ∀ x r, f x = some r → ∃ fuel, ∀ k : Fz15.B → Option Res, Fz15.pf fuel x k = k r) : Fz15.S f := by
  refine fn_sound (by kernel_rfl) (ttok _) (tab_sound [] (fun p hp => nomatch hp)) (fn := Try.f77) (by kernel_rfl) (by decide) (by decide) Fz15.ann [] _ rfl (fun avs r hr => ?_) (by kernel_rfl)
  obtain ⟨x, y, h1, h2, rfl⟩ := mkSig_run hr
  obtain ⟨e0, rfl⟩ := Fz15.dec_eq h1
  obtain ⟨fuel, hk⟩ := hf x y h2
  exact ⟨fuel, (Fz15.red some fuel e0 x).trans (hk (fun r => some (Fz15.enc 0 r)))⟩
theorem Fz15.of_cl {P : Fz15.A → Prop} {v : Fz15.A → Fz15.B} (hp : ∀ x, P x → ∀ k : Fz15.B → Option Res, Fz15.pf BIG x k = k (v x)) : Fz15.S (cl P v) := Fz15.sound  _ (fun x r hr => by obtain ⟨h1, rfl⟩ := cl_some hr; exact ⟨BIG, hp x h1⟩)
theorem Fz15.of_tot {v : Fz15.A → Fz15.B} (hp : ∀ x, ∀ k : Fz15.B → Option Res, Fz15.pf BIG x k = k (v x)) : Fz15.S (tot v) := Fz15.sound  _ (fun x r hr => by obtain rfl := Option.some.inj hr; exact ⟨BIG, hp x⟩)
end Go.Proofs.Ytjajlmaldeoobaa.G
