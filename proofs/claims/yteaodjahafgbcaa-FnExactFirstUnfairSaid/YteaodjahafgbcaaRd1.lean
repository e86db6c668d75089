import Derived.Test.YteaodjahafgbcaaSg
namespace Go.Proofs.Yteaodjahafgbcaa.G
open Go Go.Proofs
set_option linter.unusedVariables false
set_option linter.unusedSimpArgs false
set_option maxRecDepth 100000
/-! 99 slices_ContainsFunc_impl_Stored_impl_Stored__impl_areStored_1 -/
noncomputable def Fz16.tab (fFz17 : Fz17.A → Option Fz17.B) : FuncId → Option Sig := tabOf [(125, Fz17.sig fFz17)]
noncomputable def Fz16.E (fFz17 : Fz17.A → Option Fz17.B) : Env := ⟨TT, small, Fz16.tab fFz17, 1, 9⟩
def Fz16.ann : Ann := .nil
noncomputable def Fz16.pf {α : Type} (fFz17 : Fz17.A → Option Fz17.B) (fuel : Nat) (a0 : (List ((Int × Int) × Int))) (k : Bool → Option α) : Option α :=
  (fFz17 a0).bind fun r1 => k (decide (r1 ≥ (0 : Int)))
theorem Fz16.red {α : Type} (fFz17 : Fz17.A → Option Fz17.B) (K : Res → Option α) (fuel : Nat) (e0 : TypeId) (a0 : (List ((Int × Int) × Int))) : run TT small (Fz16.tab fFz17) Try.f99 Fz16.ann [] fuel [.obj false ⟨e0, (.st (.pair (.st (.pair (.int .u8) (.int .i16))) (.int .i16))), a0⟩, .fn 100 []] K = Fz16.pf fFz17 fuel a0 (fun r => K (Fz16.enc 0 r)) := by kernel_rfl
theorem Fz16.sound (fFz17 : Fz17.A → Option Fz17.B) (hFz17 : Fz17.S fFz17) (f : Fz16.A → Option Fz16.B) (hf : ∀ x r, f x = some r → ∃ fuel, ∀ k : Fz16.B → Option Res, Fz16.pf fFz17 fuel x k = k r) : Fz16.S f := by
  refine fn_sound (by kernel_rfl) (ttok _) (tab_sound [(125, Fz17.sig fFz17)] (List.forall_mem_cons.2 ⟨hFz17, fun p hp => nomatch hp⟩)) (fn := Try.f99) (by kernel_rfl) (by decide) (by decide) Fz16.ann [] _ rfl (fun avs r hr => ?_) (by kernel_rfl)
  obtain ⟨x, y, h1, h2, rfl⟩ := mkSig_run hr
  obtain ⟨e0, rfl⟩ := Fz16.dec_eq h1
  obtain ⟨fuel, hk⟩ := hf x y h2
  exact ⟨fuel, (Fz16.red fFz17 some fuel e0 x).trans (hk (fun r => some (Fz16.enc 0 r)))⟩
theorem Fz16.of_cl {fFz17 : Fz17.A → Option Fz17.B} (hFz17 : Fz17.S fFz17) {P : Fz16.A → Prop} {v : Fz16.A → Fz16.B} (hp : ∀ x, P x → ∀ k : Fz16.B → Option Res, Fz16.pf fFz17 BIG x k = k (v x)) : Fz16.S (cl P v) := Fz16.sound _ hFz17 _ (fun x r hr => by obtain ⟨h1, rfl⟩ := cl_some hr; exact ⟨BIG, hp x h1⟩)
theorem Fz16.of_tot {fFz17 : Fz17.A → Option Fz17.B} (hFz17 : Fz17.S fFz17) {v : Fz16.A → Fz16.B} (hp : ∀ x, ∀ k : Fz16.B → Option Res, Fz16.pf fFz17 BIG x k = k (v x)) : Fz16.S (tot v) := Fz16.sound _ hFz17 _ (fun x r hr => by obtain rfl := Option.some.inj hr; exact ⟨BIG, hp x⟩)
/-! 60 impl_areStored -/
noncomputable def Fz2.tab (fFz16 : Fz16.A → Option Fz16.B) : FuncId → Option Sig := tabOf [(99, Fz16.sig fFz16)]
noncomputable def Fz2.E (fFz16 : Fz16.A → Option Fz16.B) : Env := ⟨TT, small, Fz2.tab fFz16, 1, 6⟩
def Fz2.ann : Ann := .nil
noncomputable def Fz2.pf {α : Type} (fFz16 : Fz16.A → Option Fz16.B) (fuel : Nat) (a0 : (List ((Int × Int) × Int))) (k : Bool → Option α) : Option α :=
  (fFz16 a0).bind fun r1 => k (!r1)
theorem Fz2.red {α : Type} (fFz16 : Fz16.A → Option Fz16.B) (K : Res → Option α) (fuel : Nat) (e0 : TypeId) (a0 : (List ((Int × Int) × Int))) : run TT small (Fz2.tab fFz16) Try.f60 Fz2.ann [] fuel [.obj false ⟨e0, (.st (.pair (.st (.pair (.int .u8) (.int .i16))) (.int .i16))), a0⟩] K = Fz2.pf fFz16 fuel a0 (fun r => K (Fz2.enc 0 r)) := by kernel_rfl
theorem Fz2.sound (fFz16 : Fz16.A → Option Fz16.B) (hFz16 : Fz16.S fFz16) (f : Fz2.A → Option Fz2.B) (hf : ∀ x r, f x = some r → ∃ fuel, ∀ k : Fz2.B → Option Res, Fz2.pf fFz16 fuel x k = k r) : Fz2.S f := by
  refine fn_sound (by kernel_rfl) (ttok _) (tab_sound [(99, Fz16.sig fFz16)] (List.forall_mem_cons.2 ⟨hFz16, fun p hp => nomatch hp⟩)) (fn := Try.f60) (by kernel_rfl) (by decide) (by decide) Fz2.ann [] _ rfl (fun avs r hr => ?_) (by kernel_rfl)
  obtain ⟨x, y, h1, h2, rfl⟩ := mkSig_run hr
  obtain ⟨e0, rfl⟩ := Fz2.dec_eq h1
  obtain ⟨fuel, hk⟩ := hf x y h2
  exact ⟨fuel, (Fz2.red fFz16 some fuel e0 x).trans (hk (fun r => some (Fz2.enc 0 r)))⟩
theorem Fz2.of_cl {fFz16 : Fz16.A → Option Fz16.B} (hFz16 : Fz16.S fFz16) {P : Fz2.A → Prop} {v : Fz2.A → Fz2.B} (hp : ∀ x, P x → ∀ k : Fz2.B → Option Res, Fz2.pf fFz16 BIG x k = k (v x)) : Fz2.S (cl P v) := Fz2.sound _ hFz16 _ (fun x r hr => by obtain ⟨h1, rfl⟩ := cl_some hr; exact ⟨BIG, hp x h1⟩)
theorem Fz2.of_tot {fFz16 : Fz16.A → Option Fz16.B} (hFz16 : Fz16.S fFz16) {v : Fz2.A → Fz2.B} (hp : ∀ x, ∀ k : Fz2.B → Option Res, Fz2.pf fFz16 BIG x k = k (v x)) : Fz2.S (tot v) := Fz2.sound _ hFz16 _ (fun x r hr => by obtain rfl := Option.some.inj hr; exact ⟨BIG, hp x⟩)
/-! 61 impl_isSlack -/
noncomputable def Fz5.tab (fFz7 : Fz7.A → Option Fz7.B) : FuncId → Option Sig := tabOf [(102, Fz7.sig fFz7)]
noncomputable def Fz5.E (fFz7 : Fz7.A → Option Fz7.B) : Env := ⟨TT, small, Fz5.tab fFz7, 0, 5⟩
def Fz5.ann : Ann := .nil
noncomputable def Fz5.pf {α : Type} (fFz7 : Fz7.A → Option Fz7.B) (fuel : Nat) (a0 : Int) (k : Bool → Option α) : Option α :=
  (fFz7 (a0, (0 : Int), (2000 : Int))).bind fun r1 => k r1
theorem Fz5.red {α : Type} (fFz7 : Fz7.A → Option Fz7.B) (K : Res → Option α) (fuel : Nat) (a0 : Int) : run TT small (Fz5.tab fFz7) Try.f61 Fz5.ann [] fuel [.val (.int .i64) a0] K = Fz5.pf fFz7 fuel a0 (fun r => K (Fz5.enc 0 r)) := by kernel_rfl
theorem Fz5.sound (fFz7 : Fz7.A → Option Fz7.B) (hFz7 : Fz7.S fFz7) (f : Fz5.A → Option Fz5.B) (hf : ∀ x r, f x = some r → ∃ fuel, ∀ k : Fz5.B → Option Res, Fz5.pf fFz7 fuel x k = k r) : Fz5.S f := by
  refine fn_sound (by kernel_rfl) (ttok _) (tab_sound [(102, Fz7.sig fFz7)] (List.forall_mem_cons.2 ⟨hFz7, fun p hp => nomatch hp⟩)) (fn := Try.f61) (by kernel_rfl) (by decide) (by decide) Fz5.ann [] _ rfl (fun avs r hr => ?_) (by kernel_rfl)
  obtain ⟨x, y, h1, h2, rfl⟩ := mkSig_run hr
  obtain rfl := Fz5.dec_eq h1
  obtain ⟨fuel, hk⟩ := hf x y h2
  exact ⟨fuel, (Fz5.red fFz7 some fuel x).trans (hk (fun r => some (Fz5.enc 0 r)))⟩
theorem Fz5.of_cl {fFz7 : Fz7.A → Option Fz7.B} (hFz7 : Fz7.S fFz7) {P : Fz5.A → Prop} {v : Fz5.A → Fz5.B} (hp : ∀ x, P x → ∀ k : Fz5.B → Option Res, Fz5.pf fFz7 BIG x k = k (v x)) : Fz5.S (cl P v) := Fz5.sound _ hFz7 _ (fun x r hr => by obtain ⟨h1, rfl⟩ := cl_some hr; exact ⟨BIG, hp x h1⟩)
theorem Fz5.of_tot {fFz7 : Fz7.A → Option Fz7.B} (hFz7 : Fz7.S fFz7) {v : Fz5.A → Fz5.B} (hp : ∀ x, ∀ k : Fz5.B → Option Res, Fz5.pf fFz7 BIG x k = k (v x)) : Fz5.S (tot v) := Fz5.sound _ hFz7 _ (fun x r hr => by obtain rfl := Option.some.inj hr; exact ⟨BIG, hp x⟩)
/-! 59 impl_codeOf -/
noncomputable def Fz4.tab : FuncId → Option Sig := tabOf []
noncomputable def Fz4.E : Env := ⟨TT, small, Fz4.tab , 0, 11⟩
def Fz4.ann : Ann := .nil
noncomputable def Fz4.pf {α : Type} (fuel : Nat) (a0 : Bool) (a1 : Bool) (k : Int → Option α) : Option α :=
  cond (!a0) (k (1 : Int)) (cond (!a1) (k (2 : Int)) (k (0 : Int)))
theorem Fz4.red {α : Type} (K : Res → Option α) (fuel : Nat) (a0 : Bool) (a1 : Bool) : run TT small Fz4.tab Try.f59 Fz4.ann [] fuel [.val .bool a0, .val .bool a1] K = Fz4.pf fuel a0 a1 (fun r => K (Fz4.enc 0 r)) := by kernel_rfl
theorem Fz4.sound (f : Fz4.A → Option Fz4.B) (hf : ∀ x r, f x = some r → ∃ fuel, ∀ k : Fz4.B → Option Res, Fz4.pf fuel x.1 x.2 k = k r) : Fz4.S f := by
  refine fn_sound (by kernel_rfl) (ttok _) (tab_sound [] (fun p hp => nomatch hp)) (fn := Try.f59) (by kernel_rfl) (by decide) (by decide) Fz4.ann [] _ rfl (fun avs r hr => ?_) (by kernel_rfl)
  obtain ⟨x, y, h1, h2, rfl⟩ := mkSig_run hr
  obtain rfl := Fz4.dec_eq h1
  obtain ⟨fuel, hk⟩ := hf x y h2
  exact ⟨fuel, (Fz4.red some fuel x.1 x.2).trans (hk (fun r => some (Fz4.enc 0 r)))⟩
theorem Fz4.of_cl {P : Fz4.A → Prop} {v : Fz4.A → Fz4.B} (hp : ∀ x, P x → ∀ k : Fz4.B → Option Res, Fz4.pf BIG x.1 x.2 k = k (v x)) : Fz4.S (cl P v) := Fz4.sound  _ (fun x r hr => by obtain ⟨h1, rfl⟩ := cl_some hr; exact ⟨BIG, hp x h1⟩)
theorem Fz4.of_tot {v : Fz4.A → Fz4.B} (hp : ∀ x, ∀ k : Fz4.B → Option Res, Fz4.pf BIG x.1 x.2 k = k (v x)) : Fz4.S (tot v) := Fz4.sound  _ (fun x r hr => by obtain rfl := Option.some.inj hr; exact ⟨BIG, hp x⟩)
end Go.Proofs.Yteaodjahafgbcaa.G
