import Derived.Test.YteaodjahafgbcaaDoorSg
namespace Go.Proofs.YteaodjahafgbcaaDoor.G
open Go Go.Proofs
set_option linter.unusedVariables false
set_option linter.unusedSimpArgs false
set_option maxRecDepth 100000
/-! 28 strings_Split -/
noncomputable def Fz40.tab (fFz41 : Fz41.A → Option Fz41.B) : FuncId → Option Sig := tabOf [(51, Fz41.sig fFz41)]
noncomputable def Fz40.E (fFz41 : Fz41.A → Option Fz41.B) : Env := ⟨TT, small, Fz40.tab fFz41, 0, 8⟩
def Fz40.ann : Ann := .nil
noncomputable def Fz40.pf {α : Type} (fFz41 : Fz41.A → Option Fz41.B) (fuel : Nat) (a0 : ByteArray) (a1 : ByteArray) (k : (List ByteArray) → Option α) : Option α :=
  (fFz41 (a0, a1, (0 : Int), (-1 : Int))).bind fun r1 => k r1
theorem Fz40.red {α : Type} (fFz41 : Fz41.A → Option Fz41.B) (K : Res → Option α) (fuel : Nat) (a0 : ByteArray) (a1 : ByteArray) : run TT small (Fz40.tab fFz41) Tryd.f28 Fz40.ann [] fuel [.val .str a0, .val .str a1] K = Fz40.pf fFz41 fuel a0 a1 (fun r => K (Fz40.enc 0 r)) := by kernel_rfl
theorem Fz40.sound (fFz41 : Fz41.A → Option Fz41.B) (hFz41 : Fz41.S fFz41) (f : Fz40.A → Option Fz40.B) (hf : ∀ x r, f x = some r → ∃ fuel, ∀ k : Fz40.B → Option Res, Fz40.pf fFz41 fuel x.1 x.2 k = k r) : Fz40.S f := by
  refine fn_sound (by kernel_rfl) (ttok _) (tab_sound [(51, Fz41.sig fFz41)] (List.forall_mem_cons.2 ⟨hFz41, fun p hp => nomatch hp⟩)) (fn := Tryd.f28) (by kernel_rfl) (by decide) (by decide) Fz40.ann [] _ rfl (fun avs r hr => ?_) (by kernel_rfl)
  obtain ⟨x, y, h1, h2, rfl⟩ := mkSig_run hr
  obtain rfl := Fz40.dec_eq h1
  obtain ⟨fuel, hk⟩ := hf x y h2
  exact ⟨fuel, (Fz40.red fFz41 some fuel x.1 x.2).trans (hk (fun r => some (Fz40.enc 0 r)))⟩
theorem Fz40.of_cl {fFz41 : Fz41.A → Option Fz41.B} (hFz41 : Fz41.S fFz41) {P : Fz40.A → Prop} {v : Fz40.A → Fz40.B} (hp : ∀ x, P x → ∀ k : Fz40.B → Option Res, Fz40.pf fFz41 BIG x.1 x.2 k = k (v x)) : Fz40.S (cl P v) := Fz40.sound _ hFz41 _ (fun x r hr => by obtain ⟨h1, rfl⟩ := cl_some hr; exact ⟨BIG, hp x h1⟩)
theorem Fz40.of_tot {fFz41 : Fz41.A → Option Fz41.B} (hFz41 : Fz41.S fFz41) {v : Fz40.A → Fz40.B} (hp : ∀ x, ∀ k : Fz40.B → Option Res, Fz40.pf fFz41 BIG x.1 x.2 k = k (v x)) : Fz40.S (tot v) := Fz40.sound _ hFz41 _ (fun x r hr => by obtain rfl := Option.some.inj hr; exact ⟨BIG, hp x⟩)
/-! 52 internal_stringslite_Cut -/
noncomputable def Fz9.tab (fFz12 : Fz12.A → Option Fz12.B) : FuncId → Option Sig := tabOf [(68, Fz12.sig fFz12)]
noncomputable def Fz9.E (fFz12 : Fz12.A → Option Fz12.B) : Env := ⟨TT, small, Fz9.tab fFz12, 0, 23⟩
def Fz9.ann : Ann := .nil
noncomputable def Fz9.pf {α : Type} (fFz12 : Fz12.A → Option Fz12.B) (fuel : Nat) (a0 : ByteArray) (a1 : ByteArray) (k : (ByteArray × ByteArray × Bool) → Option α) : Option α :=
  (fFz12 (a0, a1)).bind fun r1 => cond (decide (r1 ≥ (0 : Int))) (cond (inW (0 : Int) r1 (ByteArray.size a0)) (cond (inW (IntKind.i64.wrap (r1 + ((ByteArray.size a1 : Nat) : Int))) (((ByteArray.size a0) : Nat) : Int) (ByteArray.size a0)) (k ((ByteArray.extract a0 0 (r1 : Int).toNat), (ByteArray.extract a0 (IntKind.i64.wrap (r1 + ((ByteArray.size a1 : Nat) : Int))).toNat (((ByteArray.size a0) : Nat) : Int).toNat), true)) none) none) (k (a0, (bytesOf []), false))
theorem Fz9.red {α : Type} (fFz12 : Fz12.A → Option Fz12.B) (K : Res → Option α) (fuel : Nat) (a0 : ByteArray) (a1 : ByteArray) : run TT small (Fz9.tab fFz12) Tryd.f52 Fz9.ann [] fuel [.val .str a0, .val .str a1] K = Fz9.pf fFz12 fuel a0 a1 (fun r => K (Fz9.enc 0 r)) := by kernel_rfl
theorem Fz9.sound (fFz12 : Fz12.A → Option Fz12.B) (hFz12 : Fz12.S fFz12) (f : Fz9.A → Option Fz9.B) (hf : ∀ x r, f x = some r → ∃ fuel, ∀ k : Fz9.B → Option Res, Fz9.pf fFz12 fuel x.1 x.2 k = k r) : Fz9.S f := by
  refine fn_sound (by kernel_rfl) (ttok _) (tab_sound [(68, Fz12.sig fFz12)] (List.forall_mem_cons.2 ⟨hFz12, fun p hp => nomatch hp⟩)) (fn := Tryd.f52) (by kernel_rfl) (by decide) (by decide) Fz9.ann [] _ rfl (fun avs r hr => ?_) (by kernel_rfl)
  obtain ⟨x, y, h1, h2, rfl⟩ := mkSig_run hr
  obtain rfl := Fz9.dec_eq h1
  obtain ⟨fuel, hk⟩ := hf x y h2
  exact ⟨fuel, (Fz9.red fFz12 some fuel x.1 x.2).trans (hk (fun r => some (Fz9.enc 0 r)))⟩
theorem Fz9.of_cl {fFz12 : Fz12.A → Option Fz12.B} (hFz12 : Fz12.S fFz12) {P : Fz9.A → Prop} {v : Fz9.A → Fz9.B} (hp : ∀ x, P x → ∀ k : Fz9.B → Option Res, Fz9.pf fFz12 BIG x.1 x.2 k = k (v x)) : Fz9.S (cl P v) := Fz9.sound _ hFz12 _ (fun x r hr => by obtain ⟨h1, rfl⟩ := cl_some hr; exact ⟨BIG, hp x h1⟩)
theorem Fz9.of_tot {fFz12 : Fz12.A → Option Fz12.B} (hFz12 : Fz12.S fFz12) {v : Fz9.A → Fz9.B} (hp : ∀ x, ∀ k : Fz9.B → Option Res, Fz9.pf fFz12 BIG x.1 x.2 k = k (v x)) : Fz9.S (tot v) := Fz9.sound _ hFz12 _ (fun x r hr => by obtain rfl := Option.some.inj hr; exact ⟨BIG, hp x⟩)
/-! 29 strings_Cut -/
noncomputable def Fz37.tab (fFz9 : Fz9.A → Option Fz9.B) : FuncId → Option Sig := tabOf [(52, Fz9.sig fFz9)]
noncomputable def Fz37.E (fFz9 : Fz9.A → Option Fz9.B) : Env := ⟨TT, small, Fz37.tab fFz9, 0, 13⟩
def Fz37.ann : Ann := .nil
noncomputable def Fz37.pf {α : Type} (fFz9 : Fz9.A → Option Fz9.B) (fuel : Nat) (a0 : ByteArray) (a1 : ByteArray) (k : (ByteArray × ByteArray × Bool) → Option α) : Option α :=
  (fFz9 (a0, a1)).bind fun r1 => k (r1.1, r1.2.1, r1.2.2)
theorem Fz37.red {α : Type} (fFz9 : Fz9.A → Option Fz9.B) (K : Res → Option α) (fuel : Nat) (a0 : ByteArray) (a1 : ByteArray) : run TT small (Fz37.tab fFz9) Tryd.f29 Fz37.ann [] fuel [.val .str a0, .val .str a1] K = Fz37.pf fFz9 fuel a0 a1 (fun r => K (Fz37.enc 0 r)) := by kernel_rfl
theorem Fz37.sound (fFz9 : Fz9.A → Option Fz9.B) (hFz9 : Fz9.S fFz9) (f : Fz37.A → Option Fz37.B) (hf : ∀ x r, f x = some r → ∃ fuel, ∀ k : Fz37.B → Option Res, Fz37.pf fFz9 fuel x.1 x.2 k = k r) : Fz37.S f := by
  refine fn_sound (by kernel_rfl) (ttok _) (tab_sound [(52, Fz9.sig fFz9)] (List.forall_mem_cons.2 ⟨hFz9, fun p hp => nomatch hp⟩)) (fn := Tryd.f29) (by kernel_rfl) (by decide) (by decide) Fz37.ann [] _ rfl (fun avs r hr => ?_) (by kernel_rfl)
  obtain ⟨x, y, h1, h2, rfl⟩ := mkSig_run hr
  obtain rfl := Fz37.dec_eq h1
  obtain ⟨fuel, hk⟩ := hf x y h2
  exact ⟨fuel, (Fz37.red fFz9 some fuel x.1 x.2).trans (hk (fun r => some (Fz37.enc 0 r)))⟩
theorem Fz37.of_cl {fFz9 : Fz9.A → Option Fz9.B} (hFz9 : Fz9.S fFz9) {P : Fz37.A → Prop} {v : Fz37.A → Fz37.B} (hp : ∀ x, P x → ∀ k : Fz37.B → Option Res, Fz37.pf fFz9 BIG x.1 x.2 k = k (v x)) : Fz37.S (cl P v) := Fz37.sound _ hFz9 _ (fun x r hr => by obtain ⟨h1, rfl⟩ := cl_some hr; exact ⟨BIG, hp x h1⟩)
theorem Fz37.of_tot {fFz9 : Fz9.A → Option Fz9.B} (hFz9 : Fz9.S fFz9) {v : Fz37.A → Fz37.B} (hp : ∀ x, ∀ k : Fz37.B → Option Res, Fz37.pf fFz9 BIG x.1 x.2 k = k (v x)) : Fz37.S (tot v) := Fz37.sound _ hFz9 _ (fun x r hr => by obtain rfl := Option.some.inj hr; exact ⟨BIG, hp x⟩)
/-! 30 impl_ReadBottle -/
noncomputable def Fz0.tab (fFz37 : Fz37.A → Option Fz37.B) (fFz6 : Fz6.A → Option Fz6.B) : FuncId → Option Sig := tabOf [(29, Fz37.sig fFz37), (31, Fz6.sig fFz6)]
noncomputable def Fz0.E (fFz37 : Fz37.A → Option Fz37.B) (fFz6 : Fz6.A → Option Fz6.B) : Env := ⟨TT, small, Fz0.tab fFz37 fFz6, 0, 43⟩
def Fz0.ann : Ann := .nil
noncomputable def Fz0.pf {α : Type} (fFz37 : Fz37.A → Option Fz37.B) (fFz6 : Fz6.A → Option Fz6.B) (fuel : Nat) (a0 : ByteArray) (k : ((Int × Int) × Int) → Option α) : Option α :=
  (fFz37 (a0, (bytesOf [58]))).bind fun r1 => (fFz6 (r1.1, (1 : Int), (20 : Int))).bind fun r2 => (fFz6 (r1.2.1, (1900 : Int), (2099 : Int))).bind fun r3 => cond (!r1.2.2) (k (((0 : Int), (0 : Int)), (5 : Int))) (cond (!r2.2) (k (((0 : Int), (0 : Int)), (5 : Int))) (cond (!r3.2) (k (((0 : Int), (0 : Int)), (5 : Int))) (k (((IntKind.u8.wrap r2.1), (IntKind.i16.wrap r3.1)), (0 : Int)))))
theorem Fz0.red {α : Type} (fFz37 : Fz37.A → Option Fz37.B) (fFz6 : Fz6.A → Option Fz6.B) (K : Res → Option α) (fuel : Nat) (a0 : ByteArray) : run TT small (Fz0.tab fFz37 fFz6) Tryd.f30 Fz0.ann [] fuel [.val .str a0] K = Fz0.pf fFz37 fFz6 fuel a0 (fun r => K (Fz0.enc 0 r)) := by kernel_rfl
theorem Fz0.sound (fFz37 : Fz37.A → Option Fz37.B) (fFz6 : Fz6.A → Option Fz6.B) (hFz37 : Fz37.S fFz37) (hFz6 : Fz6.S fFz6) (f : Fz0.A → Option Fz0.B) (hf : ∀ x r, f x = some r → ∃ fuel, ∀ k : Fz0.B → Option Res, Fz0.pf fFz37 fFz6 fuel x k = k r) : Fz0.S f := by
  refine fn_sound (by kernel_rfl) (ttok _) (tab_sound [(29, Fz37.sig fFz37), (31, Fz6.sig fFz6)] (List.forall_mem_cons.2 ⟨hFz37, List.forall_mem_cons.2 ⟨hFz6, fun p hp => nomatch hp⟩⟩)) (fn := Tryd.f30) (by kernel_rfl) (by decide) (by decide) Fz0.ann [] _ rfl (fun avs r hr => ?_) (by kernel_rfl)
  obtain ⟨x, y, h1, h2, rfl⟩ := mkSig_run hr
  obtain rfl := Fz0.dec_eq h1
  obtain ⟨fuel, hk⟩ := hf x y h2
  exact ⟨fuel, (Fz0.red fFz37 fFz6 some fuel x).trans (hk (fun r => some (Fz0.enc 0 r)))⟩
theorem Fz0.of_cl {fFz37 : Fz37.A → Option Fz37.B} {fFz6 : Fz6.A → Option Fz6.B} (hFz37 : Fz37.S fFz37) (hFz6 : Fz6.S fFz6) {P : Fz0.A → Prop} {v : Fz0.A → Fz0.B} (hp : ∀ x, P x → ∀ k : Fz0.B → Option Res, Fz0.pf fFz37 fFz6 BIG x k = k (v x)) : Fz0.S (cl P v) := Fz0.sound _ _ hFz37 hFz6 _ (fun x r hr => by obtain ⟨h1, rfl⟩ := cl_some hr; exact ⟨BIG, hp x h1⟩)
theorem Fz0.of_tot {fFz37 : Fz37.A → Option Fz37.B} {fFz6 : Fz6.A → Option Fz6.B} (hFz37 : Fz37.S fFz37) (hFz6 : Fz6.S fFz6) {v : Fz0.A → Fz0.B} (hp : ∀ x, ∀ k : Fz0.B → Option Res, Fz0.pf fFz37 fFz6 BIG x k = k (v x)) : Fz0.S (tot v) := Fz0.sound _ _ hFz37 hFz6 _ (fun x r hr => by obtain rfl := Option.some.inj hr; exact ⟨BIG, hp x⟩)
/-! 54 impl_within -/
noncomputable def Fz8.tab : FuncId → Option Sig := tabOf []
noncomputable def Fz8.E : Env := ⟨TT, small, Fz8.tab , 0, 15⟩
def Fz8.ann : Ann := .nil
noncomputable def Fz8.pf {α : Type} (fuel : Nat) (a0 : Int) (a1 : Int) (a2 : Int) (k : Bool → Option α) : Option α :=
  cond (decide (a1 ≤ a0)) (k (decide (a0 ≤ a2))) (k false)
theorem Fz8.red {α : Type} (K : Res → Option α) (fuel : Nat) (a0 : Int) (a1 : Int) (a2 : Int) : run TT small Fz8.tab Tryd.f54 Fz8.ann [] fuel [.val (.int .i64) a0, .val (.int .i64) a1, .val (.int .i64) a2] K = Fz8.pf fuel a0 a1 a2 (fun r => K (Fz8.enc 0 r)) := by kernel_rfl
theorem Fz8.sound (f : Fz8.A → Option Fz8.B) (hf : ∀ x r, f x = some r → ∃ fuel, ∀ k : Fz8.B → Option Res, Fz8.pf fuel x.1 x.2.1 x.2.2 k = k r) : Fz8.S f := by
  refine fn_sound (by kernel_rfl) (ttok _) (tab_sound [] (fun p hp => nomatch hp)) (fn := Tryd.f54) (by kernel_rfl) (by decide) (by decide) Fz8.ann [] _ rfl (fun avs r hr => ?_) (by kernel_rfl)
  obtain ⟨x, y, h1, h2, rfl⟩ := mkSig_run hr
  obtain rfl := Fz8.dec_eq h1
  obtain ⟨fuel, hk⟩ := hf x y h2
  exact ⟨fuel, (Fz8.red some fuel x.1 x.2.1 x.2.2).trans (hk (fun r => some (Fz8.enc 0 r)))⟩
theorem Fz8.of_cl {P : Fz8.A → Prop} {v : Fz8.A → Fz8.B} (hp : ∀ x, P x → ∀ k : Fz8.B → Option Res, Fz8.pf BIG x.1 x.2.1 x.2.2 k = k (v x)) : Fz8.S (cl P v) := Fz8.sound  _ (fun x r hr => by obtain ⟨h1, rfl⟩ := cl_some hr; exact ⟨BIG, hp x h1⟩)
theorem Fz8.of_tot {v : Fz8.A → Fz8.B} (hp : ∀ x, ∀ k : Fz8.B → Option Res, Fz8.pf BIG x.1 x.2.1 x.2.2 k = k (v x)) : Fz8.S (tot v) := Fz8.sound  _ (fun x r hr => by obtain rfl := Option.some.inj hr; exact ⟨BIG, hp x⟩)
/-! 43 impl_ValidBottle -/
noncomputable def Fz2.tab (fFz8 : Fz8.A → Option Fz8.B) : FuncId → Option Sig := tabOf [(54, Fz8.sig fFz8)]
noncomputable def Fz2.E (fFz8 : Fz8.A → Option Fz8.B) : Env := ⟨TT, small, Fz2.tab fFz8, 0, 13⟩
def Fz2.ann : Ann := .nil
noncomputable def Fz2.pf {α : Type} (fFz8 : Fz8.A → Option Fz8.B) (fuel : Nat) (a0 : (Int × Int)) (k : Bool → Option α) : Option α :=
  (fFz8 ((IntKind.i64.wrap a0.1), (1 : Int), (20 : Int))).bind fun r1 => cond r1 ((fFz8 ((IntKind.i64.wrap a0.2), (1900 : Int), (2099 : Int))).bind fun r2 => k r2) (k false)
theorem Fz2.red {α : Type} (fFz8 : Fz8.A → Option Fz8.B) (K : Res → Option α) (fuel : Nat) (a0 : (Int × Int)) : run TT small (Fz2.tab fFz8) Tryd.f43 Fz2.ann [] fuel [.val (.st (.pair (.int .u8) (.int .i16))) a0] K = Fz2.pf fFz8 fuel a0 (fun r => K (Fz2.enc 0 r)) := by kernel_rfl
theorem Fz2.sound (fFz8 : Fz8.A → Option Fz8.B) (hFz8 : Fz8.S fFz8) (f : Fz2.A → Option Fz2.B) (hf : ∀ x r, f x = some r → ∃ fuel, ∀ k : Fz2.B → Option Res, Fz2.pf fFz8 fuel x k = k r) : Fz2.S f := by
  refine fn_sound (by kernel_rfl) (ttok _) (tab_sound [(54, Fz8.sig fFz8)] (List.forall_mem_cons.2 ⟨hFz8, fun p hp => nomatch hp⟩)) (fn := Tryd.f43) (by kernel_rfl) (by decide) (by decide) Fz2.ann [] _ rfl (fun avs r hr => ?_) (by kernel_rfl)
  obtain ⟨x, y, h1, h2, rfl⟩ := mkSig_run hr
  obtain rfl := Fz2.dec_eq h1
  obtain ⟨fuel, hk⟩ := hf x y h2
  exact ⟨fuel, (Fz2.red fFz8 some fuel x).trans (hk (fun r => some (Fz2.enc 0 r)))⟩
theorem Fz2.of_cl {fFz8 : Fz8.A → Option Fz8.B} (hFz8 : Fz8.S fFz8) {P : Fz2.A → Prop} {v : Fz2.A → Fz2.B} (hp : ∀ x, P x → ∀ k : Fz2.B → Option Res, Fz2.pf fFz8 BIG x k = k (v x)) : Fz2.S (cl P v) := Fz2.sound _ hFz8 _ (fun x r hr => by obtain ⟨h1, rfl⟩ := cl_some hr; exact ⟨BIG, hp x h1⟩)
theorem Fz2.of_tot {fFz8 : Fz8.A → Option Fz8.B} (hFz8 : Fz8.S fFz8) {v : Fz2.A → Fz2.B} (hp : ∀ x, ∀ k : Fz2.B → Option Res, Fz2.pf fFz8 BIG x k = k (v x)) : Fz2.S (tot v) := Fz2.sound _ hFz8 _ (fun x r hr => by obtain rfl := Option.some.inj hr; exact ⟨BIG, hp x⟩)
/-! 42 impl_validStored -/
noncomputable def Fz7.tab (fFz2 : Fz2.A → Option Fz2.B) (fFz8 : Fz8.A → Option Fz8.B) : FuncId → Option Sig := tabOf [(43, Fz2.sig fFz2), (54, Fz8.sig fFz8)]
noncomputable def Fz7.E (fFz2 : Fz2.A → Option Fz2.B) (fFz8 : Fz8.A → Option Fz8.B) : Env := ⟨TT, small, Fz7.tab fFz2 fFz8, 0, 12⟩
def Fz7.ann : Ann := .nil
noncomputable def Fz7.pf {α : Type} (fFz2 : Fz2.A → Option Fz2.B) (fFz8 : Fz8.A → Option Fz8.B) (fuel : Nat) (a0 : ((Int × Int) × Int)) (k : Bool → Option α) : Option α :=
  (fFz2 a0.1).bind fun r1 => cond r1 ((fFz8 ((IntKind.i64.wrap a0.2), (0 : Int), (2000 : Int))).bind fun r2 => k r2) (k false)
theorem Fz7.red {α : Type} (fFz2 : Fz2.A → Option Fz2.B) (fFz8 : Fz8.A → Option Fz8.B) (K : Res → Option α) (fuel : Nat) (a0 : ((Int × Int) × Int)) : run TT small (Fz7.tab fFz2 fFz8) Tryd.f42 Fz7.ann [] fuel [.val (.st (.pair (.st (.pair (.int .u8) (.int .i16))) (.int .i16))) a0] K = Fz7.pf fFz2 fFz8 fuel a0 (fun r => K (Fz7.enc 0 r)) := by kernel_rfl
theorem Fz7.sound (fFz2 : Fz2.A → Option Fz2.B) (fFz8 : Fz8.A → Option Fz8.B) (hFz2 : Fz2.S fFz2) (hFz8 : Fz8.S fFz8) (f : Fz7.A → Option Fz7.B) (hf : ∀ x r, f x = some r → ∃ fuel, ∀ k : Fz7.B → Option Res, Fz7.pf fFz2 fFz8 fuel x k = k r) : Fz7.S f := by
  refine fn_sound (by kernel_rfl) (ttok _) (tab_sound [(43, Fz2.sig fFz2), (54, Fz8.sig fFz8)] (List.forall_mem_cons.2 ⟨hFz2, List.forall_mem_cons.2 ⟨hFz8, fun p hp => nomatch hp⟩⟩)) (fn := Tryd.f42) (by kernel_rfl) (by decide) (by decide) Fz7.ann [] _ rfl (fun avs r hr => ?_) (by kernel_rfl)
  obtain ⟨x, y, h1, h2, rfl⟩ := mkSig_run hr
  obtain rfl := Fz7.dec_eq h1
  obtain ⟨fuel, hk⟩ := hf x y h2
  exact ⟨fuel, (Fz7.red fFz2 fFz8 some fuel x).trans (hk (fun r => some (Fz7.enc 0 r)))⟩
theorem Fz7.of_cl {fFz2 : Fz2.A → Option Fz2.B} {fFz8 : Fz8.A → Option Fz8.B} (hFz2 : Fz2.S fFz2) (hFz8 : Fz8.S fFz8) {P : Fz7.A → Prop} {v : Fz7.A → Fz7.B} (hp : ∀ x, P x → ∀ k : Fz7.B → Option Res, Fz7.pf fFz2 fFz8 BIG x k = k (v x)) : Fz7.S (cl P v) := Fz7.sound _ _ hFz2 hFz8 _ (fun x r hr => by obtain ⟨h1, rfl⟩ := cl_some hr; exact ⟨BIG, hp x h1⟩)
theorem Fz7.of_tot {fFz2 : Fz2.A → Option Fz2.B} {fFz8 : Fz8.A → Option Fz8.B} (hFz2 : Fz2.S fFz2) (hFz8 : Fz8.S fFz8) {v : Fz7.A → Fz7.B} (hp : ∀ x, ∀ k : Fz7.B → Option Res, Fz7.pf fFz2 fFz8 BIG x k = k (v x)) : Fz7.S (tot v) := Fz7.sound _ _ hFz2 hFz8 _ (fun x r hr => by obtain rfl := Option.some.inj hr; exact ⟨BIG, hp x⟩)
/-! 41 impl_ValidRack_1_1 -/
noncomputable def Fz5.tab (fFz7 : Fz7.A → Option Fz7.B) : FuncId → Option Sig := tabOf [(42, Fz7.sig fFz7)]
noncomputable def Fz5.E (fFz7 : Fz7.A → Option Fz7.B) : Env := ⟨TT, small, Fz5.tab fFz7, 0, 6⟩
def Fz5.ann : Ann := .nil
noncomputable def Fz5.pf {α : Type} (fFz7 : Fz7.A → Option Fz7.B) (fuel : Nat) (a0 : ((Int × Int) × Int)) (k : Bool → Option α) : Option α :=
  (fFz7 a0).bind fun r1 => k (!r1)
theorem Fz5.red {α : Type} (fFz7 : Fz7.A → Option Fz7.B) (K : Res → Option α) (fuel : Nat) (a0 : ((Int × Int) × Int)) : run TT small (Fz5.tab fFz7) Tryd.f41 Fz5.ann [] fuel [.val (.st (.pair (.st (.pair (.int .u8) (.int .i16))) (.int .i16))) a0] K = Fz5.pf fFz7 fuel a0 (fun r => K (Fz5.enc 0 r)) := by kernel_rfl
theorem Fz5.sound (fFz7 : Fz7.A → Option Fz7.B) (hFz7 : Fz7.S fFz7) (f : Fz5.A → Option Fz5.B) (hf : ∀ x r, f x = some r → ∃ fuel, ∀ k : Fz5.B → Option Res, Fz5.pf fFz7 fuel x k = k r) : Fz5.S f := by
  refine fn_sound (by kernel_rfl) (ttok _) (tab_sound [(42, Fz7.sig fFz7)] (List.forall_mem_cons.2 ⟨hFz7, fun p hp => nomatch hp⟩)) (fn := Tryd.f41) (by kernel_rfl) (by decide) (by decide) Fz5.ann [] _ rfl (fun avs r hr => ?_) (by kernel_rfl)
  obtain ⟨x, y, h1, h2, rfl⟩ := mkSig_run hr
  obtain rfl := Fz5.dec_eq h1
  obtain ⟨fuel, hk⟩ := hf x y h2
  exact ⟨fuel, (Fz5.red fFz7 some fuel x).trans (hk (fun r => some (Fz5.enc 0 r)))⟩
theorem Fz5.of_cl {fFz7 : Fz7.A → Option Fz7.B} (hFz7 : Fz7.S fFz7) {P : Fz5.A → Prop} {v : Fz5.A → Fz5.B} (hp : ∀ x, P x → ∀ k : Fz5.B → Option Res, Fz5.pf fFz7 BIG x k = k (v x)) : Fz5.S (cl P v) := Fz5.sound _ hFz7 _ (fun x r hr => by obtain ⟨h1, rfl⟩ := cl_some hr; exact ⟨BIG, hp x h1⟩)
theorem Fz5.of_tot {fFz7 : Fz7.A → Option Fz7.B} (hFz7 : Fz7.S fFz7) {v : Fz5.A → Fz5.B} (hp : ∀ x, ∀ k : Fz5.B → Option Res, Fz5.pf fFz7 BIG x k = k (v x)) : Fz5.S (tot v) := Fz5.sound _ hFz7 _ (fun x r hr => by obtain rfl := Option.some.inj hr; exact ⟨BIG, hp x⟩)
/-! 58 slices_IndexFunc_impl_Stored_impl_Stored__impl_ValidRack_1_1 -/
noncomputable def Fz25.tab (fFz5 : Fz5.A → Option Fz5.B) : FuncId → Option Sig := tabOf [(41, Fz5.sig fFz5)]
noncomputable def Fz25.E (fFz5 : Fz5.A → Option Fz5.B) : Env := ⟨TT, small, Fz25.tab fFz5, 1, 19⟩
def Fz25.ann : Ann := (.two .nil (.two (.two .nil (.one (.loop [0, 1, 7, 8] .nil))) .nil))
noncomputable def Fz25.emb1 (e0 : TypeId) (p1_0 : Int) (p1_1 : (List ((Int × Int) × Int))) (x1 : Int) : St := { slots := mkSlots 19 [(0, .sl 0 [] none), (1, .fn 41 []), (7, .val (.int .i64) p1_0), (8, .val (.int .i64) x1)], objs := mkObjs 39 [(0, .dat ⟨e0, (.st (.pair (.st (.pair (.int .u8) (.int .i16))) (.int .i16))), p1_1, false, false, none⟩)] }
noncomputable def Fz25.LB1 {α : Type} (fFz5 : Fz5.A → Option Fz5.B) (fuel : Nat) (cont : Ex → St → Option α) : (St → Option α) → St → Option α := roundV (Fz25.E fFz5) fuel [true, false, true, false] (bodyOf Tryd.f58) Fz25.ann cont
noncomputable def Fz25.C1 {α : Type} (fFz5 : Fz5.A → Option Fz5.B) (K : Res → Option α) (fuel : Nat) : Ex → St → Option α := contAt (Fz25.E fFz5) fuel [true, false, true, false] (bodyOf Tryd.f58) Fz25.ann [] (finK TT 1 [some 0, none] Tryd.f58 [] K)
noncomputable def Fz25.ex1_0 (e0 : TypeId) (p1_0 : Int) (p1_1 : (List ((Int × Int) × Int))) (x1 : Int) (r1001 : Bool) : St := { slots := mkSlots 19 [(0, .sl 0 [] none), (1, .fn 41 []), (4, .val (.int .i64) x1), (5, .val (.int .i64) x1), (7, .val (.int .i64) p1_0), (8, .val (.int .i64) x1), (9, .val .bool (decide (x1 < p1_0))), (10, .val (.int .i64) x1), (11, .fn 41 []), (12, .sl 0 [] none), (13, .val (.int .i64) x1), (14, .ptr 0 [.idx (x1 : Int).toNat] false), (15, .val (.st (.pair (.st (.pair (.int .u8) (.int .i16))) (.int .i16))) ((List.getD p1_1 (x1 : Int).toNat (((0 : Int), (0 : Int)), (0 : Int))))), (16, .val .bool r1001), (17, .val (.int .i64) x1)], objs := mkObjs 39 [(0, .dat ⟨e0, (.st (.pair (.st (.pair (.int .u8) (.int .i16))) (.int .i16))), p1_1, false, false, none⟩)] }
noncomputable def Fz25.ex1_1 (e0 : TypeId) (p1_0 : Int) (p1_1 : (List ((Int × Int) × Int))) (x1 : Int) : St := { slots := mkSlots 19 [(0, .sl 0 [] none), (1, .fn 41 []), (7, .val (.int .i64) p1_0), (8, .val (.int .i64) x1), (9, .val .bool (decide (x1 < p1_0)))], objs := mkObjs 39 [(0, .dat ⟨e0, (.st (.pair (.st (.pair (.int .u8) (.int .i16))) (.int .i16))), p1_1, false, false, none⟩)] }
noncomputable def Fz25.B1 {α : Type} (fFz5 : Fz5.A → Option Fz5.B) (p1_0 : Int) (p1_1 : (List ((Int × Int) × Int))) (K0 : Int → Bool → Option α) (K1 : Int → Option α) (rec : Int → Option α) (x1 : Int) : Option α :=
  cond (decide (x1 < p1_0)) (cond (inB x1 (List.length p1_1)) ((fFz5 (List.getD p1_1 (x1 : Int).toNat (((0 : Int), (0 : Int)), (0 : Int)))).bind fun r1001 => cond r1001 (K0 x1 r1001) (rec (IntKind.i64.wrap (x1 + (1 : Int))))) none) (K1 x1)
theorem Fz25.step1 {α : Type} (fFz5 : Fz5.A → Option Fz5.B) (fuel : Nat) (cont : Ex → St → Option α) (e0 : TypeId) (p1_0 : Int) (p1_1 : (List ((Int × Int) × Int))) (rec : St → Option α) (x1 : Int) : Fz25.LB1 fFz5 fuel cont rec (Fz25.emb1 e0 p1_0 p1_1 x1) = Fz25.B1 fFz5 p1_0 p1_1 (fun x1 r1001 => cont .ret (Fz25.ex1_0 e0 p1_0 p1_1 x1 r1001)) (fun x1 => cont (.exit 0) (Fz25.ex1_1 e0 p1_0 p1_1 x1)) (fun y => rec (Fz25.emb1 e0 p1_0 p1_1 y)) x1 := by kernel_rfl
theorem Fz25.loop1 {α : Type} (fFz5 : Fz5.A → Option Fz5.B) (fuel : Nat) (cont : Ex → St → Option α) (e0 : TypeId) (p1_0 : Int) (p1_1 : (List ((Int × Int) × Int))) (x1 : Int) : loopN (Fz25.LB1 fFz5 fuel cont) fuel (Fz25.emb1 e0 p1_0 p1_1 x1) = iter (Fz25.B1 fFz5 p1_0 p1_1 (fun x1 r1001 => cont .ret (Fz25.ex1_0 e0 p1_0 p1_1 x1 r1001)) (fun x1 => cont (.exit 0) (Fz25.ex1_1 e0 p1_0 p1_1 x1))) fuel x1 := loop_sim (fun rec x => Fz25.step1 fFz5 fuel cont e0 p1_0 p1_1 rec x) fuel x1
noncomputable def Fz25.pf {α : Type} (fFz5 : Fz5.A → Option Fz5.B) (fuel : Nat) (a0 : (List ((Int × Int) × Int))) (k : Int → Option α) : Option α :=
  iter (Fz25.B1 fFz5 (((List.length a0) : Nat) : Int) a0 (fun (x1 : Int) (r1001 : Bool) => k x1) (fun (x1 : Int) => k (-1 : Int))) fuel (0 : Int)
theorem Fz25.tail1 {α : Type} (fFz5 : Fz5.A → Option Fz5.B) (K : Res → Option α) (fuel : Nat) (e0 : TypeId) (a0 : (List ((Int × Int) × Int))) (x1 : Int) (r1001 : Bool) : Fz25.C1 fFz5 K fuel .ret (Fz25.ex1_0 e0 (((List.length a0) : Nat) : Int) a0 x1 r1001) = ((fun (k : Int → Option α) => k x1) (fun r => K (Fz25.enc 0 r))) := by kernel_rfl
theorem Fz25.tail2 {α : Type} (fFz5 : Fz5.A → Option Fz5.B) (K : Res → Option α) (fuel : Nat) (e0 : TypeId) (a0 : (List ((Int × Int) × Int))) (x1 : Int) : Fz25.C1 fFz5 K fuel (.exit 0) (Fz25.ex1_1 e0 (((List.length a0) : Nat) : Int) a0 x1) = ((fun (k : Int → Option α) => k (-1 : Int)) (fun r => K (Fz25.enc 0 r))) := by kernel_rfl
theorem Fz25.red_raw {α : Type} (fFz5 : Fz5.A → Option Fz5.B) (K : Res → Option α) (fuel : Nat) (e0 : TypeId) (a0 : (List ((Int × Int) × Int))) : run TT small (Fz25.tab fFz5) Tryd.f58 Fz25.ann [] fuel [.obj false ⟨e0, (.st (.pair (.st (.pair (.int .u8) (.int .i16))) (.int .i16))), a0⟩, .fn 41 []] K = loopN (Fz25.LB1 fFz5 fuel (Fz25.C1 fFz5 K fuel)) fuel (Fz25.emb1 e0 (((List.length a0) : Nat) : Int) a0 (0 : Int)) := by kernel_rfl
theorem Fz25.red {α : Type} (fFz5 : Fz5.A → Option Fz5.B) (K : Res → Option α) (fuel : Nat) (e0 : TypeId) (a0 : (List ((Int × Int) × Int))) : run TT small (Fz25.tab fFz5) Tryd.f58 Fz25.ann [] fuel [.obj false ⟨e0, (.st (.pair (.st (.pair (.int .u8) (.int .i16))) (.int .i16))), a0⟩, .fn 41 []] K = Fz25.pf fFz5 fuel a0 (fun r => K (Fz25.enc 0 r)) := by
  rw [Fz25.red_raw]
  simp only [Fz25.loop1, Fz25.tail1, Fz25.tail2]
  all_goals kernel_rfl
theorem Fz25.sound (fFz5 : Fz5.A → Option Fz5.B) (hFz5 : Fz5.S fFz5) (f : Fz25.A → Option Fz25.B) (hf : ∀ x r, f x = some r → ∃ fuel, ∀ k : Fz25.B → Option Res, Fz25.pf fFz5 fuel x k = k r) : Fz25.S f := by
  refine fn_sound (by kernel_rfl) (ttok _) (tab_sound [(41, Fz5.sig fFz5)] (List.forall_mem_cons.2 ⟨hFz5, fun p hp => nomatch hp⟩)) (fn := Tryd.f58) (by kernel_rfl) (by decide) (by decide) Fz25.ann [] _ rfl (fun avs r hr => ?_) (by kernel_rfl)
  obtain ⟨x, y, h1, h2, rfl⟩ := mkSig_run hr
  obtain ⟨e0, rfl⟩ := Fz25.dec_eq h1
  obtain ⟨fuel, hk⟩ := hf x y h2
  exact ⟨fuel, (Fz25.red fFz5 some fuel e0 x).trans (hk (fun r => some (Fz25.enc 0 r)))⟩
theorem Fz25.of_cl {fFz5 : Fz5.A → Option Fz5.B} (hFz5 : Fz5.S fFz5) {P : Fz25.A → Prop} {v : Fz25.A → Fz25.B} (hp : ∀ x, P x → ∀ k : Fz25.B → Option Res, Fz25.pf fFz5 BIG x k = k (v x)) : Fz25.S (cl P v) := Fz25.sound _ hFz5 _ (fun x r hr => by obtain ⟨h1, rfl⟩ := cl_some hr; exact ⟨BIG, hp x h1⟩)
theorem Fz25.of_tot {fFz5 : Fz5.A → Option Fz5.B} (hFz5 : Fz5.S fFz5) {v : Fz25.A → Fz25.B} (hp : ∀ x, ∀ k : Fz25.B → Option Res, Fz25.pf fFz5 BIG x k = k (v x)) : Fz25.S (tot v) := Fz25.sound _ hFz5 _ (fun x r hr => by obtain rfl := Option.some.inj hr; exact ⟨BIG, hp x⟩)
/-! 40 slices_ContainsFunc_impl_Stored_impl_Stored__impl_ValidRack_1_1 -/
noncomputable def Fz23.tab (fFz25 : Fz25.A → Option Fz25.B) : FuncId → Option Sig := tabOf [(58, Fz25.sig fFz25)]
noncomputable def Fz23.E (fFz25 : Fz25.A → Option Fz25.B) : Env := ⟨TT, small, Fz23.tab fFz25, 1, 9⟩
def Fz23.ann : Ann := .nil
noncomputable def Fz23.pf {α : Type} (fFz25 : Fz25.A → Option Fz25.B) (fuel : Nat) (a0 : (List ((Int × Int) × Int))) (k : Bool → Option α) : Option α :=
  (fFz25 a0).bind fun r1 => k (decide (r1 ≥ (0 : Int)))
theorem Fz23.red {α : Type} (fFz25 : Fz25.A → Option Fz25.B) (K : Res → Option α) (fuel : Nat) (e0 : TypeId) (a0 : (List ((Int × Int) × Int))) : run TT small (Fz23.tab fFz25) Tryd.f40 Fz23.ann [] fuel [.obj false ⟨e0, (.st (.pair (.st (.pair (.int .u8) (.int .i16))) (.int .i16))), a0⟩, .fn 41 []] K = Fz23.pf fFz25 fuel a0 (fun r => K (Fz23.enc 0 r)) := by kernel_rfl
theorem Fz23.sound (fFz25 : Fz25.A → Option Fz25.B) (hFz25 : Fz25.S fFz25) (f : Fz23.A → Option Fz23.B) (hf : ∀ x r, f x = some r → ∃ fuel, ∀ k : Fz23.B → Option Res, Fz23.pf fFz25 fuel x k = k r) : Fz23.S f := by
  refine fn_sound (by kernel_rfl) (ttok _) (tab_sound [(58, Fz25.sig fFz25)] (List.forall_mem_cons.2 ⟨hFz25, fun p hp => nomatch hp⟩)) (fn := Tryd.f40) (by kernel_rfl) (by decide) (by decide) Fz23.ann [] _ rfl (fun avs r hr => ?_) (by kernel_rfl)
  obtain ⟨x, y, h1, h2, rfl⟩ := mkSig_run hr
  obtain ⟨e0, rfl⟩ := Fz23.dec_eq h1
  obtain ⟨fuel, hk⟩ := hf x y h2
  exact ⟨fuel, (Fz23.red fFz25 some fuel e0 x).trans (hk (fun r => some (Fz23.enc 0 r)))⟩
theorem Fz23.of_cl {fFz25 : Fz25.A → Option Fz25.B} (hFz25 : Fz25.S fFz25) {P : Fz23.A → Prop} {v : Fz23.A → Fz23.B} (hp : ∀ x, P x → ∀ k : Fz23.B → Option Res, Fz23.pf fFz25 BIG x k = k (v x)) : Fz23.S (cl P v) := Fz23.sound _ hFz25 _ (fun x r hr => by obtain ⟨h1, rfl⟩ := cl_some hr; exact ⟨BIG, hp x h1⟩)
theorem Fz23.of_tot {fFz25 : Fz25.A → Option Fz25.B} (hFz25 : Fz25.S fFz25) {v : Fz23.A → Fz23.B} (hp : ∀ x, ∀ k : Fz23.B → Option Res, Fz23.pf fFz25 BIG x k = k (v x)) : Fz23.S (tot v) := Fz23.sound _ hFz25 _ (fun x r hr => by obtain rfl := Option.some.inj hr; exact ⟨BIG, hp x⟩)
/-! 39 impl_ValidRack_1 -/
noncomputable def Fz4.tab (fFz23 : Fz23.A → Option Fz23.B) : FuncId → Option Sig := tabOf [(40, Fz23.sig fFz23)]
noncomputable def Fz4.E (fFz23 : Fz23.A → Option Fz23.B) : Env := ⟨TT, small, Fz4.tab fFz23, 1, 10⟩
def Fz4.ann : Ann := .nil
noncomputable def Fz4.pf {α : Type} (fFz23 : Fz23.A → Option Fz23.B) (fuel : Nat) (a0 : (List ((Int × Int) × Int))) (k : Bool → Option α) : Option α :=
  cond (decide ((((List.length a0) : Nat) : Int) > (6 : Int))) (k true) ((fFz23 a0).bind fun r1 => k r1)
theorem Fz4.red {α : Type} (fFz23 : Fz23.A → Option Fz23.B) (K : Res → Option α) (fuel : Nat) (e0 : TypeId) (a0 : (List ((Int × Int) × Int))) : run TT small (Fz4.tab fFz23) Tryd.f39 Fz4.ann [] fuel [.obj false ⟨e0, (.st (.pair (.st (.pair (.int .u8) (.int .i16))) (.int .i16))), a0⟩] K = Fz4.pf fFz23 fuel a0 (fun r => K (Fz4.enc 0 r)) := by kernel_rfl
theorem Fz4.sound (fFz23 : Fz23.A → Option Fz23.B) (hFz23 : Fz23.S fFz23) (f : Fz4.A → Option Fz4.B) (hf : ∀ x r, f x = some r → ∃ fuel, ∀ k : Fz4.B → Option Res, Fz4.pf fFz23 fuel x k = k r) : Fz4.S f := by
  refine fn_sound (by kernel_rfl) (ttok _) (tab_sound [(40, Fz23.sig fFz23)] (List.forall_mem_cons.2 ⟨hFz23, fun p hp => nomatch hp⟩)) (fn := Tryd.f39) (by kernel_rfl) (by decide) (by decide) Fz4.ann [] _ rfl (fun avs r hr => ?_) (by kernel_rfl)
  obtain ⟨x, y, h1, h2, rfl⟩ := mkSig_run hr
  obtain ⟨e0, rfl⟩ := Fz4.dec_eq h1
  obtain ⟨fuel, hk⟩ := hf x y h2
  exact ⟨fuel, (Fz4.red fFz23 some fuel e0 x).trans (hk (fun r => some (Fz4.enc 0 r)))⟩
theorem Fz4.of_cl {fFz23 : Fz23.A → Option Fz23.B} (hFz23 : Fz23.S fFz23) {P : Fz4.A → Prop} {v : Fz4.A → Fz4.B} (hp : ∀ x, P x → ∀ k : Fz4.B → Option Res, Fz4.pf fFz23 BIG x k = k (v x)) : Fz4.S (cl P v) := Fz4.sound _ hFz23 _ (fun x r hr => by obtain ⟨h1, rfl⟩ := cl_some hr; exact ⟨BIG, hp x h1⟩)
theorem Fz4.of_tot {fFz23 : Fz23.A → Option Fz23.B} (hFz23 : Fz23.S fFz23) {v : Fz4.A → Fz4.B} (hp : ∀ x, ∀ k : Fz4.B → Option Res, Fz4.pf fFz23 BIG x k = k (v x)) : Fz4.S (tot v) := Fz4.sound _ hFz23 _ (fun x r hr => by obtain rfl := Option.some.inj hr; exact ⟨BIG, hp x⟩)
/-! 57 slices_IndexFunc_impl_Rack_impl_Stored__impl_ValidRack_1 -/
noncomputable def Fz24.tab (fFz4 : Fz4.A → Option Fz4.B) : FuncId → Option Sig := tabOf [(39, Fz4.sig fFz4)]
noncomputable def Fz24.E (fFz4 : Fz4.A → Option Fz4.B) : Env := ⟨TT, small, Fz24.tab fFz4, 1, 19⟩
def Fz24.ann : Ann := (.two .nil (.two (.two .nil (.one (.loop [0, 1, 7, 8] .nil))) .nil))
noncomputable def Fz24.emb1 (e0 : TypeId) (p1_0 : Int) (p1_1 : (List (List ((Int × Int) × Int)))) (x1 : Int) : St := { slots := mkSlots 19 [(0, .sl 0 [] none), (1, .fn 39 []), (7, .val (.int .i64) p1_0), (8, .val (.int .i64) x1)], objs := mkObjs 39 [(0, .dat ⟨e0, (.row 48 (.st (.pair (.st (.pair (.int .u8) (.int .i16))) (.int .i16)))), p1_1, false, false, none⟩)] }
noncomputable def Fz24.LB1 {α : Type} (fFz4 : Fz4.A → Option Fz4.B) (fuel : Nat) (cont : Ex → St → Option α) : (St → Option α) → St → Option α := roundV (Fz24.E fFz4) fuel [true, false, true, false] (bodyOf Tryd.f57) Fz24.ann cont
noncomputable def Fz24.C1 {α : Type} (fFz4 : Fz4.A → Option Fz4.B) (K : Res → Option α) (fuel : Nat) : Ex → St → Option α := contAt (Fz24.E fFz4) fuel [true, false, true, false] (bodyOf Tryd.f57) Fz24.ann [] (finK TT 1 [some 0, none] Tryd.f57 [] K)
noncomputable def Fz24.ex1_0 (e0 : TypeId) (p1_0 : Int) (p1_1 : (List (List ((Int × Int) × Int)))) (x1 : Int) (r1001 : Bool) : St := { slots := mkSlots 19 [(0, .sl 0 [] none), (1, .fn 39 []), (4, .val (.int .i64) x1), (5, .val (.int .i64) x1), (7, .val (.int .i64) p1_0), (8, .val (.int .i64) x1), (9, .val .bool (decide (x1 < p1_0))), (10, .val (.int .i64) x1), (11, .fn 39 []), (12, .sl 0 [] none), (13, .val (.int .i64) x1), (14, .ptr 0 [.idx (x1 : Int).toNat] false), (15, .sl 0 [.idx (x1 : Int).toNat] none), (16, .val .bool r1001), (17, .val (.int .i64) x1)], objs := mkObjs 39 [(0, .dat ⟨e0, (.row 48 (.st (.pair (.st (.pair (.int .u8) (.int .i16))) (.int .i16)))), p1_1, false, false, none⟩)] }
noncomputable def Fz24.ex1_1 (e0 : TypeId) (p1_0 : Int) (p1_1 : (List (List ((Int × Int) × Int)))) (x1 : Int) : St := { slots := mkSlots 19 [(0, .sl 0 [] none), (1, .fn 39 []), (7, .val (.int .i64) p1_0), (8, .val (.int .i64) x1), (9, .val .bool (decide (x1 < p1_0)))], objs := mkObjs 39 [(0, .dat ⟨e0, (.row 48 (.st (.pair (.st (.pair (.int .u8) (.int .i16))) (.int .i16)))), p1_1, false, false, none⟩)] }
noncomputable def Fz24.B1 {α : Type} (fFz4 : Fz4.A → Option Fz4.B) (p1_0 : Int) (p1_1 : (List (List ((Int × Int) × Int)))) (K0 : Int → Bool → Option α) (K1 : Int → Option α) (rec : Int → Option α) (x1 : Int) : Option α :=
  cond (decide (x1 < p1_0)) (cond (inB x1 (List.length p1_1)) ((fFz4 (List.getD p1_1 (x1 : Int).toNat ([] : List ((Int × Int) × Int)))).bind fun r1001 => cond r1001 (K0 x1 r1001) (rec (IntKind.i64.wrap (x1 + (1 : Int))))) none) (K1 x1)
theorem Fz24.step1 {α : Type} (fFz4 : Fz4.A → Option Fz4.B) (fuel : Nat) (cont : Ex → St → Option α) (e0 : TypeId) (p1_0 : Int) (p1_1 : (List (List ((Int × Int) × Int)))) (rec : St → Option α) (x1 : Int) : Fz24.LB1 fFz4 fuel cont rec (Fz24.emb1 e0 p1_0 p1_1 x1) = Fz24.B1 fFz4 p1_0 p1_1 (fun x1 r1001 => cont .ret (Fz24.ex1_0 e0 p1_0 p1_1 x1 r1001)) (fun x1 => cont (.exit 0) (Fz24.ex1_1 e0 p1_0 p1_1 x1)) (fun y => rec (Fz24.emb1 e0 p1_0 p1_1 y)) x1 := by kernel_rfl
theorem Fz24.loop1 {α : Type} (fFz4 : Fz4.A → Option Fz4.B) (fuel : Nat) (cont : Ex → St → Option α) (e0 : TypeId) (p1_0 : Int) (p1_1 : (List (List ((Int × Int) × Int)))) (x1 : Int) : loopN (Fz24.LB1 fFz4 fuel cont) fuel (Fz24.emb1 e0 p1_0 p1_1 x1) = iter (Fz24.B1 fFz4 p1_0 p1_1 (fun x1 r1001 => cont .ret (Fz24.ex1_0 e0 p1_0 p1_1 x1 r1001)) (fun x1 => cont (.exit 0) (Fz24.ex1_1 e0 p1_0 p1_1 x1))) fuel x1 := loop_sim (fun rec x => Fz24.step1 fFz4 fuel cont e0 p1_0 p1_1 rec x) fuel x1
noncomputable def Fz24.pf {α : Type} (fFz4 : Fz4.A → Option Fz4.B) (fuel : Nat) (a0 : (List (List ((Int × Int) × Int)))) (k : Int → Option α) : Option α :=
  iter (Fz24.B1 fFz4 (((List.length a0) : Nat) : Int) a0 (fun (x1 : Int) (r1001 : Bool) => k x1) (fun (x1 : Int) => k (-1 : Int))) fuel (0 : Int)
theorem Fz24.tail1 {α : Type} (fFz4 : Fz4.A → Option Fz4.B) (K : Res → Option α) (fuel : Nat) (e0 : TypeId) (a0 : (List (List ((Int × Int) × Int)))) (x1 : Int) (r1001 : Bool) : Fz24.C1 fFz4 K fuel .ret (Fz24.ex1_0 e0 (((List.length a0) : Nat) : Int) a0 x1 r1001) = ((fun (k : Int → Option α) => k x1) (fun r => K (Fz24.enc 0 r))) := by kernel_rfl
theorem Fz24.tail2 {α : Type} (fFz4 : Fz4.A → Option Fz4.B) (K : Res → Option α) (fuel : Nat) (e0 : TypeId) (a0 : (List (List ((Int × Int) × Int)))) (x1 : Int) : Fz24.C1 fFz4 K fuel (.exit 0) (Fz24.ex1_1 e0 (((List.length a0) : Nat) : Int) a0 x1) = ((fun (k : Int → Option α) => k (-1 : Int)) (fun r => K (Fz24.enc 0 r))) := by kernel_rfl
theorem Fz24.red_raw {α : Type} (fFz4 : Fz4.A → Option Fz4.B) (K : Res → Option α) (fuel : Nat) (e0 : TypeId) (a0 : (List (List ((Int × Int) × Int)))) : run TT small (Fz24.tab fFz4) Tryd.f57 Fz24.ann [] fuel [.obj false ⟨e0, (.row 48 (.st (.pair (.st (.pair (.int .u8) (.int .i16))) (.int .i16)))), a0⟩, .fn 39 []] K = loopN (Fz24.LB1 fFz4 fuel (Fz24.C1 fFz4 K fuel)) fuel (Fz24.emb1 e0 (((List.length a0) : Nat) : Int) a0 (0 : Int)) := by kernel_rfl
theorem Fz24.red {α : Type} (fFz4 : Fz4.A → Option Fz4.B) (K : Res → Option α) (fuel : Nat) (e0 : TypeId) (a0 : (List (List ((Int × Int) × Int)))) : run TT small (Fz24.tab fFz4) Tryd.f57 Fz24.ann [] fuel [.obj false ⟨e0, (.row 48 (.st (.pair (.st (.pair (.int .u8) (.int .i16))) (.int .i16)))), a0⟩, .fn 39 []] K = Fz24.pf fFz4 fuel a0 (fun r => K (Fz24.enc 0 r)) := by
  rw [Fz24.red_raw]
  simp only [Fz24.loop1, Fz24.tail1, Fz24.tail2]
  all_goals kernel_rfl
theorem Fz24.sound (fFz4 : Fz4.A → Option Fz4.B) (hFz4 : Fz4.S fFz4) (f : Fz24.A → Option Fz24.B) (hf : ∀ x r, f x = some r → ∃ fuel, ∀ k : Fz24.B → Option Res, Fz24.pf fFz4 fuel x k = k r) : Fz24.S f := by
  refine fn_sound (by kernel_rfl) (ttok _) (tab_sound [(39, Fz4.sig fFz4)] (List.forall_mem_cons.2 ⟨hFz4, fun p hp => nomatch hp⟩)) (fn := Tryd.f57) (by kernel_rfl) (by decide) (by decide) Fz24.ann [] _ rfl (fun avs r hr => ?_) (by kernel_rfl)
  obtain ⟨x, y, h1, h2, rfl⟩ := mkSig_run hr
  obtain ⟨e0, rfl⟩ := Fz24.dec_eq h1
  obtain ⟨fuel, hk⟩ := hf x y h2
  exact ⟨fuel, (Fz24.red fFz4 some fuel e0 x).trans (hk (fun r => some (Fz24.enc 0 r)))⟩
theorem Fz24.of_cl {fFz4 : Fz4.A → Option Fz4.B} (hFz4 : Fz4.S fFz4) {P : Fz24.A → Prop} {v : Fz24.A → Fz24.B} (hp : ∀ x, P x → ∀ k : Fz24.B → Option Res, Fz24.pf fFz4 BIG x k = k (v x)) : Fz24.S (cl P v) := Fz24.sound _ hFz4 _ (fun x r hr => by obtain ⟨h1, rfl⟩ := cl_some hr; exact ⟨BIG, hp x h1⟩)
theorem Fz24.of_tot {fFz4 : Fz4.A → Option Fz4.B} (hFz4 : Fz4.S fFz4) {v : Fz24.A → Fz24.B} (hp : ∀ x, ∀ k : Fz24.B → Option Res, Fz24.pf fFz4 BIG x k = k (v x)) : Fz24.S (tot v) := Fz24.sound _ hFz4 _ (fun x r hr => by obtain rfl := Option.some.inj hr; exact ⟨BIG, hp x⟩)
/-! 38 slices_ContainsFunc_impl_Rack_impl_Stored__impl_ValidRack_1 -/
noncomputable def Fz22.tab (fFz24 : Fz24.A → Option Fz24.B) : FuncId → Option Sig := tabOf [(57, Fz24.sig fFz24)]
noncomputable def Fz22.E (fFz24 : Fz24.A → Option Fz24.B) : Env := ⟨TT, small, Fz22.tab fFz24, 1, 9⟩
def Fz22.ann : Ann := .nil
noncomputable def Fz22.pf {α : Type} (fFz24 : Fz24.A → Option Fz24.B) (fuel : Nat) (a0 : (List (List ((Int × Int) × Int)))) (k : Bool → Option α) : Option α :=
  (fFz24 a0).bind fun r1 => k (decide (r1 ≥ (0 : Int)))
theorem Fz22.red {α : Type} (fFz24 : Fz24.A → Option Fz24.B) (K : Res → Option α) (fuel : Nat) (e0 : TypeId) (a0 : (List (List ((Int × Int) × Int)))) : run TT small (Fz22.tab fFz24) Tryd.f38 Fz22.ann [] fuel [.obj false ⟨e0, (.row 48 (.st (.pair (.st (.pair (.int .u8) (.int .i16))) (.int .i16)))), a0⟩, .fn 39 []] K = Fz22.pf fFz24 fuel a0 (fun r => K (Fz22.enc 0 r)) := by kernel_rfl
theorem Fz22.sound (fFz24 : Fz24.A → Option Fz24.B) (hFz24 : Fz24.S fFz24) (f : Fz22.A → Option Fz22.B) (hf : ∀ x r, f x = some r → ∃ fuel, ∀ k : Fz22.B → Option Res, Fz22.pf fFz24 fuel x k = k r) : Fz22.S f := by
  refine fn_sound (by kernel_rfl) (ttok _) (tab_sound [(57, Fz24.sig fFz24)] (List.forall_mem_cons.2 ⟨hFz24, fun p hp => nomatch hp⟩)) (fn := Tryd.f38) (by kernel_rfl) (by decide) (by decide) Fz22.ann [] _ rfl (fun avs r hr => ?_) (by kernel_rfl)
  obtain ⟨x, y, h1, h2, rfl⟩ := mkSig_run hr
  obtain ⟨e0, rfl⟩ := Fz22.dec_eq h1
  obtain ⟨fuel, hk⟩ := hf x y h2
  exact ⟨fuel, (Fz22.red fFz24 some fuel e0 x).trans (hk (fun r => some (Fz22.enc 0 r)))⟩
theorem Fz22.of_cl {fFz24 : Fz24.A → Option Fz24.B} (hFz24 : Fz24.S fFz24) {P : Fz22.A → Prop} {v : Fz22.A → Fz22.B} (hp : ∀ x, P x → ∀ k : Fz22.B → Option Res, Fz22.pf fFz24 BIG x k = k (v x)) : Fz22.S (cl P v) := Fz22.sound _ hFz24 _ (fun x r hr => by obtain ⟨h1, rfl⟩ := cl_some hr; exact ⟨BIG, hp x h1⟩)
theorem Fz22.of_tot {fFz24 : Fz24.A → Option Fz24.B} (hFz24 : Fz24.S fFz24) {v : Fz22.A → Fz22.B} (hp : ∀ x, ∀ k : Fz22.B → Option Res, Fz22.pf fFz24 BIG x k = k (v x)) : Fz22.S (tot v) := Fz22.sound _ hFz24 _ (fun x r hr => by obtain rfl := Option.some.inj hr; exact ⟨BIG, hp x⟩)
/-! 18 impl_ValidRack -/
noncomputable def Fz3.tab (fFz22 : Fz22.A → Option Fz22.B) : FuncId → Option Sig := tabOf [(38, Fz22.sig fFz22)]
noncomputable def Fz3.E (fFz22 : Fz22.A → Option Fz22.B) : Env := ⟨TT, small, Fz3.tab fFz22, 1, 11⟩
def Fz3.ann : Ann := .nil
noncomputable def Fz3.pf {α : Type} (fFz22 : Fz22.A → Option Fz22.B) (fuel : Nat) (a0 : (List (List ((Int × Int) × Int)))) (k : Bool → Option α) : Option α :=
  cond (decide ((((List.length a0) : Nat) : Int) ≤ (8 : Int))) ((fFz22 a0).bind fun r1 => k (!r1)) (k false)
theorem Fz3.red {α : Type} (fFz22 : Fz22.A → Option Fz22.B) (K : Res → Option α) (fuel : Nat) (e0 : TypeId) (a0 : (List (List ((Int × Int) × Int)))) : run TT small (Fz3.tab fFz22) Tryd.f18 Fz3.ann [] fuel [.obj false ⟨e0, (.row 48 (.st (.pair (.st (.pair (.int .u8) (.int .i16))) (.int .i16)))), a0⟩] K = Fz3.pf fFz22 fuel a0 (fun r => K (Fz3.enc 0 r)) := by kernel_rfl
theorem Fz3.sound (fFz22 : Fz22.A → Option Fz22.B) (hFz22 : Fz22.S fFz22) (f : Fz3.A → Option Fz3.B) (hf : ∀ x r, f x = some r → ∃ fuel, ∀ k : Fz3.B → Option Res, Fz3.pf fFz22 fuel x k = k r) : Fz3.S f := by
  refine fn_sound (by kernel_rfl) (ttok _) (tab_sound [(38, Fz22.sig fFz22)] (List.forall_mem_cons.2 ⟨hFz22, fun p hp => nomatch hp⟩)) (fn := Tryd.f18) (by kernel_rfl) (by decide) (by decide) Fz3.ann [] _ rfl (fun avs r hr => ?_) (by kernel_rfl)
  obtain ⟨x, y, h1, h2, rfl⟩ := mkSig_run hr
  obtain ⟨e0, rfl⟩ := Fz3.dec_eq h1
  obtain ⟨fuel, hk⟩ := hf x y h2
  exact ⟨fuel, (Fz3.red fFz22 some fuel e0 x).trans (hk (fun r => some (Fz3.enc 0 r)))⟩
theorem Fz3.of_cl {fFz22 : Fz22.A → Option Fz22.B} (hFz22 : Fz22.S fFz22) {P : Fz3.A → Prop} {v : Fz3.A → Fz3.B} (hp : ∀ x, P x → ∀ k : Fz3.B → Option Res, Fz3.pf fFz22 BIG x k = k (v x)) : Fz3.S (cl P v) := Fz3.sound _ hFz22 _ (fun x r hr => by obtain ⟨h1, rfl⟩ := cl_some hr; exact ⟨BIG, hp x h1⟩)
theorem Fz3.of_tot {fFz22 : Fz22.A → Option Fz22.B} (hFz22 : Fz22.S fFz22) {v : Fz3.A → Fz3.B} (hp : ∀ x, ∀ k : Fz3.B → Option Res, Fz3.pf fFz22 BIG x k = k (v x)) : Fz3.S (tot v) := Fz3.sound _ hFz22 _ (fun x r hr => by obtain rfl := Option.some.inj hr; exact ⟨BIG, hp x⟩)
end Go.Proofs.YteaodjahafgbcaaDoor.G
