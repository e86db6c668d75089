import Derived.Test.YtjajlmaldeoobaaDoorSg
namespace Go.Proofs.YtjajlmaldeoobaaDoor.G
open Go Go.Proofs
set_option linter.unusedVariables false
set_option linter.unusedSimpArgs false
set_option maxRecDepth 100000
/-! 5 laws_szSwapS -/
noncomputable def Fz12.tab : FuncId → Option Sig := tabOf []
noncomputable def Fz12.E : Env := ⟨TT, small, Fz12.tab , 1, 12⟩
def Fz12.ann : Ann := .nil
noncomputable def Fz12.pf {α : Type} (fuel : Nat) (a0 : (List (Int × Int))) (a1 : Int) (k : Int → Option α) : Option α :=
  cond (decide ((IntKind.i64.wrap (a1 - (((List.length a0) : Nat) : Int))) < (0 : Int))) (k (-1 : Int)) (k (IntKind.i64.wrap (a1 - (((List.length a0) : Nat) : Int))))
theorem Fz12.red {α : Type} (K : Res → Option α) (fuel : Nat) (e0 : TypeId) (a0 : (List (Int × Int))) (a1 : Int) : run TT small Fz12.tab Tryd.f5 Fz12.ann [] fuel [.obj false ⟨e0, (.st (.pair (.int .i8) (.int .i8))), a0⟩, .val (.int .i64) a1] K = Fz12.pf fuel a0 a1 (fun r => K (Fz12.enc 0 r)) := by kernel_rfl
theorem Fz12.sound (f : Fz12.A → Option Fz12.B) (hf : ∀ x r, f x = some r → ∃ fuel, ∀ k : Fz12.B → Option Res, Fz12.pf fuel x.1 x.2 k = k r) : Fz12.S f := by
  refine fn_sound (by kernel_rfl) (ttok _) (tab_sound [] (fun p hp => nomatch hp)) (fn := Tryd.f5) (by kernel_rfl) (by decide) (by decide) Fz12.ann [] _ rfl (fun avs r hr => ?_) (by kernel_rfl)
  obtain ⟨x, y, h1, h2, rfl⟩ := mkSig_run hr
  obtain ⟨e0, rfl⟩ := Fz12.dec_eq h1
  obtain ⟨fuel, hk⟩ := hf x y h2
  exact ⟨fuel, (Fz12.red some fuel e0 x.1 x.2).trans (hk (fun r => some (Fz12.enc 0 r)))⟩
theorem Fz12.of_cl {P : Fz12.A → Prop} {v : Fz12.A → Fz12.B} (hp : ∀ x, P x → ∀ k : Fz12.B → Option Res, Fz12.pf BIG x.1 x.2 k = k (v x)) : Fz12.S (cl P v) := Fz12.sound  _ (fun x r hr => by obtain ⟨h1, rfl⟩ := cl_some hr; exact ⟨BIG, hp x h1⟩)
theorem Fz12.of_tot {v : Fz12.A → Fz12.B} (hp : ∀ x, ∀ k : Fz12.B → Option Res, Fz12.pf BIG x.1 x.2 k = k (v x)) : Fz12.S (tot v) := Fz12.sound  _ (fun x r hr => by obtain rfl := Option.some.inj hr; exact ⟨BIG, hp x⟩)
/-! 16 laws_toSwap -/
noncomputable def Fz13.tab : FuncId → Option Sig := tabOf []
noncomputable def Fz13.E : Env := ⟨TT, small, Fz13.tab , 0, 11⟩
def Fz13.ann : Ann := .nil
noncomputable def Fz13.pf {α : Type} (fuel : Nat) (a0 : (Int × Int)) (k : (Int × Int) → Option α) : Option α :=
  k (a0.1, a0.2)
theorem Fz13.red {α : Type} (K : Res → Option α) (fuel : Nat) (a0 : (Int × Int)) : run TT small Fz13.tab Tryd.f16 Fz13.ann [] fuel [.val (.st (.pair (.int .i8) (.int .i8))) a0] K = Fz13.pf fuel a0 (fun r => K (Fz13.enc 0 r)) := by kernel_rfl
theorem Fz13.sound (f : Fz13.A → Option Fz13.B) (hf : ∀ x r, f x = some r → ∃ fuel, ∀ k : Fz13.B → Option Res, Fz13.pf fuel x k = k r) : Fz13.S f := by
  refine fn_sound (by kernel_rfl) (ttok _) (tab_sound [] (fun p hp => nomatch hp)) (fn := Tryd.f16) (by kernel_rfl) (by decide) (by decide) Fz13.ann [] _ rfl (fun avs r hr => ?_) (by kernel_rfl)
  obtain ⟨x, y, h1, h2, rfl⟩ := mkSig_run hr
  obtain rfl := Fz13.dec_eq h1
  obtain ⟨fuel, hk⟩ := hf x y h2
  exact ⟨fuel, (Fz13.red some fuel x).trans (hk (fun r => some (Fz13.enc 0 r)))⟩
theorem Fz13.of_cl {P : Fz13.A → Prop} {v : Fz13.A → Fz13.B} (hp : ∀ x, P x → ∀ k : Fz13.B → Option Res, Fz13.pf BIG x k = k (v x)) : Fz13.S (cl P v) := Fz13.sound  _ (fun x r hr => by obtain ⟨h1, rfl⟩ := cl_some hr; exact ⟨BIG, hp x h1⟩)
theorem Fz13.of_tot {v : Fz13.A → Fz13.B} (hp : ∀ x, ∀ k : Fz13.B → Option Res, Fz13.pf BIG x k = k (v x)) : Fz13.S (tot v) := Fz13.sound  _ (fun x r hr => by obtain rfl := Option.some.inj hr; exact ⟨BIG, hp x⟩)
/-! 7 laws_toSwapS -/
noncomputable def Fz14.tab (fFz13 : Fz13.A → Option Fz13.B) : FuncId → Option Sig := tabOf [(16, Fz13.sig fFz13)]
noncomputable def Fz14.E (fFz13 : Fz13.A → Option Fz13.B) : Env := ⟨TT, small, Fz14.tab fFz13, 1, 23⟩
def Fz14.ann : Ann := (.two .nil (.two .nil (.two (.two .nil (.one (.loop [0, 3, 4] .nil))) .nil)))
noncomputable def Fz14.emb1 (e0 : TypeId) (p1_0 : (List (Int × Int))) (x1 : (Int × (List (Int × Int)))) : St := { slots := mkSlots 23 [(0, .sl 0 [] none), (3, .sl 47 [] none), (4, .val (.int .i64) x1.1)], objs := mkObjs 48 [(0, .dat ⟨e0, (.st (.pair (.int .i8) (.int .i8))), p1_0, false, false, none⟩), (47, .dat ⟨36, (.st (.pair (.int .i8) (.int .i8))), x1.2, true, true, none⟩)] }
noncomputable def Fz14.LB1 {α : Type} (fFz13 : Fz13.A → Option Fz13.B) (fuel : Nat) (cont : Ex → St → Option α) : (St → Option α) → St → Option α := roundV (Fz14.E fFz13) fuel [true, true, false, true, false] (bodyOf Tryd.f7) Fz14.ann cont
noncomputable def Fz14.C1 {α : Type} (fFz13 : Fz13.A → Option Fz13.B) (K : Res → Option α) (fuel : Nat) : Ex → St → Option α := contAt (Fz14.E fFz13) fuel [true, true, false, true, false] (bodyOf Tryd.f7) Fz14.ann [] (finK TT 1 [some 0] Tryd.f7 [] K)
noncomputable def Fz14.ex1_0 (e0 : TypeId) (p1_0 : (List (Int × Int))) (x1 : (Int × (List (Int × Int)))) : St := { slots := mkSlots 23 [(0, .sl 0 [] none), (3, .sl 47 [] none), (4, .val (.int .i64) x1.1), (8, .val (.int .i64) x1.1), (9, .sl 0 [] none), (10, .val (.int .i64) (((List.length p1_0) : Nat) : Int)), (11, .val .bool ((decide (x1.1 < (((List.length p1_0) : Nat) : Int)))))], objs := mkObjs 48 [(0, .dat ⟨e0, (.st (.pair (.int .i8) (.int .i8))), p1_0, false, false, none⟩), (47, .dat ⟨36, (.st (.pair (.int .i8) (.int .i8))), x1.2, true, true, none⟩)] }
noncomputable def Fz14.B1 {α : Type} (fFz13 : Fz13.A → Option Fz13.B) (p1_0 : (List (Int × Int))) (K0 : (Int × (List (Int × Int))) → Option α) (rec : (Int × (List (Int × Int))) → Option α) (x1 : (Int × (List (Int × Int)))) : Option α :=
  cond (decide (x1.1 < (((List.length p1_0) : Nat) : Int))) (cond (inB x1.1 (List.length p1_0)) ((fFz13 (List.getD p1_0 (x1.1 : Int).toNat ((0 : Int), (0 : Int)))).bind fun r1001 => cond (inB x1.1 (List.length x1.2)) (rec (((IntKind.i64.wrap (x1.1 + (1 : Int))), (List.set x1.2 (x1.1 : Int).toNat r1001)))) none) none) (K0 x1)
theorem Fz14.step1 {α : Type} (fFz13 : Fz13.A → Option Fz13.B) (fuel : Nat) (cont : Ex → St → Option α) (e0 : TypeId) (p1_0 : (List (Int × Int))) (rec : St → Option α) (x1 : (Int × (List (Int × Int)))) : Fz14.LB1 fFz13 fuel cont rec (Fz14.emb1 e0 p1_0 x1) = Fz14.B1 fFz13 p1_0 (fun x1 => cont (.exit 0) (Fz14.ex1_0 e0 p1_0 x1)) (fun y => rec (Fz14.emb1 e0 p1_0 y)) x1 := by kernel_rfl
theorem Fz14.loop1 {α : Type} (fFz13 : Fz13.A → Option Fz13.B) (fuel : Nat) (cont : Ex → St → Option α) (e0 : TypeId) (p1_0 : (List (Int × Int))) (x1 : (Int × (List (Int × Int)))) : loopN (Fz14.LB1 fFz13 fuel cont) fuel (Fz14.emb1 e0 p1_0 x1) = iter (Fz14.B1 fFz13 p1_0 (fun x1 => cont (.exit 0) (Fz14.ex1_0 e0 p1_0 x1))) fuel x1 := loop_sim (fun rec x => Fz14.step1 fFz13 fuel cont e0 p1_0 rec x) fuel x1
noncomputable def Fz14.pf {α : Type} (fFz13 : Fz13.A → Option Fz13.B) (fuel : Nat) (a0 : (List (Int × Int))) (k : (List (Int × Int)) → Option α) : Option α :=
  cond (inW (((List.length a0) : Nat) : Int) (((List.length a0) : Nat) : Int) LIM) (iter (Fz14.B1 fFz13 a0 (fun (x1 : (Int × (List (Int × Int)))) => k x1.2)) fuel (((0 : Int), (List.replicate (((List.length a0) : Nat) : Int).toNat ((0 : Int), (0 : Int)))))) none
theorem Fz14.tail1 {α : Type} (fFz13 : Fz13.A → Option Fz13.B) (K : Res → Option α) (fuel : Nat) (e0 : TypeId) (a0 : (List (Int × Int))) (x1 : (Int × (List (Int × Int)))) : Fz14.C1 fFz13 K fuel (.exit 0) (Fz14.ex1_0 e0 a0 x1) = ((fun (k : (List (Int × Int)) → Option α) => k x1.2) (fun r => K (Fz14.enc 0 r))) := by kernel_rfl
theorem Fz14.red_raw {α : Type} (fFz13 : Fz13.A → Option Fz13.B) (K : Res → Option α) (fuel : Nat) (e0 : TypeId) (a0 : (List (Int × Int))) : run TT small (Fz14.tab fFz13) Tryd.f7 Fz14.ann [] fuel [.obj false ⟨e0, (.st (.pair (.int .i8) (.int .i8))), a0⟩] K = cond (inW (((List.length a0) : Nat) : Int) (((List.length a0) : Nat) : Int) LIM) (loopN (Fz14.LB1 fFz13 fuel (Fz14.C1 fFz13 K fuel)) fuel (Fz14.emb1 e0 a0 (((0 : Int), (List.replicate (((List.length a0) : Nat) : Int).toNat ((0 : Int), (0 : Int))))))) none := by kernel_rfl
theorem Fz14.red {α : Type} (fFz13 : Fz13.A → Option Fz13.B) (K : Res → Option α) (fuel : Nat) (e0 : TypeId) (a0 : (List (Int × Int))) : run TT small (Fz14.tab fFz13) Tryd.f7 Fz14.ann [] fuel [.obj false ⟨e0, (.st (.pair (.int .i8) (.int .i8))), a0⟩] K = Fz14.pf fFz13 fuel a0 (fun r => K (Fz14.enc 0 r)) := by
  rw [Fz14.red_raw]
  simp only [Fz14.loop1, Fz14.tail1]
  all_goals kernel_rfl
theorem Fz14.sound (fFz13 : Fz13.A → Option Fz13.B) (hFz13 : Fz13.S fFz13) (f : Fz14.A → Option Fz14.B) (hf : ∀ x r, f x = some r → ∃ fuel, ∀ k : Fz14.B → Option Res, Fz14.pf fFz13 fuel x k = k r) : Fz14.S f := by
  refine fn_sound (by kernel_rfl) (ttok _) (tab_sound [(16, Fz13.sig fFz13)] (List.forall_mem_cons.2 ⟨hFz13, fun p hp => nomatch hp⟩)) (fn := Tryd.f7) (by kernel_rfl) (by decide) (by decide) Fz14.ann [] _ rfl (fun avs r hr => ?_) (by kernel_rfl)
  obtain ⟨x, y, h1, h2, rfl⟩ := mkSig_run hr
  obtain ⟨e0, rfl⟩ := Fz14.dec_eq h1
  obtain ⟨fuel, hk⟩ := hf x y h2
  exact ⟨fuel, (Fz14.red fFz13 some fuel e0 x).trans (hk (fun r => some (Fz14.enc 0 r)))⟩
theorem Fz14.of_cl {fFz13 : Fz13.A → Option Fz13.B} (hFz13 : Fz13.S fFz13) {P : Fz14.A → Prop} {v : Fz14.A → Fz14.B} (hp : ∀ x, P x → ∀ k : Fz14.B → Option Res, Fz14.pf fFz13 BIG x k = k (v x)) : Fz14.S (cl P v) := Fz14.sound _ hFz13 _ (fun x r hr => by obtain ⟨h1, rfl⟩ := cl_some hr; exact ⟨BIG, hp x h1⟩)
theorem Fz14.of_tot {fFz13 : Fz13.A → Option Fz13.B} (hFz13 : Fz13.S fFz13) {v : Fz14.A → Fz14.B} (hp : ∀ x, ∀ k : Fz14.B → Option Res, Fz14.pf fFz13 BIG x k = k (v x)) : Fz14.S (tot v) := Fz14.sound _ hFz13 _ (fun x r hr => by obtain rfl := Option.some.inj hr; exact ⟨BIG, hp x⟩)
/-! 35 spec_l00In -/
noncomputable def spec_l00In.tab : FuncId → Option Sig := tabOf []
noncomputable def spec_l00In.E : Env := ⟨TT, small, spec_l00In.tab , 0, 15⟩
def spec_l00In.ann : Ann := .nil
noncomputable def spec_l00In.pf {α : Type} (fuel : Nat) (a0 : Int) (a1 : Int) (a2 : Int) (k : Bool → Option α) : Option α :=
  cond (decide (a0 ≥ a1)) (k (decide (a0 ≤ a2))) (k false)
theorem spec_l00In.red {α : Type} (K : Res → Option α) (fuel : Nat) (a0 : Int) (a1 : Int) (a2 : Int) : run TT small spec_l00In.tab Tryd.f35 spec_l00In.ann [] fuel [.val (.int .i64) a0, .val (.int .i64) a1, .val (.int .i64) a2] K = spec_l00In.pf fuel a0 a1 a2 (fun r => K (spec_l00In.enc 0 r)) := by kernel_rfl
theorem spec_l00In.sound (f : spec_l00In.A → Option spec_l00In.B) (hf : ∀ x r, f x = some r → ∃ fuel, ∀ k : spec_l00In.B → Option Res, spec_l00In.pf fuel x.1 x.2.1 x.2.2 k = k r) : spec_l00In.S f := by
  refine fn_sound (by kernel_rfl) (ttok _) (tab_sound [] (fun p hp => nomatch hp)) (fn := Tryd.f35) (by kernel_rfl) (by decide) (by decide) spec_l00In.ann [] _ rfl (fun avs r hr => ?_) (by kernel_rfl)
  obtain ⟨x, y, h1, h2, rfl⟩ := mkSig_run hr
  obtain rfl := spec_l00In.dec_eq h1
  obtain ⟨fuel, hk⟩ := hf x y h2
  exact ⟨fuel, (spec_l00In.red some fuel x.1 x.2.1 x.2.2).trans (hk (fun r => some (spec_l00In.enc 0 r)))⟩
theorem spec_l00In.of_cl {P : spec_l00In.A → Prop} {v : spec_l00In.A → spec_l00In.B} (hp : ∀ x, P x → ∀ k : spec_l00In.B → Option Res, spec_l00In.pf BIG x.1 x.2.1 x.2.2 k = k (v x)) : spec_l00In.S (cl P v) := spec_l00In.sound  _ (fun x r hr => by obtain ⟨h1, rfl⟩ := cl_some hr; exact ⟨BIG, hp x h1⟩)
theorem spec_l00In.of_tot {v : spec_l00In.A → spec_l00In.B} (hp : ∀ x, ∀ k : spec_l00In.B → Option Res, spec_l00In.pf BIG x.1 x.2.1 x.2.2 k = k (v x)) : spec_l00In.S (tot v) := spec_l00In.sound  _ (fun x r hr => by obtain rfl := Option.some.inj hr; exact ⟨BIG, hp x⟩)
/-! 23 spec_l01Place -/
noncomputable def Fz20.tab (fspec_l00In : spec_l00In.A → Option spec_l00In.B) : FuncId → Option Sig := tabOf [(35, spec_l00In.sig fspec_l00In)]
noncomputable def Fz20.E (fspec_l00In : spec_l00In.A → Option spec_l00In.B) : Env := ⟨TT, small, Fz20.tab fspec_l00In, 0, 5⟩
def Fz20.ann : Ann := .nil
noncomputable def Fz20.pf {α : Type} (fspec_l00In : spec_l00In.A → Option spec_l00In.B) (fuel : Nat) (a0 : Int) (k : Bool → Option α) : Option α :=
  (fspec_l00In (a0, (0 : Int), (11 : Int))).bind fun r1 => k r1
theorem Fz20.red {α : Type} (fspec_l00In : spec_l00In.A → Option spec_l00In.B) (K : Res → Option α) (fuel : Nat) (a0 : Int) : run TT small (Fz20.tab fspec_l00In) Tryd.f23 Fz20.ann [] fuel [.val (.int .i64) a0] K = Fz20.pf fspec_l00In fuel a0 (fun r => K (Fz20.enc 0 r)) := by kernel_rfl
theorem Fz20.sound (fspec_l00In : spec_l00In.A → Option spec_l00In.B) (hspec_l00In : spec_l00In.S fspec_l00In) (f : Fz20.A → Option Fz20.B) (hf : ∀ x r, f x = some r → ∃ fuel, ∀ k : Fz20.B → Option Res, Fz20.pf fspec_l00In fuel x k = k r) : Fz20.S f := by
  refine fn_sound (by kernel_rfl) (ttok _) (tab_sound [(35, spec_l00In.sig fspec_l00In)] (List.forall_mem_cons.2 ⟨hspec_l00In, fun p hp => nomatch hp⟩)) (fn := Tryd.f23) (by kernel_rfl) (by decide) (by decide) Fz20.ann [] _ rfl (fun avs r hr => ?_) (by kernel_rfl)
  obtain ⟨x, y, h1, h2, rfl⟩ := mkSig_run hr
  obtain rfl := Fz20.dec_eq h1
  obtain ⟨fuel, hk⟩ := hf x y h2
  exact ⟨fuel, (Fz20.red fspec_l00In some fuel x).trans (hk (fun r => some (Fz20.enc 0 r)))⟩
theorem Fz20.of_cl {fspec_l00In : spec_l00In.A → Option spec_l00In.B} (hspec_l00In : spec_l00In.S fspec_l00In) {P : Fz20.A → Prop} {v : Fz20.A → Fz20.B} (hp : ∀ x, P x → ∀ k : Fz20.B → Option Res, Fz20.pf fspec_l00In BIG x k = k (v x)) : Fz20.S (cl P v) := Fz20.sound _ hspec_l00In _ (fun x r hr => by obtain ⟨h1, rfl⟩ := cl_some hr; exact ⟨BIG, hp x h1⟩)
theorem Fz20.of_tot {fspec_l00In : spec_l00In.A → Option spec_l00In.B} (hspec_l00In : spec_l00In.S fspec_l00In) {v : Fz20.A → Fz20.B} (hp : ∀ x, ∀ k : Fz20.B → Option Res, Fz20.pf fspec_l00In BIG x k = k (v x)) : Fz20.S (tot v) := Fz20.sound _ hspec_l00In _ (fun x r hr => by obtain rfl := Option.some.inj hr; exact ⟨BIG, hp x⟩)
/-! 14 spec_l03Can -/
noncomputable def Fz21.tab (fFz20 : Fz20.A → Option Fz20.B) : FuncId → Option Sig := tabOf [(23, Fz20.sig fFz20)]
noncomputable def Fz21.E (fFz20 : Fz20.A → Option Fz20.B) : Env := ⟨TT, small, Fz21.tab fFz20, 0, 13⟩
def Fz21.ann : Ann := .nil
noncomputable def Fz21.pf {α : Type} (fFz20 : Fz20.A → Option Fz20.B) (fuel : Nat) (a0 : (Int × Int)) (k : Bool → Option α) : Option α :=
  (fFz20 (IntKind.i64.wrap a0.1)).bind fun r1 => cond r1 ((fFz20 (IntKind.i64.wrap a0.2)).bind fun r2 => k r2) (k false)
theorem Fz21.red {α : Type} (fFz20 : Fz20.A → Option Fz20.B) (K : Res → Option α) (fuel : Nat) (a0 : (Int × Int)) : run TT small (Fz21.tab fFz20) Tryd.f14 Fz21.ann [] fuel [.val (.st (.pair (.int .i8) (.int .i8))) a0] K = Fz21.pf fFz20 fuel a0 (fun r => K (Fz21.enc 0 r)) := by kernel_rfl
theorem Fz21.sound (fFz20 : Fz20.A → Option Fz20.B) (hFz20 : Fz20.S fFz20) (f : Fz21.A → Option Fz21.B) (hf : ∀ x r, f x = some r → ∃ fuel, ∀ k : Fz21.B → Option Res, Fz21.pf fFz20 fuel x k = k r) : Fz21.S f := by
  refine fn_sound (by kernel_rfl) (ttok _) (tab_sound [(23, Fz20.sig fFz20)] (List.forall_mem_cons.2 ⟨hFz20, fun p hp => nomatch hp⟩)) (fn := Tryd.f14) (by kernel_rfl) (by decide) (by decide) Fz21.ann [] _ rfl (fun avs r hr => ?_) (by kernel_rfl)
  obtain ⟨x, y, h1, h2, rfl⟩ := mkSig_run hr
  obtain rfl := Fz21.dec_eq h1
  obtain ⟨fuel, hk⟩ := hf x y h2
  exact ⟨fuel, (Fz21.red fFz20 some fuel x).trans (hk (fun r => some (Fz21.enc 0 r)))⟩
theorem Fz21.of_cl {fFz20 : Fz20.A → Option Fz20.B} (hFz20 : Fz20.S fFz20) {P : Fz21.A → Prop} {v : Fz21.A → Fz21.B} (hp : ∀ x, P x → ∀ k : Fz21.B → Option Res, Fz21.pf fFz20 BIG x k = k (v x)) : Fz21.S (cl P v) := Fz21.sound _ hFz20 _ (fun x r hr => by obtain ⟨h1, rfl⟩ := cl_some hr; exact ⟨BIG, hp x h1⟩)
theorem Fz21.of_tot {fFz20 : Fz20.A → Option Fz20.B} (hFz20 : Fz20.S fFz20) {v : Fz21.A → Fz21.B} (hp : ∀ x, ∀ k : Fz21.B → Option Res, Fz21.pf fFz20 BIG x k = k (v x)) : Fz21.S (tot v) := Fz21.sound _ hFz20 _ (fun x r hr => by obtain rfl := Option.some.inj hr; exact ⟨BIG, hp x⟩)
/-! 27 spec_Decimal -/
noncomputable def Fz17.tab (fFz17 : Fz17.A → Option Fz17.B) : FuncId → Option Sig := tabOf [(27, Fz17.sig fFz17)]
noncomputable def Fz17.E (fFz17 : Fz17.A → Option Fz17.B) : Env := ⟨TT, small, Fz17.tab fFz17, 0, 21⟩
def Fz17.ann : Ann := .nil
noncomputable def Fz17.pf {α : Type} (fFz17 : Fz17.A → Option Fz17.B) (fuel : Nat) (a0 : Int) (k : ByteArray → Option α) : Option α :=
  cond (decide (a0 < (10 : Int))) (cond ((10 : Int) == 0) none (k (strOf [(IntKind.u8.wrap (IntKind.i64.wrap ((48 : Int) + (Int.tmod a0 (10 : Int)))))]))) (cond ((10 : Int) == 0) none ((fFz17 (IntKind.i64.wrap (Int.tdiv a0 (10 : Int)))).bind fun r1 => cond ((10 : Int) == 0) none (cond (decide (ByteArray.size r1 + ByteArray.size (strOf [(IntKind.u8.wrap (IntKind.i64.wrap ((48 : Int) + (Int.tmod a0 (10 : Int)))))]) ≤ LIM)) (k (r1 ++ (strOf [(IntKind.u8.wrap (IntKind.i64.wrap ((48 : Int) + (Int.tmod a0 (10 : Int)))))]))) none)))
theorem Fz17.red {α : Type} (fFz17 : Fz17.A → Option Fz17.B) (K : Res → Option α) (fuel : Nat) (a0 : Int) : run TT small (Fz17.tab fFz17) Tryd.f27 Fz17.ann [] fuel [.val (.int .i64) a0] K = Fz17.pf fFz17 fuel a0 (fun r => K (Fz17.enc 0 r)) := by kernel_rfl
theorem Fz17.sound (fFz17 : Fz17.A → Option Fz17.B) (hFz17 : Fz17.S fFz17) (f : Fz17.A → Option Fz17.B) (hf : ∀ x r, f x = some r → ∃ fuel, ∀ k : Fz17.B → Option Res, Fz17.pf fFz17 fuel x k = k r) : Fz17.S f := by
  refine fn_sound (by kernel_rfl) (ttok _) (tab_sound [(27, Fz17.sig fFz17)] (List.forall_mem_cons.2 ⟨hFz17, fun p hp => nomatch hp⟩)) (fn := Tryd.f27) (by kernel_rfl) (by decide) (by decide) Fz17.ann [] _ rfl (fun avs r hr => ?_) (by kernel_rfl)
  obtain ⟨x, y, h1, h2, rfl⟩ := mkSig_run hr
  obtain rfl := Fz17.dec_eq h1
  obtain ⟨fuel, hk⟩ := hf x y h2
  exact ⟨fuel, (Fz17.red fFz17 some fuel x).trans (hk (fun r => some (Fz17.enc 0 r)))⟩
theorem Fz17.of_cl {fFz17 : Fz17.A → Option Fz17.B} (hFz17 : Fz17.S fFz17) {P : Fz17.A → Prop} {v : Fz17.A → Fz17.B} (hp : ∀ x, P x → ∀ k : Fz17.B → Option Res, Fz17.pf fFz17 BIG x k = k (v x)) : Fz17.S (cl P v) := Fz17.sound _ hFz17 _ (fun x r hr => by obtain ⟨h1, rfl⟩ := cl_some hr; exact ⟨BIG, hp x h1⟩)
theorem Fz17.of_tot {fFz17 : Fz17.A → Option Fz17.B} (hFz17 : Fz17.S fFz17) {v : Fz17.A → Fz17.B} (hp : ∀ x, ∀ k : Fz17.B → Option Res, Fz17.pf fFz17 BIG x k = k (v x)) : Fz17.S (tot v) := Fz17.sound _ hFz17 _ (fun x r hr => by obtain rfl := Option.some.inj hr; exact ⟨BIG, hp x⟩)
/-! 15 spec_l03Text -/
noncomputable def Fz22.tab (fFz17 : Fz17.A → Option Fz17.B) : FuncId → Option Sig := tabOf [(27, Fz17.sig fFz17)]
noncomputable def Fz22.E (fFz17 : Fz17.A → Option Fz17.B) : Env := ⟨TT, small, Fz22.tab fFz17, 1, 34⟩
def Fz22.ann : Ann := (.two .nil (.two .nil (.two (.two .nil (.one (.loop [0, 3, 4] .nil))) .nil)))
noncomputable def Fz22.emb1 (e0 : TypeId) (p1_0 : (List (Int × Int))) (x1 : (ByteArray × Int)) : St := { slots := mkSlots 34 [(0, .sl 0 [] none), (3, .val .str x1.1), (4, .val (.int .i64) x1.2)], objs := mkObjs 69 [(0, .dat ⟨e0, (.st (.pair (.int .i8) (.int .i8))), p1_0, false, false, none⟩)] }
noncomputable def Fz22.LB1 {α : Type} (fFz17 : Fz17.A → Option Fz17.B) (fuel : Nat) (cont : Ex → St → Option α) : (St → Option α) → St → Option α := roundV (Fz22.E fFz17) fuel [true, true, false, true, false] (bodyOf Tryd.f15) Fz22.ann cont
noncomputable def Fz22.C1 {α : Type} (fFz17 : Fz17.A → Option Fz17.B) (K : Res → Option α) (fuel : Nat) : Ex → St → Option α := contAt (Fz22.E fFz17) fuel [true, true, false, true, false] (bodyOf Tryd.f15) Fz22.ann [] (finK TT 1 [some 0] Tryd.f15 [] K)
noncomputable def Fz22.ex1_0 (e0 : TypeId) (p1_0 : (List (Int × Int))) (x1 : (ByteArray × Int)) : St := { slots := mkSlots 34 [(0, .sl 0 [] none), (3, .val .str x1.1), (4, .val (.int .i64) x1.2), (5, .val (.int .i64) x1.2), (6, .sl 0 [] none), (7, .val (.int .i64) (((List.length p1_0) : Nat) : Int)), (8, .val .bool ((decide (x1.2 < (((List.length p1_0) : Nat) : Int)))))], objs := mkObjs 69 [(0, .dat ⟨e0, (.st (.pair (.int .i8) (.int .i8))), p1_0, false, false, none⟩)] }
noncomputable def Fz22.B1 {α : Type} (fFz17 : Fz17.A → Option Fz17.B) (p1_0 : (List (Int × Int))) (K0 : (ByteArray × Int) → Option α) (rec : (ByteArray × Int) → Option α) (x1 : (ByteArray × Int)) : Option α :=
  cond (decide (x1.2 < (((List.length p1_0) : Nat) : Int))) (cond (decide (x1.2 > (0 : Int))) (cond (decide (ByteArray.size x1.1 + ByteArray.size (bytesOf [32]) ≤ LIM)) (cond (inB x1.2 (List.length p1_0)) ((fFz17 (IntKind.i64.wrap (List.getD p1_0 (x1.2 : Int).toNat ((0 : Int), (0 : Int))).1)).bind fun r1001 => cond (decide (ByteArray.size r1001 + ByteArray.size (bytesOf [45]) ≤ LIM)) (cond (inB x1.2 (List.length p1_0)) ((fFz17 (IntKind.i64.wrap (List.getD p1_0 (x1.2 : Int).toNat ((0 : Int), (0 : Int))).2)).bind fun r1002 => cond (decide (ByteArray.size (r1001 ++ (bytesOf [45])) + ByteArray.size r1002 ≤ LIM)) (cond (decide (ByteArray.size (x1.1 ++ (bytesOf [32])) + ByteArray.size ((r1001 ++ (bytesOf [45])) ++ r1002) ≤ LIM)) (rec ((((x1.1 ++ (bytesOf [32])) ++ ((r1001 ++ (bytesOf [45])) ++ r1002)), (IntKind.i64.wrap (x1.2 + (1 : Int)))))) none) none) none) none) none) none) (cond (inB x1.2 (List.length p1_0)) ((fFz17 (IntKind.i64.wrap (List.getD p1_0 (x1.2 : Int).toNat ((0 : Int), (0 : Int))).1)).bind fun r1001 => cond (decide (ByteArray.size r1001 + ByteArray.size (bytesOf [45]) ≤ LIM)) (cond (inB x1.2 (List.length p1_0)) ((fFz17 (IntKind.i64.wrap (List.getD p1_0 (x1.2 : Int).toNat ((0 : Int), (0 : Int))).2)).bind fun r1002 => cond (decide (ByteArray.size (r1001 ++ (bytesOf [45])) + ByteArray.size r1002 ≤ LIM)) (cond (decide (ByteArray.size x1.1 + ByteArray.size ((r1001 ++ (bytesOf [45])) ++ r1002) ≤ LIM)) (rec (((x1.1 ++ ((r1001 ++ (bytesOf [45])) ++ r1002)), (IntKind.i64.wrap (x1.2 + (1 : Int)))))) none) none) none) none) none)) (K0 x1)
theorem Fz22.step1 {α : Type} (fFz17 : Fz17.A → Option Fz17.B) (fuel : Nat) (cont : Ex → St → Option α) (e0 : TypeId) (p1_0 : (List (Int × Int))) (rec : St → Option α) (x1 : (ByteArray × Int)) : Fz22.LB1 fFz17 fuel cont rec (Fz22.emb1 e0 p1_0 x1) = Fz22.B1 fFz17 p1_0 (fun x1 => cont (.exit 0) (Fz22.ex1_0 e0 p1_0 x1)) (fun y => rec (Fz22.emb1 e0 p1_0 y)) x1 := by kernel_rfl
theorem Fz22.loop1 {α : Type} (fFz17 : Fz17.A → Option Fz17.B) (fuel : Nat) (cont : Ex → St → Option α) (e0 : TypeId) (p1_0 : (List (Int × Int))) (x1 : (ByteArray × Int)) : loopN (Fz22.LB1 fFz17 fuel cont) fuel (Fz22.emb1 e0 p1_0 x1) = iter (Fz22.B1 fFz17 p1_0 (fun x1 => cont (.exit 0) (Fz22.ex1_0 e0 p1_0 x1))) fuel x1 := loop_sim (fun rec x => Fz22.step1 fFz17 fuel cont e0 p1_0 rec x) fuel x1
noncomputable def Fz22.pf {α : Type} (fFz17 : Fz17.A → Option Fz17.B) (fuel : Nat) (a0 : (List (Int × Int))) (k : ByteArray → Option α) : Option α :=
  iter (Fz22.B1 fFz17 a0 (fun (x1 : (ByteArray × Int)) => k x1.1)) fuel ((bytesOf []), (0 : Int))
theorem Fz22.tail1 {α : Type} (fFz17 : Fz17.A → Option Fz17.B) (K : Res → Option α) (fuel : Nat) (e0 : TypeId) (a0 : (List (Int × Int))) (x1 : (ByteArray × Int)) : Fz22.C1 fFz17 K fuel (.exit 0) (Fz22.ex1_0 e0 a0 x1) = ((fun (k : ByteArray → Option α) => k x1.1) (fun r => K (Fz22.enc 0 r))) := by kernel_rfl
theorem Fz22.red_raw {α : Type} (fFz17 : Fz17.A → Option Fz17.B) (K : Res → Option α) (fuel : Nat) (e0 : TypeId) (a0 : (List (Int × Int))) : run TT small (Fz22.tab fFz17) Tryd.f15 Fz22.ann [] fuel [.obj false ⟨e0, (.st (.pair (.int .i8) (.int .i8))), a0⟩] K = loopN (Fz22.LB1 fFz17 fuel (Fz22.C1 fFz17 K fuel)) fuel (Fz22.emb1 e0 a0 ((bytesOf []), (0 : Int))) := by kernel_rfl
theorem Fz22.red {α : Type} (fFz17 : Fz17.A → Option Fz17.B) (K : Res → Option α) (fuel : Nat) (e0 : TypeId) (a0 : (List (Int × Int))) : run TT small (Fz22.tab fFz17) Tryd.f15 Fz22.ann [] fuel [.obj false ⟨e0, (.st (.pair (.int .i8) (.int .i8))), a0⟩] K = Fz22.pf fFz17 fuel a0 (fun r => K (Fz22.enc 0 r)) := by
  rw [Fz22.red_raw]
  simp only [Fz22.loop1, Fz22.tail1]
  all_goals kernel_rfl
theorem Fz22.sound (fFz17 : Fz17.A → Option Fz17.B) (hFz17 : Fz17.S fFz17) (f : Fz22.A → Option Fz22.B) (hf : ∀ x r, f x = some r → ∃ fuel, ∀ k : Fz22.B → Option Res, Fz22.pf fFz17 fuel x k = k r) : Fz22.S f := by
  refine fn_sound (by kernel_rfl) (ttok _) (tab_sound [(27, Fz17.sig fFz17)] (List.forall_mem_cons.2 ⟨hFz17, fun p hp => nomatch hp⟩)) (fn := Tryd.f15) (by kernel_rfl) (by decide) (by decide) Fz22.ann [] _ rfl (fun avs r hr => ?_) (by kernel_rfl)
  obtain ⟨x, y, h1, h2, rfl⟩ := mkSig_run hr
  obtain ⟨e0, rfl⟩ := Fz22.dec_eq h1
  obtain ⟨fuel, hk⟩ := hf x y h2
  exact ⟨fuel, (Fz22.red fFz17 some fuel e0 x).trans (hk (fun r => some (Fz22.enc 0 r)))⟩
theorem Fz22.of_cl {fFz17 : Fz17.A → Option Fz17.B} (hFz17 : Fz17.S fFz17) {P : Fz22.A → Prop} {v : Fz22.A → Fz22.B} (hp : ∀ x, P x → ∀ k : Fz22.B → Option Res, Fz22.pf fFz17 BIG x k = k (v x)) : Fz22.S (cl P v) := Fz22.sound _ hFz17 _ (fun x r hr => by obtain ⟨h1, rfl⟩ := cl_some hr; exact ⟨BIG, hp x h1⟩)
theorem Fz22.of_tot {fFz17 : Fz17.A → Option Fz17.B} (hFz17 : Fz17.S fFz17) {v : Fz22.A → Fz22.B} (hp : ∀ x, ∀ k : Fz22.B → Option Res, Fz22.pf fFz17 BIG x k = k (v x)) : Fz22.S (tot v) := Fz22.sound _ hFz17 _ (fun x r hr => by obtain rfl := Option.some.inj hr; exact ⟨BIG, hp x⟩)
/-! 6 spec_SwapsText -/
noncomputable def Fz18.tab (fFz21 : Fz21.A → Option Fz21.B) (fFz22 : Fz22.A → Option Fz22.B) : FuncId → Option Sig := tabOf [(14, Fz21.sig fFz21), (15, Fz22.sig fFz22)]
noncomputable def Fz18.E (fFz21 : Fz21.A → Option Fz21.B) (fFz22 : Fz22.A → Option Fz22.B) : Env := ⟨TT, small, Fz18.tab fFz21 fFz22, 1, 21⟩
def Fz18.ann : Ann := (.two .nil (.two (.two .nil (.one (.loop [0, 3] .nil))) .nil))
noncomputable def Fz18.emb1 (e0 : TypeId) (p1_0 : (List (Int × Int))) (x1 : Int) : St := { slots := mkSlots 21 [(0, .sl 0 [] none), (3, .val (.int .i64) x1)], objs := mkObjs 43 [(0, .dat ⟨e0, (.st (.pair (.int .i8) (.int .i8))), p1_0, false, false, none⟩)] }
noncomputable def Fz18.LB1 {α : Type} (fFz21 : Fz21.A → Option Fz21.B) (fFz22 : Fz22.A → Option Fz22.B) (fuel : Nat) (cont : Ex → St → Option α) : (St → Option α) → St → Option α := roundV (Fz18.E fFz21 fFz22) fuel [true, false, true, false] (bodyOf Tryd.f6) Fz18.ann cont
noncomputable def Fz18.C1 {α : Type} (fFz21 : Fz21.A → Option Fz21.B) (fFz22 : Fz22.A → Option Fz22.B) (K : Res → Option α) (fuel : Nat) : Ex → St → Option α := contAt (Fz18.E fFz21 fFz22) fuel [true, false, true, false] (bodyOf Tryd.f6) Fz18.ann [] (finK TT 1 [some 0] Tryd.f6 [] K)
noncomputable def Fz18.ex1_0 (e0 : TypeId) (p1_0 : (List (Int × Int))) (x1 : Int) (r1001 : Bool) : St := { slots := mkSlots 21 [(0, .sl 0 [] none), (2, .val .str (bytesOf [])), (3, .val (.int .i64) x1), (4, .val (.int .i64) x1), (5, .sl 0 [] none), (6, .val (.int .i64) (((List.length p1_0) : Nat) : Int)), (7, .val .bool ((decide (x1 < (((List.length p1_0) : Nat) : Int))))), (10, .sl 0 [] none), (11, .val (.int .i64) x1), (12, .ptr 0 [.idx (x1 : Int).toNat] false), (13, .val (.st (.pair (.int .i8) (.int .i8))) (List.getD p1_0 (x1 : Int).toNat ((0 : Int), (0 : Int)))), (14, .val .bool r1001), (15, .val .bool (!r1001))], objs := mkObjs 43 [(0, .dat ⟨e0, (.st (.pair (.int .i8) (.int .i8))), p1_0, false, false, none⟩)] }
noncomputable def Fz18.ex1_1 (e0 : TypeId) (p1_0 : (List (Int × Int))) (x1 : Int) : St := { slots := mkSlots 21 [(0, .sl 0 [] none), (3, .val (.int .i64) x1), (4, .val (.int .i64) x1), (5, .sl 0 [] none), (6, .val (.int .i64) (((List.length p1_0) : Nat) : Int)), (7, .val .bool ((decide (x1 < (((List.length p1_0) : Nat) : Int)))))], objs := mkObjs 43 [(0, .dat ⟨e0, (.st (.pair (.int .i8) (.int .i8))), p1_0, false, false, none⟩)] }
noncomputable def Fz18.B1 {α : Type} (fFz21 : Fz21.A → Option Fz21.B) (p1_0 : (List (Int × Int))) (K0 : Int → Bool → Option α) (K1 : Int → Option α) (rec : Int → Option α) (x1 : Int) : Option α :=
  cond (decide (x1 < (((List.length p1_0) : Nat) : Int))) (cond (inB x1 (List.length p1_0)) ((fFz21 (List.getD p1_0 (x1 : Int).toNat ((0 : Int), (0 : Int)))).bind fun r1001 => cond (!r1001) (K0 x1 r1001) (rec (IntKind.i64.wrap (x1 + (1 : Int))))) none) (K1 x1)
theorem Fz18.step1 {α : Type} (fFz21 : Fz21.A → Option Fz21.B) (fFz22 : Fz22.A → Option Fz22.B) (fuel : Nat) (cont : Ex → St → Option α) (e0 : TypeId) (p1_0 : (List (Int × Int))) (rec : St → Option α) (x1 : Int) : Fz18.LB1 fFz21 fFz22 fuel cont rec (Fz18.emb1 e0 p1_0 x1) = Fz18.B1 fFz21 p1_0 (fun x1 r1001 => cont .ret (Fz18.ex1_0 e0 p1_0 x1 r1001)) (fun x1 => cont (.exit 0) (Fz18.ex1_1 e0 p1_0 x1)) (fun y => rec (Fz18.emb1 e0 p1_0 y)) x1 := by kernel_rfl
theorem Fz18.loop1 {α : Type} (fFz21 : Fz21.A → Option Fz21.B) (fFz22 : Fz22.A → Option Fz22.B) (fuel : Nat) (cont : Ex → St → Option α) (e0 : TypeId) (p1_0 : (List (Int × Int))) (x1 : Int) : loopN (Fz18.LB1 fFz21 fFz22 fuel cont) fuel (Fz18.emb1 e0 p1_0 x1) = iter (Fz18.B1 fFz21 p1_0 (fun x1 r1001 => cont .ret (Fz18.ex1_0 e0 p1_0 x1 r1001)) (fun x1 => cont (.exit 0) (Fz18.ex1_1 e0 p1_0 x1))) fuel x1 := loop_sim (fun rec x => Fz18.step1 fFz21 fFz22 fuel cont e0 p1_0 rec x) fuel x1
noncomputable def Fz18.pf {α : Type} (fFz21 : Fz21.A → Option Fz21.B) (fFz22 : Fz22.A → Option Fz22.B) (fuel : Nat) (a0 : (List (Int × Int))) (k : ByteArray → Option α) : Option α :=
  iter (Fz18.B1 fFz21 a0 (fun (x1 : Int) (r1001 : Bool) => k (bytesOf [])) (fun (x1 : Int) => cond (decide ((((List.length a0) : Nat) : Int) > (60 : Int))) (k (bytesOf [])) ((fFz22 a0).bind fun r1 => k r1))) fuel (0 : Int)
theorem Fz18.tail1 {α : Type} (fFz21 : Fz21.A → Option Fz21.B) (fFz22 : Fz22.A → Option Fz22.B) (K : Res → Option α) (fuel : Nat) (e0 : TypeId) (a0 : (List (Int × Int))) (x1 : Int) (r1001 : Bool) : Fz18.C1 fFz21 fFz22 K fuel .ret (Fz18.ex1_0 e0 a0 x1 r1001) = ((fun (k : ByteArray → Option α) => k (bytesOf [])) (fun r => K (Fz18.enc 0 r))) := by kernel_rfl
theorem Fz18.tail2 {α : Type} (fFz21 : Fz21.A → Option Fz21.B) (fFz22 : Fz22.A → Option Fz22.B) (K : Res → Option α) (fuel : Nat) (e0 : TypeId) (a0 : (List (Int × Int))) (x1 : Int) : Fz18.C1 fFz21 fFz22 K fuel (.exit 0) (Fz18.ex1_1 e0 a0 x1) = ((fun (k : ByteArray → Option α) => cond (decide ((((List.length a0) : Nat) : Int) > (60 : Int))) (k (bytesOf [])) ((fFz22 a0).bind fun r1 => k r1)) (fun r => K (Fz18.enc 0 r))) := by kernel_rfl
theorem Fz18.red_raw {α : Type} (fFz21 : Fz21.A → Option Fz21.B) (fFz22 : Fz22.A → Option Fz22.B) (K : Res → Option α) (fuel : Nat) (e0 : TypeId) (a0 : (List (Int × Int))) : run TT small (Fz18.tab fFz21 fFz22) Tryd.f6 Fz18.ann [] fuel [.obj false ⟨e0, (.st (.pair (.int .i8) (.int .i8))), a0⟩] K = loopN (Fz18.LB1 fFz21 fFz22 fuel (Fz18.C1 fFz21 fFz22 K fuel)) fuel (Fz18.emb1 e0 a0 (0 : Int)) := by kernel_rfl
theorem Fz18.red {α : Type} (fFz21 : Fz21.A → Option Fz21.B) (fFz22 : Fz22.A → Option Fz22.B) (K : Res → Option α) (fuel : Nat) (e0 : TypeId) (a0 : (List (Int × Int))) : run TT small (Fz18.tab fFz21 fFz22) Tryd.f6 Fz18.ann [] fuel [.obj false ⟨e0, (.st (.pair (.int .i8) (.int .i8))), a0⟩] K = Fz18.pf fFz21 fFz22 fuel a0 (fun r => K (Fz18.enc 0 r)) := by
  rw [Fz18.red_raw]
  simp only [Fz18.loop1, Fz18.tail1, Fz18.tail2]
  all_goals kernel_rfl
theorem Fz18.sound (fFz21 : Fz21.A → Option Fz21.B) (fFz22 : Fz22.A → Option Fz22.B) (hFz21 : Fz21.S fFz21) (hFz22 : Fz22.S fFz22) (f : Fz18.A → Option Fz18.B) (hf : ∀ x r, f x = some r → ∃ fuel, ∀ k : Fz18.B → Option Res, Fz18.pf fFz21 fFz22 fuel x k = k r) : Fz18.S f := by
  refine fn_sound (by kernel_rfl) (ttok _) (tab_sound [(14, Fz21.sig fFz21), (15, Fz22.sig fFz22)] (List.forall_mem_cons.2 ⟨hFz21, List.forall_mem_cons.2 ⟨hFz22, fun p hp => nomatch hp⟩⟩)) (fn := Tryd.f6) (by kernel_rfl) (by decide) (by decide) Fz18.ann [] _ rfl (fun avs r hr => ?_) (by kernel_rfl)
  obtain ⟨x, y, h1, h2, rfl⟩ := mkSig_run hr
  obtain ⟨e0, rfl⟩ := Fz18.dec_eq h1
  obtain ⟨fuel, hk⟩ := hf x y h2
  exact ⟨fuel, (Fz18.red fFz21 fFz22 some fuel e0 x).trans (hk (fun r => some (Fz18.enc 0 r)))⟩
theorem Fz18.of_cl {fFz21 : Fz21.A → Option Fz21.B} {fFz22 : Fz22.A → Option Fz22.B} (hFz21 : Fz21.S fFz21) (hFz22 : Fz22.S fFz22) {P : Fz18.A → Prop} {v : Fz18.A → Fz18.B} (hp : ∀ x, P x → ∀ k : Fz18.B → Option Res, Fz18.pf fFz21 fFz22 BIG x k = k (v x)) : Fz18.S (cl P v) := Fz18.sound _ _ hFz21 hFz22 _ (fun x r hr => by obtain ⟨h1, rfl⟩ := cl_some hr; exact ⟨BIG, hp x h1⟩)
theorem Fz18.of_tot {fFz21 : Fz21.A → Option Fz21.B} {fFz22 : Fz22.A → Option Fz22.B} (hFz21 : Fz21.S fFz21) (hFz22 : Fz22.S fFz22) {v : Fz18.A → Fz18.B} (hp : ∀ x, ∀ k : Fz18.B → Option Res, Fz18.pf fFz21 fFz22 BIG x k = k (v x)) : Fz18.S (tot v) := Fz18.sound _ _ hFz21 hFz22 _ (fun x r hr => by obtain rfl := Option.some.inj hr; exact ⟨BIG, hp x⟩)
/-! 39 impl_within -/
noncomputable def Fz6.tab : FuncId → Option Sig := tabOf []
noncomputable def Fz6.E : Env := ⟨TT, small, Fz6.tab , 0, 15⟩
def Fz6.ann : Ann := .nil
noncomputable def Fz6.pf {α : Type} (fuel : Nat) (a0 : Int) (a1 : Int) (a2 : Int) (k : Bool → Option α) : Option α :=
  cond (decide (a1 ≤ a0)) (k (decide (a0 ≤ a2))) (k false)
theorem Fz6.red {α : Type} (K : Res → Option α) (fuel : Nat) (a0 : Int) (a1 : Int) (a2 : Int) : run TT small Fz6.tab Tryd.f39 Fz6.ann [] fuel [.val (.int .i64) a0, .val (.int .i64) a1, .val (.int .i64) a2] K = Fz6.pf fuel a0 a1 a2 (fun r => K (Fz6.enc 0 r)) := by kernel_rfl
theorem Fz6.sound (f : Fz6.A → Option Fz6.B) (hf : ∀ x r, f x = some r → ∃ fuel, ∀ k : Fz6.B → Option Res, Fz6.pf fuel x.1 x.2.1 x.2.2 k = k r) : Fz6.S f := by
  refine fn_sound (by kernel_rfl) (ttok _) (tab_sound [] (fun p hp => nomatch hp)) (fn := Tryd.f39) (by kernel_rfl) (by decide) (by decide) Fz6.ann [] _ rfl (fun avs r hr => ?_) (by kernel_rfl)
  obtain ⟨x, y, h1, h2, rfl⟩ := mkSig_run hr
  obtain rfl := Fz6.dec_eq h1
  obtain ⟨fuel, hk⟩ := hf x y h2
  exact ⟨fuel, (Fz6.red some fuel x.1 x.2.1 x.2.2).trans (hk (fun r => some (Fz6.enc 0 r)))⟩
theorem Fz6.of_cl {P : Fz6.A → Prop} {v : Fz6.A → Fz6.B} (hp : ∀ x, P x → ∀ k : Fz6.B → Option Res, Fz6.pf BIG x.1 x.2.1 x.2.2 k = k (v x)) : Fz6.S (cl P v) := Fz6.sound  _ (fun x r hr => by obtain ⟨h1, rfl⟩ := cl_some hr; exact ⟨BIG, hp x h1⟩)
theorem Fz6.of_tot {v : Fz6.A → Fz6.B} (hp : ∀ x, ∀ k : Fz6.B → Option Res, Fz6.pf BIG x.1 x.2.1 x.2.2 k = k (v x)) : Fz6.S (tot v) := Fz6.sound  _ (fun x r hr => by obtain rfl := Option.some.inj hr; exact ⟨BIG, hp x⟩)
/-! 41 impl_isPlace -/
noncomputable def Fz2.tab (fFz6 : Fz6.A → Option Fz6.B) : FuncId → Option Sig := tabOf [(39, Fz6.sig fFz6)]
noncomputable def Fz2.E (fFz6 : Fz6.A → Option Fz6.B) : Env := ⟨TT, small, Fz2.tab fFz6, 0, 5⟩
def Fz2.ann : Ann := .nil
noncomputable def Fz2.pf {α : Type} (fFz6 : Fz6.A → Option Fz6.B) (fuel : Nat) (a0 : Int) (k : Bool → Option α) : Option α :=
  (fFz6 (a0, (0 : Int), (11 : Int))).bind fun r1 => k r1
theorem Fz2.red {α : Type} (fFz6 : Fz6.A → Option Fz6.B) (K : Res → Option α) (fuel : Nat) (a0 : Int) : run TT small (Fz2.tab fFz6) Tryd.f41 Fz2.ann [] fuel [.val (.int .i64) a0] K = Fz2.pf fFz6 fuel a0 (fun r => K (Fz2.enc 0 r)) := by kernel_rfl
theorem Fz2.sound (fFz6 : Fz6.A → Option Fz6.B) (hFz6 : Fz6.S fFz6) (f : Fz2.A → Option Fz2.B) (hf : ∀ x r, f x = some r → ∃ fuel, ∀ k : Fz2.B → Option Res, Fz2.pf fFz6 fuel x k = k r) : Fz2.S f := by
  refine fn_sound (by kernel_rfl) (ttok _) (tab_sound [(39, Fz6.sig fFz6)] (List.forall_mem_cons.2 ⟨hFz6, fun p hp => nomatch hp⟩)) (fn := Tryd.f41) (by kernel_rfl) (by decide) (by decide) Fz2.ann [] _ rfl (fun avs r hr => ?_) (by kernel_rfl)
  obtain ⟨x, y, h1, h2, rfl⟩ := mkSig_run hr
  obtain rfl := Fz2.dec_eq h1
  obtain ⟨fuel, hk⟩ := hf x y h2
  exact ⟨fuel, (Fz2.red fFz6 some fuel x).trans (hk (fun r => some (Fz2.enc 0 r)))⟩
theorem Fz2.of_cl {fFz6 : Fz6.A → Option Fz6.B} (hFz6 : Fz6.S fFz6) {P : Fz2.A → Prop} {v : Fz2.A → Fz2.B} (hp : ∀ x, P x → ∀ k : Fz2.B → Option Res, Fz2.pf fFz6 BIG x k = k (v x)) : Fz2.S (cl P v) := Fz2.sound _ hFz6 _ (fun x r hr => by obtain ⟨h1, rfl⟩ := cl_some hr; exact ⟨BIG, hp x h1⟩)
theorem Fz2.of_tot {fFz6 : Fz6.A → Option Fz6.B} (hFz6 : Fz6.S fFz6) {v : Fz2.A → Fz2.B} (hp : ∀ x, ∀ k : Fz2.B → Option Res, Fz2.pf fFz6 BIG x k = k (v x)) : Fz2.S (tot v) := Fz2.sound _ hFz6 _ (fun x r hr => by obtain rfl := Option.some.inj hr; exact ⟨BIG, hp x⟩)
/-! 30 impl_isSwap -/
noncomputable def Fz3.tab (fFz2 : Fz2.A → Option Fz2.B) : FuncId → Option Sig := tabOf [(41, Fz2.sig fFz2)]
noncomputable def Fz3.E (fFz2 : Fz2.A → Option Fz2.B) : Env := ⟨TT, small, Fz3.tab fFz2, 0, 13⟩
def Fz3.ann : Ann := .nil
noncomputable def Fz3.pf {α : Type} (fFz2 : Fz2.A → Option Fz2.B) (fuel : Nat) (a0 : (Int × Int)) (k : Bool → Option α) : Option α :=
  (fFz2 (IntKind.i64.wrap a0.1)).bind fun r1 => cond r1 ((fFz2 (IntKind.i64.wrap a0.2)).bind fun r2 => k r2) (k false)
theorem Fz3.red {α : Type} (fFz2 : Fz2.A → Option Fz2.B) (K : Res → Option α) (fuel : Nat) (a0 : (Int × Int)) : run TT small (Fz3.tab fFz2) Tryd.f30 Fz3.ann [] fuel [.val (.st (.pair (.int .i8) (.int .i8))) a0] K = Fz3.pf fFz2 fuel a0 (fun r => K (Fz3.enc 0 r)) := by kernel_rfl
theorem Fz3.sound (fFz2 : Fz2.A → Option Fz2.B) (hFz2 : Fz2.S fFz2) (f : Fz3.A → Option Fz3.B) (hf : ∀ x r, f x = some r → ∃ fuel, ∀ k : Fz3.B → Option Res, Fz3.pf fFz2 fuel x k = k r) : Fz3.S f := by
  refine fn_sound (by kernel_rfl) (ttok _) (tab_sound [(41, Fz2.sig fFz2)] (List.forall_mem_cons.2 ⟨hFz2, fun p hp => nomatch hp⟩)) (fn := Tryd.f30) (by kernel_rfl) (by decide) (by decide) Fz3.ann [] _ rfl (fun avs r hr => ?_) (by kernel_rfl)
  obtain ⟨x, y, h1, h2, rfl⟩ := mkSig_run hr
  obtain rfl := Fz3.dec_eq h1
  obtain ⟨fuel, hk⟩ := hf x y h2
  exact ⟨fuel, (Fz3.red fFz2 some fuel x).trans (hk (fun r => some (Fz3.enc 0 r)))⟩
theorem Fz3.of_cl {fFz2 : Fz2.A → Option Fz2.B} (hFz2 : Fz2.S fFz2) {P : Fz3.A → Prop} {v : Fz3.A → Fz3.B} (hp : ∀ x, P x → ∀ k : Fz3.B → Option Res, Fz3.pf fFz2 BIG x k = k (v x)) : Fz3.S (cl P v) := Fz3.sound _ hFz2 _ (fun x r hr => by obtain ⟨h1, rfl⟩ := cl_some hr; exact ⟨BIG, hp x h1⟩)
theorem Fz3.of_tot {fFz2 : Fz2.A → Option Fz2.B} (hFz2 : Fz2.S fFz2) {v : Fz3.A → Fz3.B} (hp : ∀ x, ∀ k : Fz3.B → Option Res, Fz3.pf fFz2 BIG x k = k (v x)) : Fz3.S (tot v) := Fz3.sound _ hFz2 _ (fun x r hr => by obtain rfl := Option.some.inj hr; exact ⟨BIG, hp x⟩)
/-! 29 impl_swapCode_1 -/
noncomputable def Fz5.tab (fFz3 : Fz3.A → Option Fz3.B) : FuncId → Option Sig := tabOf [(30, Fz3.sig fFz3)]
noncomputable def Fz5.E (fFz3 : Fz3.A → Option Fz3.B) : Env := ⟨TT, small, Fz5.tab fFz3, 0, 6⟩
def Fz5.ann : Ann := .nil
noncomputable def Fz5.pf {α : Type} (fFz3 : Fz3.A → Option Fz3.B) (fuel : Nat) (a0 : (Int × Int)) (k : Bool → Option α) : Option α :=
  (fFz3 a0).bind fun r1 => k (!r1)
theorem Fz5.red {α : Type} (fFz3 : Fz3.A → Option Fz3.B) (K : Res → Option α) (fuel : Nat) (a0 : (Int × Int)) : run TT small (Fz5.tab fFz3) Tryd.f29 Fz5.ann [] fuel [.val (.st (.pair (.int .i8) (.int .i8))) a0] K = Fz5.pf fFz3 fuel a0 (fun r => K (Fz5.enc 0 r)) := by kernel_rfl
theorem Fz5.sound (fFz3 : Fz3.A → Option Fz3.B) (hFz3 : Fz3.S fFz3) (f : Fz5.A → Option Fz5.B) (hf : ∀ x r, f x = some r → ∃ fuel, ∀ k : Fz5.B → Option Res, Fz5.pf fFz3 fuel x k = k r) : Fz5.S f := by
  refine fn_sound (by kernel_rfl) (ttok _) (tab_sound [(30, Fz3.sig fFz3)] (List.forall_mem_cons.2 ⟨hFz3, fun p hp => nomatch hp⟩)) (fn := Tryd.f29) (by kernel_rfl) (by decide) (by decide) Fz5.ann [] _ rfl (fun avs r hr => ?_) (by kernel_rfl)
  obtain ⟨x, y, h1, h2, rfl⟩ := mkSig_run hr
  obtain rfl := Fz5.dec_eq h1
  obtain ⟨fuel, hk⟩ := hf x y h2
  exact ⟨fuel, (Fz5.red fFz3 some fuel x).trans (hk (fun r => some (Fz5.enc 0 r)))⟩
theorem Fz5.of_cl {fFz3 : Fz3.A → Option Fz3.B} (hFz3 : Fz3.S fFz3) {P : Fz5.A → Prop} {v : Fz5.A → Fz5.B} (hp : ∀ x, P x → ∀ k : Fz5.B → Option Res, Fz5.pf fFz3 BIG x k = k (v x)) : Fz5.S (cl P v) := Fz5.sound _ hFz3 _ (fun x r hr => by obtain ⟨h1, rfl⟩ := cl_some hr; exact ⟨BIG, hp x h1⟩)
theorem Fz5.of_tot {fFz3 : Fz3.A → Option Fz3.B} (hFz3 : Fz3.S fFz3) {v : Fz5.A → Fz5.B} (hp : ∀ x, ∀ k : Fz5.B → Option Res, Fz5.pf fFz3 BIG x k = k (v x)) : Fz5.S (tot v) := Fz5.sound _ hFz3 _ (fun x r hr => by obtain rfl := Option.some.inj hr; exact ⟨BIG, hp x⟩)
/-! 40 slices_IndexFunc_impl_Swap_impl_Swap__impl_swapCode_1 -/
noncomputable def Fz16.tab (fFz5 : Fz5.A → Option Fz5.B) : FuncId → Option Sig := tabOf [(29, Fz5.sig fFz5)]
noncomputable def Fz16.E (fFz5 : Fz5.A → Option Fz5.B) : Env := ⟨TT, small, Fz16.tab fFz5, 1, 19⟩
def Fz16.ann : Ann := (.two .nil (.two (.two .nil (.one (.loop [0, 1, 7, 8] .nil))) .nil))
noncomputable def Fz16.emb1 (e0 : TypeId) (p1_0 : Int) (p1_1 : (List (Int × Int))) (x1 : Int) : St := { slots := mkSlots 19 [(0, .sl 0 [] none), (1, .fn 29 []), (7, .val (.int .i64) p1_0), (8, .val (.int .i64) x1)], objs := mkObjs 39 [(0, .dat ⟨e0, (.st (.pair (.int .i8) (.int .i8))), p1_1, false, false, none⟩)] }
noncomputable def Fz16.LB1 {α : Type} (fFz5 : Fz5.A → Option Fz5.B) (fuel : Nat) (cont : Ex → St → Option α) : (St → Option α) → St → Option α := roundV (Fz16.E fFz5) fuel [true, false, true, false] (bodyOf Tryd.f40) Fz16.ann cont
noncomputable def Fz16.C1 {α : Type} (fFz5 : Fz5.A → Option Fz5.B) (K : Res → Option α) (fuel : Nat) : Ex → St → Option α := contAt (Fz16.E fFz5) fuel [true, false, true, false] (bodyOf Tryd.f40) Fz16.ann [] (finK TT 1 [some 0, none] Tryd.f40 [] K)
noncomputable def Fz16.ex1_0 (e0 : TypeId) (p1_0 : Int) (p1_1 : (List (Int × Int))) (x1 : Int) (r1001 : Bool) : St := { slots := mkSlots 19 [(0, .sl 0 [] none), (1, .fn 29 []), (4, .val (.int .i64) x1), (5, .val (.int .i64) x1), (7, .val (.int .i64) p1_0), (8, .val (.int .i64) x1), (9, .val .bool (decide (x1 < p1_0))), (10, .val (.int .i64) x1), (11, .fn 29 []), (12, .sl 0 [] none), (13, .val (.int .i64) x1), (14, .ptr 0 [.idx (x1 : Int).toNat] false), (15, .val (.st (.pair (.int .i8) (.int .i8))) (List.getD p1_1 (x1 : Int).toNat ((0 : Int), (0 : Int)))), (16, .val .bool r1001), (17, .val (.int .i64) x1)], objs := mkObjs 39 [(0, .dat ⟨e0, (.st (.pair (.int .i8) (.int .i8))), p1_1, false, false, none⟩)] }
noncomputable def Fz16.ex1_1 (e0 : TypeId) (p1_0 : Int) (p1_1 : (List (Int × Int))) (x1 : Int) : St := { slots := mkSlots 19 [(0, .sl 0 [] none), (1, .fn 29 []), (7, .val (.int .i64) p1_0), (8, .val (.int .i64) x1), (9, .val .bool (decide (x1 < p1_0)))], objs := mkObjs 39 [(0, .dat ⟨e0, (.st (.pair (.int .i8) (.int .i8))), p1_1, false, false, none⟩)] }
noncomputable def Fz16.B1 {α : Type} (fFz5 : Fz5.A → Option Fz5.B) (p1_0 : Int) (p1_1 : (List (Int × Int))) (K0 : Int → Bool → Option α) (K1 : Int → Option α) (rec : Int → Option α) (x1 : Int) : Option α :=
  cond (decide (x1 < p1_0)) (cond (inB x1 (List.length p1_1)) ((fFz5 (List.getD p1_1 (x1 : Int).toNat ((0 : Int), (0 : Int)))).bind fun r1001 => cond r1001 (K0 x1 r1001) (rec (IntKind.i64.wrap (x1 + (1 : Int))))) none) (K1 x1)
theorem Fz16.step1 {α : Type} (fFz5 : Fz5.A → Option Fz5.B) (fuel : Nat) (cont : Ex → St → Option α) (e0 : TypeId) (p1_0 : Int) (p1_1 : (List (Int × Int))) (rec : St → Option α) (x1 : Int) : Fz16.LB1 fFz5 fuel cont rec (Fz16.emb1 e0 p1_0 p1_1 x1) = Fz16.B1 fFz5 p1_0 p1_1 (fun x1 r1001 => cont .ret (Fz16.ex1_0 e0 p1_0 p1_1 x1 r1001)) (fun x1 => cont (.exit 0) (Fz16.ex1_1 e0 p1_0 p1_1 x1)) (fun y => rec (Fz16.emb1 e0 p1_0 p1_1 y)) x1 := by kernel_rfl
theorem Fz16.loop1 {α : Type} (fFz5 : Fz5.A → Option Fz5.B) (fuel : Nat) (cont : Ex → St → Option α) (e0 : TypeId) (p1_0 : Int) (p1_1 : (List (Int × Int))) (x1 : Int) : loopN (Fz16.LB1 fFz5 fuel cont) fuel (Fz16.emb1 e0 p1_0 p1_1 x1) = iter (Fz16.B1 fFz5 p1_0 p1_1 (fun x1 r1001 => cont .ret (Fz16.ex1_0 e0 p1_0 p1_1 x1 r1001)) (fun x1 => cont (.exit 0) (Fz16.ex1_1 e0 p1_0 p1_1 x1))) fuel x1 := loop_sim (fun rec x => Fz16.step1 fFz5 fuel cont e0 p1_0 p1_1 rec x) fuel x1
noncomputable def Fz16.pf {α : Type} (fFz5 : Fz5.A → Option Fz5.B) (fuel : Nat) (a0 : (List (Int × Int))) (k : Int → Option α) : Option α :=
  iter (Fz16.B1 fFz5 (((List.length a0) : Nat) : Int) a0 (fun (x1 : Int) (r1001 : Bool) => k x1) (fun (x1 : Int) => k (-1 : Int))) fuel (0 : Int)
theorem Fz16.tail1 {α : Type} (fFz5 : Fz5.A → Option Fz5.B) (K : Res → Option α) (fuel : Nat) (e0 : TypeId) (a0 : (List (Int × Int))) (x1 : Int) (r1001 : Bool) : Fz16.C1 fFz5 K fuel .ret (Fz16.ex1_0 e0 (((List.length a0) : Nat) : Int) a0 x1 r1001) = ((fun (k : Int → Option α) => k x1) (fun r => K (Fz16.enc 0 r))) := by kernel_rfl
theorem Fz16.tail2 {α : Type} (fFz5 : Fz5.A → Option Fz5.B) (K : Res → Option α) (fuel : Nat) (e0 : TypeId) (a0 : (List (Int × Int))) (x1 : Int) : Fz16.C1 fFz5 K fuel (.exit 0) (Fz16.ex1_1 e0 (((List.length a0) : Nat) : Int) a0 x1) = ((fun (k : Int → Option α) => k (-1 : Int)) (fun r => K (Fz16.enc 0 r))) := by kernel_rfl
theorem Fz16.red_raw {α : Type} (fFz5 : Fz5.A → Option Fz5.B) (K : Res → Option α) (fuel : Nat) (e0 : TypeId) (a0 : (List (Int × Int))) : run TT small (Fz16.tab fFz5) Tryd.f40 Fz16.ann [] fuel [.obj false ⟨e0, (.st (.pair (.int .i8) (.int .i8))), a0⟩, .fn 29 []] K = loopN (Fz16.LB1 fFz5 fuel (Fz16.C1 fFz5 K fuel)) fuel (Fz16.emb1 e0 (((List.length a0) : Nat) : Int) a0 (0 : Int)) := by kernel_rfl
theorem Fz16.red {α : Type} (fFz5 : Fz5.A → Option Fz5.B) (K : Res → Option α) (fuel : Nat) (e0 : TypeId) (a0 : (List (Int × Int))) : run TT small (Fz16.tab fFz5) Tryd.f40 Fz16.ann [] fuel [.obj false ⟨e0, (.st (.pair (.int .i8) (.int .i8))), a0⟩, .fn 29 []] K = Fz16.pf fFz5 fuel a0 (fun r => K (Fz16.enc 0 r)) := by
  rw [Fz16.red_raw]
  simp only [Fz16.loop1, Fz16.tail1, Fz16.tail2]
  all_goals kernel_rfl
theorem Fz16.sound (fFz5 : Fz5.A → Option Fz5.B) (hFz5 : Fz5.S fFz5) (f : Fz16.A → Option Fz16.B) (hf : ∀ x r, f x = some r → ∃ fuel, ∀ k : Fz16.B → Option Res, Fz16.pf fFz5 fuel x k = k r) : Fz16.S f := by
  refine fn_sound (by kernel_rfl) (ttok _) (tab_sound [(29, Fz5.sig fFz5)] (List.forall_mem_cons.2 ⟨hFz5, fun p hp => nomatch hp⟩)) (fn := Tryd.f40) (by kernel_rfl) (by decide) (by decide) Fz16.ann [] _ rfl (fun avs r hr => ?_) (by kernel_rfl)
  obtain ⟨x, y, h1, h2, rfl⟩ := mkSig_run hr
  obtain ⟨e0, rfl⟩ := Fz16.dec_eq h1
  obtain ⟨fuel, hk⟩ := hf x y h2
  exact ⟨fuel, (Fz16.red fFz5 some fuel e0 x).trans (hk (fun r => some (Fz16.enc 0 r)))⟩
theorem Fz16.of_cl {fFz5 : Fz5.A → Option Fz5.B} (hFz5 : Fz5.S fFz5) {P : Fz16.A → Prop} {v : Fz16.A → Fz16.B} (hp : ∀ x, P x → ∀ k : Fz16.B → Option Res, Fz16.pf fFz5 BIG x k = k (v x)) : Fz16.S (cl P v) := Fz16.sound _ hFz5 _ (fun x r hr => by obtain ⟨h1, rfl⟩ := cl_some hr; exact ⟨BIG, hp x h1⟩)
theorem Fz16.of_tot {fFz5 : Fz5.A → Option Fz5.B} (hFz5 : Fz5.S fFz5) {v : Fz16.A → Fz16.B} (hp : ∀ x, ∀ k : Fz16.B → Option Res, Fz16.pf fFz5 BIG x k = k (v x)) : Fz16.S (tot v) := Fz16.sound _ hFz5 _ (fun x r hr => by obtain rfl := Option.some.inj hr; exact ⟨BIG, hp x⟩)
/-! 28 slices_ContainsFunc_impl_Swap_impl_Swap__impl_swapCode_1 -/
noncomputable def Fz15.tab (fFz16 : Fz16.A → Option Fz16.B) : FuncId → Option Sig := tabOf [(40, Fz16.sig fFz16)]
noncomputable def Fz15.E (fFz16 : Fz16.A → Option Fz16.B) : Env := ⟨TT, small, Fz15.tab fFz16, 1, 9⟩
def Fz15.ann : Ann := .nil
noncomputable def Fz15.pf {α : Type} (fFz16 : Fz16.A → Option Fz16.B) (fuel : Nat) (a0 : (List (Int × Int))) (k : Bool → Option α) : Option α :=
  (fFz16 a0).bind fun r1 => k (decide (r1 ≥ (0 : Int)))
theorem Fz15.red {α : Type} (fFz16 : Fz16.A → Option Fz16.B) (K : Res → Option α) (fuel : Nat) (e0 : TypeId) (a0 : (List (Int × Int))) : run TT small (Fz15.tab fFz16) Tryd.f28 Fz15.ann [] fuel [.obj false ⟨e0, (.st (.pair (.int .i8) (.int .i8))), a0⟩, .fn 29 []] K = Fz15.pf fFz16 fuel a0 (fun r => K (Fz15.enc 0 r)) := by kernel_rfl
theorem Fz15.sound (fFz16 : Fz16.A → Option Fz16.B) (hFz16 : Fz16.S fFz16) (f : Fz15.A → Option Fz15.B) (hf : ∀ x r, f x = some r → ∃ fuel, ∀ k : Fz15.B → Option Res, Fz15.pf fFz16 fuel x k = k r) : Fz15.S f := by
  refine fn_sound (by kernel_rfl) (ttok _) (tab_sound [(40, Fz16.sig fFz16)] (List.forall_mem_cons.2 ⟨hFz16, fun p hp => nomatch hp⟩)) (fn := Tryd.f28) (by kernel_rfl) (by decide) (by decide) Fz15.ann [] _ rfl (fun avs r hr => ?_) (by kernel_rfl)
  obtain ⟨x, y, h1, h2, rfl⟩ := mkSig_run hr
  obtain ⟨e0, rfl⟩ := Fz15.dec_eq h1
  obtain ⟨fuel, hk⟩ := hf x y h2
  exact ⟨fuel, (Fz15.red fFz16 some fuel e0 x).trans (hk (fun r => some (Fz15.enc 0 r)))⟩
theorem Fz15.of_cl {fFz16 : Fz16.A → Option Fz16.B} (hFz16 : Fz16.S fFz16) {P : Fz15.A → Prop} {v : Fz15.A → Fz15.B} (hp : ∀ x, P x → ∀ k : Fz15.B → Option Res, Fz15.pf fFz16 BIG x k = k (v x)) : Fz15.S (cl P v) := Fz15.sound _ hFz16 _ (fun x r hr => by obtain ⟨h1, rfl⟩ := cl_some hr; exact ⟨BIG, hp x h1⟩)
theorem Fz15.of_tot {fFz16 : Fz16.A → Option Fz16.B} (hFz16 : Fz16.S fFz16) {v : Fz15.A → Fz15.B} (hp : ∀ x, ∀ k : Fz15.B → Option Res, Fz15.pf fFz16 BIG x k = k (v x)) : Fz15.S (tot v) := Fz15.sound _ hFz16 _ (fun x r hr => by obtain rfl := Option.some.inj hr; exact ⟨BIG, hp x⟩)
/-! 17 impl_swapCode -/
noncomputable def Fz4.tab (fFz15 : Fz15.A → Option Fz15.B) : FuncId → Option Sig := tabOf [(28, Fz15.sig fFz15)]
noncomputable def Fz4.E (fFz15 : Fz15.A → Option Fz15.B) : Env := ⟨TT, small, Fz4.tab fFz15, 1, 15⟩
def Fz4.ann : Ann := .nil
noncomputable def Fz4.pf {α : Type} (fFz15 : Fz15.A → Option Fz15.B) (fuel : Nat) (a0 : Bool) (a1 : (List (Int × Int))) (k : Int → Option α) : Option α :=
  cond (!a0) (k (1 : Int)) (cond (decide ((((List.length a1) : Nat) : Int) > (60 : Int))) (k (3 : Int)) ((fFz15 a1).bind fun r1 => cond r1 (k (2 : Int)) (k (0 : Int))))
theorem Fz4.red {α : Type} (fFz15 : Fz15.A → Option Fz15.B) (K : Res → Option α) (fuel : Nat) (e0 : TypeId) (a0 : Bool) (a1 : (List (Int × Int))) : run TT small (Fz4.tab fFz15) Tryd.f17 Fz4.ann [] fuel [.val .bool a0, .obj false ⟨e0, (.st (.pair (.int .i8) (.int .i8))), a1⟩] K = Fz4.pf fFz15 fuel a0 a1 (fun r => K (Fz4.enc 0 r)) := by kernel_rfl
theorem Fz4.sound (fFz15 : Fz15.A → Option Fz15.B) (hFz15 : Fz15.S fFz15) (f : Fz4.A → Option Fz4.B) (hf : ∀ x r, f x = some r → ∃ fuel, ∀ k : Fz4.B → Option Res, Fz4.pf fFz15 fuel x.1 x.2 k = k r) : Fz4.S f := by
  refine fn_sound (by kernel_rfl) (ttok _) (tab_sound [(28, Fz15.sig fFz15)] (List.forall_mem_cons.2 ⟨hFz15, fun p hp => nomatch hp⟩)) (fn := Tryd.f17) (by kernel_rfl) (by decide) (by decide) Fz4.ann [] _ rfl (fun avs r hr => ?_) (by kernel_rfl)
  obtain ⟨x, y, h1, h2, rfl⟩ := mkSig_run hr
  obtain ⟨e0, rfl⟩ := Fz4.dec_eq h1
  obtain ⟨fuel, hk⟩ := hf x y h2
  exact ⟨fuel, (Fz4.red fFz15 some fuel e0 x.1 x.2).trans (hk (fun r => some (Fz4.enc 0 r)))⟩
theorem Fz4.of_cl {fFz15 : Fz15.A → Option Fz15.B} (hFz15 : Fz15.S fFz15) {P : Fz4.A → Prop} {v : Fz4.A → Fz4.B} (hp : ∀ x, P x → ∀ k : Fz4.B → Option Res, Fz4.pf fFz15 BIG x.1 x.2 k = k (v x)) : Fz4.S (cl P v) := Fz4.sound _ hFz15 _ (fun x r hr => by obtain ⟨h1, rfl⟩ := cl_some hr; exact ⟨BIG, hp x h1⟩)
theorem Fz4.of_tot {fFz15 : Fz15.A → Option Fz15.B} (hFz15 : Fz15.S fFz15) {v : Fz4.A → Fz4.B} (hp : ∀ x, ∀ k : Fz4.B → Option Res, Fz4.pf fFz15 BIG x.1 x.2 k = k (v x)) : Fz4.S (tot v) := Fz4.sound _ hFz15 _ (fun x r hr => by obtain rfl := Option.some.inj hr; exact ⟨BIG, hp x⟩)
/-! 51 internal_strconv_small -/
noncomputable def Fz8.tab : FuncId → Option Sig := tabOf []
noncomputable def Fz8.E : Env := ⟨TT, small, Fz8.tab , 0, 15⟩
def Fz8.ann : Ann := .nil
noncomputable def Fz8.pf {α : Type} (fuel : Nat) (a0 : Int) (k : ByteArray → Option α) : Option α :=
  cond (decide (a0 < (10 : Int))) (cond (inW a0 (IntKind.i64.wrap (a0 + (1 : Int))) (ByteArray.size (bytesOf [48, 49, 50, 51, 52, 53, 54, 55, 56, 57, 97, 98, 99, 100, 101, 102, 103, 104, 105, 106, 107, 108, 109, 110, 111, 112, 113, 114, 115, 116, 117, 118, 119, 120, 121, 122]))) (k (ByteArray.extract (bytesOf [48, 49, 50, 51, 52, 53, 54, 55, 56, 57, 97, 98, 99, 100, 101, 102, 103, 104, 105, 106, 107, 108, 109, 110, 111, 112, 113, 114, 115, 116, 117, 118, 119, 120, 121, 122]) (a0 : Int).toNat (IntKind.i64.wrap (a0 + (1 : Int))).toNat)) none) (cond (inW (IntKind.i64.wrap (a0 * (2 : Int))) (IntKind.i64.wrap ((IntKind.i64.wrap (a0 * (2 : Int))) + (2 : Int))) (ByteArray.size (bytesOf [48, 48, 48, 49, 48, 50, 48, 51, 48, 52, 48, 53, 48, 54, 48, 55, 48, 56, 48, 57, 49, 48, 49, 49, 49, 50, 49, 51, 49, 52, 49, 53, 49, 54, 49, 55, 49, 56, 49, 57, 50, 48, 50, 49, 50, 50, 50, 51, 50, 52, 50, 53, 50, 54, 50, 55, 50, 56, 50, 57, 51, 48, 51, 49, 51, 50, 51, 51, 51, 52, 51, 53, 51, 54, 51, 55, 51, 56, 51, 57, 52, 48, 52, 49, 52, 50, 52, 51, 52, 52, 52, 53, 52, 54, 52, 55, 52, 56, 52, 57, 53, 48, 53, 49, 53, 50, 53, 51, 53, 52, 53, 53, 53, 54, 53, 55, 53, 56, 53, 57, 54, 48, 54, 49, 54, 50, 54, 51, 54, 52, 54, 53, 54, 54, 54, 55, 54, 56, 54, 57, 55, 48, 55, 49, 55, 50, 55, 51, 55, 52, 55, 53, 55, 54, 55, 55, 55, 56, 55, 57, 56, 48, 56, 49, 56, 50, 56, 51, 56, 52, 56, 53, 56, 54, 56, 55, 56, 56, 56, 57, 57, 48, 57, 49, 57, 50, 57, 51, 57, 52, 57, 53, 57, 54, 57, 55, 57, 56, 57, 57]))) (k (ByteArray.extract (bytesOf [48, 48, 48, 49, 48, 50, 48, 51, 48, 52, 48, 53, 48, 54, 48, 55, 48, 56, 48, 57, 49, 48, 49, 49, 49, 50, 49, 51, 49, 52, 49, 53, 49, 54, 49, 55, 49, 56, 49, 57, 50, 48, 50, 49, 50, 50, 50, 51, 50, 52, 50, 53, 50, 54, 50, 55, 50, 56, 50, 57, 51, 48, 51, 49, 51, 50, 51, 51, 51, 52, 51, 53, 51, 54, 51, 55, 51, 56, 51, 57, 52, 48, 52, 49, 52, 50, 52, 51, 52, 52, 52, 53, 52, 54, 52, 55, 52, 56, 52, 57, 53, 48, 53, 49, 53, 50, 53, 51, 53, 52, 53, 53, 53, 54, 53, 55, 53, 56, 53, 57, 54, 48, 54, 49, 54, 50, 54, 51, 54, 52, 54, 53, 54, 54, 54, 55, 54, 56, 54, 57, 55, 48, 55, 49, 55, 50, 55, 51, 55, 52, 55, 53, 55, 54, 55, 55, 55, 56, 55, 57, 56, 48, 56, 49, 56, 50, 56, 51, 56, 52, 56, 53, 56, 54, 56, 55, 56, 56, 56, 57, 57, 48, 57, 49, 57, 50, 57, 51, 57, 52, 57, 53, 57, 54, 57, 55, 57, 56, 57, 57]) (IntKind.i64.wrap (a0 * (2 : Int))).toNat (IntKind.i64.wrap ((IntKind.i64.wrap (a0 * (2 : Int))) + (2 : Int))).toNat)) none)
theorem Fz8.red {α : Type} (K : Res → Option α) (fuel : Nat) (a0 : Int) : run TT small Fz8.tab Tryd.f51 Fz8.ann [] fuel [.val (.int .i64) a0] K = Fz8.pf fuel a0 (fun r => K (Fz8.enc 0 r)) := by kernel_rfl
theorem Fz8.sound (f : Fz8.A → Option Fz8.B) (hf : ∀ x r, f x = some r → ∃ fuel, ∀ k : Fz8.B → Option Res, Fz8.pf fuel x k = k r) : Fz8.S f := by
  refine fn_sound (by kernel_rfl) (ttok _) (tab_sound [] (fun p hp => nomatch hp)) (fn := Tryd.f51) (by kernel_rfl) (by decide) (by decide) Fz8.ann [] _ rfl (fun avs r hr => ?_) (by kernel_rfl)
  obtain ⟨x, y, h1, h2, rfl⟩ := mkSig_run hr
  obtain rfl := Fz8.dec_eq h1
  obtain ⟨fuel, hk⟩ := hf x y h2
  exact ⟨fuel, (Fz8.red some fuel x).trans (hk (fun r => some (Fz8.enc 0 r)))⟩
theorem Fz8.of_cl {P : Fz8.A → Prop} {v : Fz8.A → Fz8.B} (hp : ∀ x, P x → ∀ k : Fz8.B → Option Res, Fz8.pf BIG x k = k (v x)) : Fz8.S (cl P v) := Fz8.sound  _ (fun x r hr => by obtain ⟨h1, rfl⟩ := cl_some hr; exact ⟨BIG, hp x h1⟩)
theorem Fz8.of_tot {v : Fz8.A → Fz8.B} (hp : ∀ x, ∀ k : Fz8.B → Option Res, Fz8.pf BIG x k = k (v x)) : Fz8.S (tot v) := Fz8.sound  _ (fun x r hr => by obtain rfl := Option.some.inj hr; exact ⟨BIG, hp x⟩)
/-! 42 internal_strconv_FormatInt -/
noncomputable def Fz7.tab (fFz8 : Fz8.A → Option Fz8.B) : FuncId → Option Sig := tabOf [(51, Fz8.sig fFz8)]
noncomputable def Fz7.E (fFz8 : Fz8.A → Option Fz8.B) : Env := ⟨TT, small, Fz7.tab fFz8, 0, 54⟩
def Fz7.ann : Ann := .nil
noncomputable def Fz7.pf {α : Type} (fFz8 : Fz8.A → Option Fz8.B) (fuel : Nat) (a0 : Int) (a1 : Int) (k : ByteArray → Option α) : Option α :=
  cond (a1 == (10 : Int)) (cond (decide ((0 : Int) ≤ a0)) (cond (decide (a0 < (100 : Int))) ((fFz8 a0).bind fun r1 => k r1) (cond (decide (a0 < (0 : Int))) (none) (none))) (cond (decide (a0 < (0 : Int))) (none) (none))) (none)
theorem Fz7.red {α : Type} (fFz8 : Fz8.A → Option Fz8.B) (K : Res → Option α) (fuel : Nat) (a0 : Int) (a1 : Int) : run TT small (Fz7.tab fFz8) Tryd.f42 Fz7.ann [] fuel [.val (.int .i64) a0, .val (.int .i64) a1] K = Fz7.pf fFz8 fuel a0 a1 (fun r => K (Fz7.enc 0 r)) := by kernel_rfl
theorem Fz7.sound (fFz8 : Fz8.A → Option Fz8.B) (hFz8 : Fz8.S fFz8) (f : Fz7.A → Option Fz7.B) (hf : ∀ x r, f x = some r → ∃ fuel, ∀ k : Fz7.B → Option Res, Fz7.pf fFz8 fuel x.1 x.2 k = k r) : Fz7.S f := by
  refine fn_sound (by kernel_rfl) (ttok _) (tab_sound [(51, Fz8.sig fFz8)] (List.forall_mem_cons.2 ⟨hFz8, fun p hp => nomatch hp⟩)) (fn := Tryd.f42) (by kernel_rfl) (by decide) (by decide) Fz7.ann [] _ rfl (fun avs r hr => ?_) (by kernel_rfl)
  obtain ⟨x, y, h1, h2, rfl⟩ := mkSig_run hr
  obtain rfl := Fz7.dec_eq h1
  obtain ⟨fuel, hk⟩ := hf x y h2
  exact ⟨fuel, (Fz7.red fFz8 some fuel x.1 x.2).trans (hk (fun r => some (Fz7.enc 0 r)))⟩
theorem Fz7.of_cl {fFz8 : Fz8.A → Option Fz8.B} (hFz8 : Fz8.S fFz8) {P : Fz7.A → Prop} {v : Fz7.A → Fz7.B} (hp : ∀ x, P x → ∀ k : Fz7.B → Option Res, Fz7.pf fFz8 BIG x.1 x.2 k = k (v x)) : Fz7.S (cl P v) := Fz7.sound _ hFz8 _ (fun x r hr => by obtain ⟨h1, rfl⟩ := cl_some hr; exact ⟨BIG, hp x h1⟩)
theorem Fz7.of_tot {fFz8 : Fz8.A → Option Fz8.B} (hFz8 : Fz8.S fFz8) {v : Fz7.A → Fz7.B} (hp : ∀ x, ∀ k : Fz7.B → Option Res, Fz7.pf fFz8 BIG x.1 x.2 k = k (v x)) : Fz7.S (tot v) := Fz7.sound _ hFz8 _ (fun x r hr => by obtain rfl := Option.some.inj hr; exact ⟨BIG, hp x⟩)
/-! 31 strconv_FormatInt -/
noncomputable def Fz23.tab (fFz7 : Fz7.A → Option Fz7.B) : FuncId → Option Sig := tabOf [(42, Fz7.sig fFz7)]
noncomputable def Fz23.E (fFz7 : Fz7.A → Option Fz7.B) : Env := ⟨TT, small, Fz23.tab fFz7, 0, 8⟩
def Fz23.ann : Ann := .nil
noncomputable def Fz23.pf {α : Type} (fFz7 : Fz7.A → Option Fz7.B) (fuel : Nat) (a0 : Int) (a1 : Int) (k : ByteArray → Option α) : Option α :=
  (fFz7 (a0, a1)).bind fun r1 => k r1
theorem Fz23.red {α : Type} (fFz7 : Fz7.A → Option Fz7.B) (K : Res → Option α) (fuel : Nat) (a0 : Int) (a1 : Int) : run TT small (Fz23.tab fFz7) Tryd.f31 Fz23.ann [] fuel [.val (.int .i64) a0, .val (.int .i64) a1] K = Fz23.pf fFz7 fuel a0 a1 (fun r => K (Fz23.enc 0 r)) := by kernel_rfl
theorem Fz23.sound (fFz7 : Fz7.A → Option Fz7.B) (hFz7 : Fz7.S fFz7) (f : Fz23.A → Option Fz23.B) (hf : ∀ x r, f x = some r → ∃ fuel, ∀ k : Fz23.B → Option Res, Fz23.pf fFz7 fuel x.1 x.2 k = k r) : Fz23.S f := by
  refine fn_sound (by kernel_rfl) (ttok _) (tab_sound [(42, Fz7.sig fFz7)] (List.forall_mem_cons.2 ⟨hFz7, fun p hp => nomatch hp⟩)) (fn := Tryd.f31) (by kernel_rfl) (by decide) (by decide) Fz23.ann [] _ rfl (fun avs r hr => ?_) (by kernel_rfl)
  obtain ⟨x, y, h1, h2, rfl⟩ := mkSig_run hr
  obtain rfl := Fz23.dec_eq h1
  obtain ⟨fuel, hk⟩ := hf x y h2
  exact ⟨fuel, (Fz23.red fFz7 some fuel x.1 x.2).trans (hk (fun r => some (Fz23.enc 0 r)))⟩
theorem Fz23.of_cl {fFz7 : Fz7.A → Option Fz7.B} (hFz7 : Fz7.S fFz7) {P : Fz23.A → Prop} {v : Fz23.A → Fz23.B} (hp : ∀ x, P x → ∀ k : Fz23.B → Option Res, Fz23.pf fFz7 BIG x.1 x.2 k = k (v x)) : Fz23.S (cl P v) := Fz23.sound _ hFz7 _ (fun x r hr => by obtain ⟨h1, rfl⟩ := cl_some hr; exact ⟨BIG, hp x h1⟩)
theorem Fz23.of_tot {fFz7 : Fz7.A → Option Fz7.B} (hFz7 : Fz7.S fFz7) {v : Fz23.A → Fz23.B} (hp : ∀ x, ∀ k : Fz23.B → Option Res, Fz23.pf fFz7 BIG x.1 x.2 k = k (v x)) : Fz23.S (tot v) := Fz23.sound _ hFz7 _ (fun x r hr => by obtain rfl := Option.some.inj hr; exact ⟨BIG, hp x⟩)
/-! 18 impl_decimal -/
noncomputable def Fz1.tab (fFz23 : Fz23.A → Option Fz23.B) : FuncId → Option Sig := tabOf [(31, Fz23.sig fFz23)]
noncomputable def Fz1.E (fFz23 : Fz23.A → Option Fz23.B) : Env := ⟨TT, small, Fz1.tab fFz23, 0, 5⟩
def Fz1.ann : Ann := .nil
noncomputable def Fz1.pf {α : Type} (fFz23 : Fz23.A → Option Fz23.B) (fuel : Nat) (a0 : Int) (k : ByteArray → Option α) : Option α :=
  (fFz23 (a0, (10 : Int))).bind fun r1 => k r1
theorem Fz1.red {α : Type} (fFz23 : Fz23.A → Option Fz23.B) (K : Res → Option α) (fuel : Nat) (a0 : Int) : run TT small (Fz1.tab fFz23) Tryd.f18 Fz1.ann [] fuel [.val (.int .i64) a0] K = Fz1.pf fFz23 fuel a0 (fun r => K (Fz1.enc 0 r)) := by kernel_rfl
theorem Fz1.sound (fFz23 : Fz23.A → Option Fz23.B) (hFz23 : Fz23.S fFz23) (f : Fz1.A → Option Fz1.B) (hf : ∀ x r, f x = some r → ∃ fuel, ∀ k : Fz1.B → Option Res, Fz1.pf fFz23 fuel x k = k r) : Fz1.S f := by
  refine fn_sound (by kernel_rfl) (ttok _) (tab_sound [(31, Fz23.sig fFz23)] (List.forall_mem_cons.2 ⟨hFz23, fun p hp => nomatch hp⟩)) (fn := Tryd.f18) (by kernel_rfl) (by decide) (by decide) Fz1.ann [] _ rfl (fun avs r hr => ?_) (by kernel_rfl)
  obtain ⟨x, y, h1, h2, rfl⟩ := mkSig_run hr
  obtain rfl := Fz1.dec_eq h1
  obtain ⟨fuel, hk⟩ := hf x y h2
  exact ⟨fuel, (Fz1.red fFz23 some fuel x).trans (hk (fun r => some (Fz1.enc 0 r)))⟩
theorem Fz1.of_cl {fFz23 : Fz23.A → Option Fz23.B} (hFz23 : Fz23.S fFz23) {P : Fz1.A → Prop} {v : Fz1.A → Fz1.B} (hp : ∀ x, P x → ∀ k : Fz1.B → Option Res, Fz1.pf fFz23 BIG x k = k (v x)) : Fz1.S (cl P v) := Fz1.sound _ hFz23 _ (fun x r hr => by obtain ⟨h1, rfl⟩ := cl_some hr; exact ⟨BIG, hp x h1⟩)
theorem Fz1.of_tot {fFz23 : Fz23.A → Option Fz23.B} (hFz23 : Fz23.S fFz23) {v : Fz1.A → Fz1.B} (hp : ∀ x, ∀ k : Fz1.B → Option Res, Fz1.pf fFz23 BIG x k = k (v x)) : Fz1.S (tot v) := Fz1.sound _ hFz23 _ (fun x r hr => by obtain rfl := Option.some.inj hr; exact ⟨BIG, hp x⟩)
/-! 8 impl_SwapsText -/
noncomputable def Fz0.tab (fFz4 : Fz4.A → Option Fz4.B) (fFz1 : Fz1.A → Option Fz1.B) (fFz24 : Fz24.A → Option Fz24.B) : FuncId → Option Sig := tabOf [(17, Fz4.sig fFz4), (18, Fz1.sig fFz1), (19, Fz24.sig fFz24)]
noncomputable def Fz0.E (fFz4 : Fz4.A → Option Fz4.B) (fFz1 : Fz1.A → Option Fz1.B) (fFz24 : Fz24.A → Option Fz24.B) : Env := ⟨TT, small, Fz0.tab fFz4 fFz1 fFz24, 1, 32⟩
def Fz0.ann : Ann := (.two .nil (.two .nil (.two .nil (.two (.two .nil (.one (.loop [3, 10, 11, 12] .nil))) .nil))))
noncomputable def Fz0.emb1 (e0 : TypeId) (p1_0 : Int) (p1_1 : (List (Int × Int))) (x1 : (Int × (List ByteArray))) : St := { slots := mkSlots 32 [(3, .sl 65 [] none), (10, .sl 0 [] none), (11, .val (.int .i64) p1_0), (12, .val (.int .i64) x1.1)], objs := mkObjs 66 [(0, .dat ⟨e0, (.st (.pair (.int .i8) (.int .i8))), p1_1, false, false, none⟩), (65, .dat ⟨9, .str, x1.2, true, true, none⟩)] }
noncomputable def Fz0.LB1 {α : Type} (fFz4 : Fz4.A → Option Fz4.B) (fFz1 : Fz1.A → Option Fz1.B) (fFz24 : Fz24.A → Option Fz24.B) (fuel : Nat) (cont : Ex → St → Option α) : (St → Option α) → St → Option α := roundV (Fz0.E fFz4 fFz1 fFz24) fuel [true, true, true, false, true, false] (bodyOf Tryd.f8) Fz0.ann cont
noncomputable def Fz0.C1 {α : Type} (fFz4 : Fz4.A → Option Fz4.B) (fFz1 : Fz1.A → Option Fz1.B) (fFz24 : Fz24.A → Option Fz24.B) (K : Res → Option α) (fuel : Nat) : Ex → St → Option α := contAt (Fz0.E fFz4 fFz1 fFz24) fuel [true, true, true, false, true, false] (bodyOf Tryd.f8) Fz0.ann [] (finK TT 1 [some 0] Tryd.f8 [] K)
noncomputable def Fz0.ex1_0 (e0 : TypeId) (p1_0 : Int) (p1_1 : (List (Int × Int))) (x1 : (Int × (List ByteArray))) : St := { slots := mkSlots 32 [(3, .sl 65 [] none), (10, .sl 0 [] none), (11, .val (.int .i64) p1_0), (12, .val (.int .i64) x1.1), (13, .val .bool (decide (x1.1 < p1_0)))], objs := mkObjs 66 [(0, .dat ⟨e0, (.st (.pair (.int .i8) (.int .i8))), p1_1, false, false, none⟩), (65, .dat ⟨9, .str, x1.2, true, true, none⟩)] }
noncomputable def Fz0.B1 {α : Type} (fFz1 : Fz1.A → Option Fz1.B) (p1_0 : Int) (p1_1 : (List (Int × Int))) (K0 : (Int × (List ByteArray)) → Option α) (rec : (Int × (List ByteArray)) → Option α) (x1 : (Int × (List ByteArray))) : Option α :=
  cond (decide (x1.1 < p1_0)) (cond (inB x1.1 (List.length p1_1)) ((fFz1 (IntKind.i64.wrap (List.getD p1_1 (x1.1 : Int).toNat ((0 : Int), (0 : Int))).1)).bind fun r1001 => cond (decide (ByteArray.size r1001 + ByteArray.size (bytesOf [45]) ≤ LIM)) ((fFz1 (IntKind.i64.wrap (List.getD p1_1 (x1.1 : Int).toNat ((0 : Int), (0 : Int))).2)).bind fun r1002 => cond (decide (ByteArray.size (r1001 ++ (bytesOf [45])) + ByteArray.size r1002 ≤ LIM)) (cond (okL (List.length x1.2 + List.length [((r1001 ++ (bytesOf [45])) ++ r1002)])) (rec (((IntKind.i64.wrap (x1.1 + (1 : Int))), (x1.2 ++ [((r1001 ++ (bytesOf [45])) ++ r1002)])))) none) none) none) none) (K0 x1)
theorem Fz0.step1 {α : Type} (fFz4 : Fz4.A → Option Fz4.B) (fFz1 : Fz1.A → Option Fz1.B) (fFz24 : Fz24.A → Option Fz24.B) (fuel : Nat) (cont : Ex → St → Option α) (e0 : TypeId) (p1_0 : Int) (p1_1 : (List (Int × Int))) (rec : St → Option α) (x1 : (Int × (List ByteArray))) : Fz0.LB1 fFz4 fFz1 fFz24 fuel cont rec (Fz0.emb1 e0 p1_0 p1_1 x1) = Fz0.B1 fFz1 p1_0 p1_1 (fun x1 => cont (.exit 0) (Fz0.ex1_0 e0 p1_0 p1_1 x1)) (fun y => rec (Fz0.emb1 e0 p1_0 p1_1 y)) x1 := by kernel_rfl
theorem Fz0.loop1 {α : Type} (fFz4 : Fz4.A → Option Fz4.B) (fFz1 : Fz1.A → Option Fz1.B) (fFz24 : Fz24.A → Option Fz24.B) (fuel : Nat) (cont : Ex → St → Option α) (e0 : TypeId) (p1_0 : Int) (p1_1 : (List (Int × Int))) (x1 : (Int × (List ByteArray))) : loopN (Fz0.LB1 fFz4 fFz1 fFz24 fuel cont) fuel (Fz0.emb1 e0 p1_0 p1_1 x1) = iter (Fz0.B1 fFz1 p1_0 p1_1 (fun x1 => cont (.exit 0) (Fz0.ex1_0 e0 p1_0 p1_1 x1))) fuel x1 := loop_sim (fun rec x => Fz0.step1 fFz4 fFz1 fFz24 fuel cont e0 p1_0 p1_1 rec x) fuel x1
noncomputable def Fz0.pf {α : Type} (fFz4 : Fz4.A → Option Fz4.B) (fFz1 : Fz1.A → Option Fz1.B) (fFz24 : Fz24.A → Option Fz24.B) (fuel : Nat) (a0 : (List (Int × Int))) (k : ByteArray → Option α) : Option α :=
  (fFz4 (true, a0)).bind fun r1 => cond (r1 != (0 : Int)) (k (bytesOf [])) (iter (Fz0.B1 fFz1 (((List.length a0) : Nat) : Int) a0 (fun (x1 : (Int × (List ByteArray))) => (fFz24 (x1.2, (bytesOf [32]))).bind fun r2 => k r2)) fuel ((0 : Int), ([] : List ByteArray)))
theorem Fz0.tail1 {α : Type} (fFz4 : Fz4.A → Option Fz4.B) (fFz1 : Fz1.A → Option Fz1.B) (fFz24 : Fz24.A → Option Fz24.B) (K : Res → Option α) (fuel : Nat) (e0 : TypeId) (a0 : (List (Int × Int))) (x1 : (Int × (List ByteArray))) : Fz0.C1 fFz4 fFz1 fFz24 K fuel (.exit 0) (Fz0.ex1_0 e0 (((List.length a0) : Nat) : Int) a0 x1) = ((fun (k : ByteArray → Option α) => (fFz24 (x1.2, (bytesOf [32]))).bind fun r2 => k r2) (fun r => K (Fz0.enc 0 r))) := by kernel_rfl
theorem Fz0.red_raw {α : Type} (fFz4 : Fz4.A → Option Fz4.B) (fFz1 : Fz1.A → Option Fz1.B) (fFz24 : Fz24.A → Option Fz24.B) (K : Res → Option α) (fuel : Nat) (e0 : TypeId) (a0 : (List (Int × Int))) : run TT small (Fz0.tab fFz4 fFz1 fFz24) Tryd.f8 Fz0.ann [] fuel [.obj false ⟨e0, (.st (.pair (.int .i8) (.int .i8))), a0⟩] K = (fFz4 (true, a0)).bind fun r1 => cond (r1 != (0 : Int)) (K ⟨[.val .str (bytesOf [])], []⟩) (loopN (Fz0.LB1 fFz4 fFz1 fFz24 fuel (Fz0.C1 fFz4 fFz1 fFz24 K fuel)) fuel (Fz0.emb1 e0 (((List.length a0) : Nat) : Int) a0 ((0 : Int), ([] : List ByteArray)))) := by kernel_rfl
theorem Fz0.red {α : Type} (fFz4 : Fz4.A → Option Fz4.B) (fFz1 : Fz1.A → Option Fz1.B) (fFz24 : Fz24.A → Option Fz24.B) (K : Res → Option α) (fuel : Nat) (e0 : TypeId) (a0 : (List (Int × Int))) : run TT small (Fz0.tab fFz4 fFz1 fFz24) Tryd.f8 Fz0.ann [] fuel [.obj false ⟨e0, (.st (.pair (.int .i8) (.int .i8))), a0⟩] K = Fz0.pf fFz4 fFz1 fFz24 fuel a0 (fun r => K (Fz0.enc 0 r)) := by
  rw [Fz0.red_raw]
  simp only [Fz0.loop1, Fz0.tail1]
  all_goals kernel_rfl
theorem Fz0.sound (fFz4 : Fz4.A → Option Fz4.B) (fFz1 : Fz1.A → Option Fz1.B) (fFz24 : Fz24.A → Option Fz24.B) (hFz4 : Fz4.S fFz4) (hFz1 : Fz1.S fFz1) (hFz24 : Fz24.S fFz24) (f : Fz0.A → Option Fz0.B) (hf : ∀ x r, f x = some r → ∃ fuel, ∀ k : Fz0.B → Option Res, Fz0.pf fFz4 fFz1 fFz24 fuel x k = k r) : Fz0.S f := by
  refine fn_sound (by kernel_rfl) (ttok _) (tab_sound [(17, Fz4.sig fFz4), (18, Fz1.sig fFz1), (19, Fz24.sig fFz24)] (List.forall_mem_cons.2 ⟨hFz4, List.forall_mem_cons.2 ⟨hFz1, List.forall_mem_cons.2 ⟨hFz24, fun p hp => nomatch hp⟩⟩⟩)) (fn := Tryd.f8) (by kernel_rfl) (by decide) (by decide) Fz0.ann [] _ rfl (fun avs r hr => ?_) (by kernel_rfl)
  obtain ⟨x, y, h1, h2, rfl⟩ := mkSig_run hr
  obtain ⟨e0, rfl⟩ := Fz0.dec_eq h1
  obtain ⟨fuel, hk⟩ := hf x y h2
  exact ⟨fuel, (Fz0.red fFz4 fFz1 fFz24 some fuel e0 x).trans (hk (fun r => some (Fz0.enc 0 r)))⟩
theorem Fz0.of_cl {fFz4 : Fz4.A → Option Fz4.B} {fFz1 : Fz1.A → Option Fz1.B} {fFz24 : Fz24.A → Option Fz24.B} (hFz4 : Fz4.S fFz4) (hFz1 : Fz1.S fFz1) (hFz24 : Fz24.S fFz24) {P : Fz0.A → Prop} {v : Fz0.A → Fz0.B} (hp : ∀ x, P x → ∀ k : Fz0.B → Option Res, Fz0.pf fFz4 fFz1 fFz24 BIG x k = k (v x)) : Fz0.S (cl P v) := Fz0.sound _ _ _ hFz4 hFz1 hFz24 _ (fun x r hr => by obtain ⟨h1, rfl⟩ := cl_some hr; exact ⟨BIG, hp x h1⟩)
theorem Fz0.of_tot {fFz4 : Fz4.A → Option Fz4.B} {fFz1 : Fz1.A → Option Fz1.B} {fFz24 : Fz24.A → Option Fz24.B} (hFz4 : Fz4.S fFz4) (hFz1 : Fz1.S fFz1) (hFz24 : Fz24.S fFz24) {v : Fz0.A → Fz0.B} (hp : ∀ x, ∀ k : Fz0.B → Option Res, Fz0.pf fFz4 fFz1 fFz24 BIG x k = k (v x)) : Fz0.S (tot v) := Fz0.sound _ _ _ hFz4 hFz1 hFz24 _ (fun x r hr => by obtain rfl := Option.some.inj hr; exact ⟨BIG, hp x⟩)
/-! 20 laws_eqSwap -/
noncomputable def Fz10.tab : FuncId → Option Sig := tabOf []
noncomputable def Fz10.E : Env := ⟨TT, small, Fz10.tab , 0, 15⟩
def Fz10.ann : Ann := .nil
noncomputable def Fz10.pf {α : Type} (fuel : Nat) (a0 : (Int × Int)) (a1 : (Int × Int)) (k : Bool → Option α) : Option α :=
  cond (a0.1 != a1.1) (k false) (cond (a0.2 != a1.2) (k false) (k true))
theorem Fz10.red {α : Type} (K : Res → Option α) (fuel : Nat) (a0 : (Int × Int)) (a1 : (Int × Int)) : run TT small Fz10.tab Tryd.f20 Fz10.ann [] fuel [.val (.st (.pair (.int .i8) (.int .i8))) a0, .val (.st (.pair (.int .i8) (.int .i8))) a1] K = Fz10.pf fuel a0 a1 (fun r => K (Fz10.enc 0 r)) := by kernel_rfl
theorem Fz10.sound (f : Fz10.A → Option Fz10.B) (hf : ∀ x r, f x = some r → ∃ fuel, ∀ k : Fz10.B → Option Res, Fz10.pf fuel x.1 x.2 k = k r) : Fz10.S f := by
  refine fn_sound (by kernel_rfl) (ttok _) (tab_sound [] (fun p hp => nomatch hp)) (fn := Tryd.f20) (by kernel_rfl) (by decide) (by decide) Fz10.ann [] _ rfl (fun avs r hr => ?_) (by kernel_rfl)
  obtain ⟨x, y, h1, h2, rfl⟩ := mkSig_run hr
  obtain rfl := Fz10.dec_eq h1
  obtain ⟨fuel, hk⟩ := hf x y h2
  exact ⟨fuel, (Fz10.red some fuel x.1 x.2).trans (hk (fun r => some (Fz10.enc 0 r)))⟩
theorem Fz10.of_cl {P : Fz10.A → Prop} {v : Fz10.A → Fz10.B} (hp : ∀ x, P x → ∀ k : Fz10.B → Option Res, Fz10.pf BIG x.1 x.2 k = k (v x)) : Fz10.S (cl P v) := Fz10.sound  _ (fun x r hr => by obtain ⟨h1, rfl⟩ := cl_some hr; exact ⟨BIG, hp x h1⟩)
theorem Fz10.of_tot {v : Fz10.A → Fz10.B} (hp : ∀ x, ∀ k : Fz10.B → Option Res, Fz10.pf BIG x.1 x.2 k = k (v x)) : Fz10.S (tot v) := Fz10.sound  _ (fun x r hr => by obtain rfl := Option.some.inj hr; exact ⟨BIG, hp x⟩)
/-! 9 laws_eqSwapS -/
noncomputable def Fz11.tab (fFz10 : Fz10.A → Option Fz10.B) : FuncId → Option Sig := tabOf [(20, Fz10.sig fFz10)]
noncomputable def Fz11.E (fFz10 : Fz10.A → Option Fz10.B) : Env := ⟨TT, small, Fz11.tab fFz10, 2, 27⟩
def Fz11.ann : Ann := (.two .nil (.two .nil (.two (.two .nil (.one (.loop [0, 1, 5] .nil))) .nil)))
noncomputable def Fz11.emb1 (e0 : TypeId) (e1 : TypeId) (p1_0 : (List (Int × Int))) (p1_1 : (List (Int × Int))) (x1 : Int) : St := { slots := mkSlots 27 [(0, .sl 0 [] none), (1, .sl 1 [] none), (5, .val (.int .i64) x1)], objs := mkObjs 56 [(0, .dat ⟨e0, (.st (.pair (.int .i8) (.int .i8))), p1_0, false, false, none⟩), (1, .dat ⟨e1, (.st (.pair (.int .i8) (.int .i8))), p1_1, false, false, none⟩)] }
noncomputable def Fz11.LB1 {α : Type} (fFz10 : Fz10.A → Option Fz10.B) (fuel : Nat) (cont : Ex → St → Option α) : (St → Option α) → St → Option α := roundV (Fz11.E fFz10) fuel [true, true, false, true, false] (bodyOf Tryd.f9) Fz11.ann cont
noncomputable def Fz11.C1 {α : Type} (fFz10 : Fz10.A → Option Fz10.B) (K : Res → Option α) (fuel : Nat) : Ex → St → Option α := contAt (Fz11.E fFz10) fuel [true, true, false, true, false] (bodyOf Tryd.f9) Fz11.ann [] (finK TT 2 [some 0, some 1] Tryd.f9 [] K)
noncomputable def Fz11.ex1_0 (e0 : TypeId) (e1 : TypeId) (p1_0 : (List (Int × Int))) (p1_1 : (List (Int × Int))) (x1 : Int) (r1001 : Bool) : St := { slots := mkSlots 27 [(0, .sl 0 [] none), (1, .sl 1 [] none), (4, .val .bool false), (5, .val (.int .i64) x1), (11, .val (.int .i64) x1), (12, .sl 0 [] none), (13, .val (.int .i64) (((List.length p1_0) : Nat) : Int)), (14, .val .bool ((decide (x1 < (((List.length p1_0) : Nat) : Int))))), (17, .sl 0 [] none), (18, .val (.int .i64) x1), (19, .ptr 0 [.idx (x1 : Int).toNat] false), (20, .val (.st (.pair (.int .i8) (.int .i8))) (List.getD p1_0 (x1 : Int).toNat ((0 : Int), (0 : Int)))), (21, .sl 1 [] none), (22, .val (.int .i64) x1), (23, .ptr 1 [.idx (x1 : Int).toNat] false), (24, .val (.st (.pair (.int .i8) (.int .i8))) (List.getD p1_1 (x1 : Int).toNat ((0 : Int), (0 : Int)))), (25, .val .bool r1001), (26, .val .bool (!r1001))], objs := mkObjs 56 [(0, .dat ⟨e0, (.st (.pair (.int .i8) (.int .i8))), p1_0, false, false, none⟩), (1, .dat ⟨e1, (.st (.pair (.int .i8) (.int .i8))), p1_1, false, false, none⟩)] }
noncomputable def Fz11.ex1_1 (e0 : TypeId) (e1 : TypeId) (p1_0 : (List (Int × Int))) (p1_1 : (List (Int × Int))) (x1 : Int) : St := { slots := mkSlots 27 [(0, .sl 0 [] none), (1, .sl 1 [] none), (5, .val (.int .i64) x1), (11, .val (.int .i64) x1), (12, .sl 0 [] none), (13, .val (.int .i64) (((List.length p1_0) : Nat) : Int)), (14, .val .bool ((decide (x1 < (((List.length p1_0) : Nat) : Int)))))], objs := mkObjs 56 [(0, .dat ⟨e0, (.st (.pair (.int .i8) (.int .i8))), p1_0, false, false, none⟩), (1, .dat ⟨e1, (.st (.pair (.int .i8) (.int .i8))), p1_1, false, false, none⟩)] }
noncomputable def Fz11.B1 {α : Type} (fFz10 : Fz10.A → Option Fz10.B) (p1_0 : (List (Int × Int))) (p1_1 : (List (Int × Int))) (K0 : Int → Bool → Option α) (K1 : Int → Option α) (rec : Int → Option α) (x1 : Int) : Option α :=
  cond (decide (x1 < (((List.length p1_0) : Nat) : Int))) (cond (inB x1 (List.length p1_0)) (cond (inB x1 (List.length p1_1)) ((fFz10 ((List.getD p1_0 (x1 : Int).toNat ((0 : Int), (0 : Int))), (List.getD p1_1 (x1 : Int).toNat ((0 : Int), (0 : Int))))).bind fun r1001 => cond (!r1001) (K0 x1 r1001) (rec (IntKind.i64.wrap (x1 + (1 : Int))))) none) none) (K1 x1)
theorem Fz11.step1 {α : Type} (fFz10 : Fz10.A → Option Fz10.B) (fuel : Nat) (cont : Ex → St → Option α) (e0 : TypeId) (e1 : TypeId) (p1_0 : (List (Int × Int))) (p1_1 : (List (Int × Int))) (rec : St → Option α) (x1 : Int) : Fz11.LB1 fFz10 fuel cont rec (Fz11.emb1 e0 e1 p1_0 p1_1 x1) = Fz11.B1 fFz10 p1_0 p1_1 (fun x1 r1001 => cont .ret (Fz11.ex1_0 e0 e1 p1_0 p1_1 x1 r1001)) (fun x1 => cont (.exit 0) (Fz11.ex1_1 e0 e1 p1_0 p1_1 x1)) (fun y => rec (Fz11.emb1 e0 e1 p1_0 p1_1 y)) x1 := by kernel_rfl
theorem Fz11.loop1 {α : Type} (fFz10 : Fz10.A → Option Fz10.B) (fuel : Nat) (cont : Ex → St → Option α) (e0 : TypeId) (e1 : TypeId) (p1_0 : (List (Int × Int))) (p1_1 : (List (Int × Int))) (x1 : Int) : loopN (Fz11.LB1 fFz10 fuel cont) fuel (Fz11.emb1 e0 e1 p1_0 p1_1 x1) = iter (Fz11.B1 fFz10 p1_0 p1_1 (fun x1 r1001 => cont .ret (Fz11.ex1_0 e0 e1 p1_0 p1_1 x1 r1001)) (fun x1 => cont (.exit 0) (Fz11.ex1_1 e0 e1 p1_0 p1_1 x1))) fuel x1 := loop_sim (fun rec x => Fz11.step1 fFz10 fuel cont e0 e1 p1_0 p1_1 rec x) fuel x1
noncomputable def Fz11.pf {α : Type} (fFz10 : Fz10.A → Option Fz10.B) (fuel : Nat) (a0 : (List (Int × Int))) (a1 : (List (Int × Int))) (k : Bool → Option α) : Option α :=
  cond ((((List.length a0) : Nat) : Int) != (((List.length a1) : Nat) : Int)) (k false) (iter (Fz11.B1 fFz10 a0 a1 (fun (x1 : Int) (r1001 : Bool) => k false) (fun (x1 : Int) => k true)) fuel (0 : Int))
theorem Fz11.tail1 {α : Type} (fFz10 : Fz10.A → Option Fz10.B) (K : Res → Option α) (fuel : Nat) (e0 : TypeId) (e1 : TypeId) (a0 : (List (Int × Int))) (a1 : (List (Int × Int))) (x1 : Int) (r1001 : Bool) : Fz11.C1 fFz10 K fuel .ret (Fz11.ex1_0 e0 e1 a0 a1 x1 r1001) = ((fun (k : Bool → Option α) => k false) (fun r => K (Fz11.enc 0 r))) := by kernel_rfl
theorem Fz11.tail2 {α : Type} (fFz10 : Fz10.A → Option Fz10.B) (K : Res → Option α) (fuel : Nat) (e0 : TypeId) (e1 : TypeId) (a0 : (List (Int × Int))) (a1 : (List (Int × Int))) (x1 : Int) : Fz11.C1 fFz10 K fuel (.exit 0) (Fz11.ex1_1 e0 e1 a0 a1 x1) = ((fun (k : Bool → Option α) => k true) (fun r => K (Fz11.enc 0 r))) := by kernel_rfl
theorem Fz11.red_raw {α : Type} (fFz10 : Fz10.A → Option Fz10.B) (K : Res → Option α) (fuel : Nat) (e0 : TypeId) (e1 : TypeId) (a0 : (List (Int × Int))) (a1 : (List (Int × Int))) : run TT small (Fz11.tab fFz10) Tryd.f9 Fz11.ann [] fuel [.obj false ⟨e0, (.st (.pair (.int .i8) (.int .i8))), a0⟩, .obj false ⟨e1, (.st (.pair (.int .i8) (.int .i8))), a1⟩] K = cond ((((List.length a0) : Nat) : Int) != (((List.length a1) : Nat) : Int)) (K ⟨[.val .bool false], []⟩) (loopN (Fz11.LB1 fFz10 fuel (Fz11.C1 fFz10 K fuel)) fuel (Fz11.emb1 e0 e1 a0 a1 (0 : Int))) := by kernel_rfl
theorem Fz11.red {α : Type} (fFz10 : Fz10.A → Option Fz10.B) (K : Res → Option α) (fuel : Nat) (e0 : TypeId) (e1 : TypeId) (a0 : (List (Int × Int))) (a1 : (List (Int × Int))) : run TT small (Fz11.tab fFz10) Tryd.f9 Fz11.ann [] fuel [.obj false ⟨e0, (.st (.pair (.int .i8) (.int .i8))), a0⟩, .obj false ⟨e1, (.st (.pair (.int .i8) (.int .i8))), a1⟩] K = Fz11.pf fFz10 fuel a0 a1 (fun r => K (Fz11.enc 0 r)) := by
  rw [Fz11.red_raw]
  simp only [Fz11.loop1, Fz11.tail1, Fz11.tail2]
  all_goals kernel_rfl
theorem Fz11.sound (fFz10 : Fz10.A → Option Fz10.B) (hFz10 : Fz10.S fFz10) (f : Fz11.A → Option Fz11.B) (hf : ∀ x r, f x = some r → ∃ fuel, ∀ k : Fz11.B → Option Res, Fz11.pf fFz10 fuel x.1 x.2 k = k r) : Fz11.S f := by
  refine fn_sound (by kernel_rfl) (ttok _) (tab_sound [(20, Fz10.sig fFz10)] (List.forall_mem_cons.2 ⟨hFz10, fun p hp => nomatch hp⟩)) (fn := Tryd.f9) (by kernel_rfl) (by decide) (by decide) Fz11.ann [] _ rfl (fun avs r hr => ?_) (by kernel_rfl)
  obtain ⟨x, y, h1, h2, rfl⟩ := mkSig_run hr
  obtain ⟨e0, e1, rfl⟩ := Fz11.dec_eq h1
  obtain ⟨fuel, hk⟩ := hf x y h2
  exact ⟨fuel, (Fz11.red fFz10 some fuel e0 e1 x.1 x.2).trans (hk (fun r => some (Fz11.enc 0 r)))⟩
theorem Fz11.of_cl {fFz10 : Fz10.A → Option Fz10.B} (hFz10 : Fz10.S fFz10) {P : Fz11.A → Prop} {v : Fz11.A → Fz11.B} (hp : ∀ x, P x → ∀ k : Fz11.B → Option Res, Fz11.pf fFz10 BIG x.1 x.2 k = k (v x)) : Fz11.S (cl P v) := Fz11.sound _ hFz10 _ (fun x r hr => by obtain ⟨h1, rfl⟩ := cl_some hr; exact ⟨BIG, hp x h1⟩)
theorem Fz11.of_tot {fFz10 : Fz10.A → Option Fz10.B} (hFz10 : Fz10.S fFz10) {v : Fz11.A → Fz11.B} (hp : ∀ x, ∀ k : Fz11.B → Option Res, Fz11.pf fFz10 BIG x.1 x.2 k = k (v x)) : Fz11.S (tot v) := Fz11.sound _ hFz10 _ (fun x r hr => by obtain rfl := Option.some.inj hr; exact ⟨BIG, hp x⟩)
/-! 3 laws_FnExactSwapsText -/
noncomputable def laws_FnExactSwapsText.tab (fFz12 : Fz12.A → Option Fz12.B) (fFz14 : Fz14.A → Option Fz14.B) (fFz18 : Fz18.A → Option Fz18.B) (fFz0 : Fz0.A → Option Fz0.B) (fFz11 : Fz11.A → Option Fz11.B) : FuncId → Option Sig := tabOf [(5, Fz12.sig fFz12), (7, Fz14.sig fFz14), (6, Fz18.sig fFz18), (8, Fz0.sig fFz0), (9, Fz11.sig fFz11)]
noncomputable def laws_FnExactSwapsText.E (fFz12 : Fz12.A → Option Fz12.B) (fFz14 : Fz14.A → Option Fz14.B) (fFz18 : Fz18.A → Option Fz18.B) (fFz0 : Fz0.A → Option Fz0.B) (fFz11 : Fz11.A → Option Fz11.B) : Env := ⟨TT, small, laws_FnExactSwapsText.tab fFz12 fFz14 fFz18 fFz0 fFz11, 1, 27⟩
def laws_FnExactSwapsText.ann : Ann := .nil
noncomputable def laws_FnExactSwapsText.pf {α : Type} (fFz12 : Fz12.A → Option Fz12.B) (fFz14 : Fz14.A → Option Fz14.B) (fFz18 : Fz18.A → Option Fz18.B) (fFz0 : Fz0.A → Option Fz0.B) (fFz11 : Fz11.A → Option Fz11.B) (fuel : Nat) (a0 : (List (Int × Int))) (k : Bool → Option α) : Option α :=
  (fFz12 (a0, (1048576 : Int))).bind fun r1 => cond (decide (r1 < (0 : Int))) (k true) ((fFz14 a0).bind fun r2 => (fFz18 r2).bind fun r3 => (fFz14 a0).bind fun r4 => (fFz0 r4).bind fun r5 => cond (!(ByteArray.toList r5 == ByteArray.toList r3)) (k false) ((fFz14 a0).bind fun r6 => (fFz11 (r4, r6)).bind fun r7 => cond (!r7) (k false) (k true)))
theorem laws_FnExactSwapsText.red {α : Type} (fFz12 : Fz12.A → Option Fz12.B) (fFz14 : Fz14.A → Option Fz14.B) (fFz18 : Fz18.A → Option Fz18.B) (fFz0 : Fz0.A → Option Fz0.B) (fFz11 : Fz11.A → Option Fz11.B) (K : Res → Option α) (fuel : Nat) (e0 : TypeId) (a0 : (List (Int × Int))) : run TT small (laws_FnExactSwapsText.tab fFz12 fFz14 fFz18 fFz0 fFz11) Tryd.f3 laws_FnExactSwapsText.ann [] fuel [.obj false ⟨e0, (.st (.pair (.int .i8) (.int .i8))), a0⟩] K = laws_FnExactSwapsText.pf fFz12 fFz14 fFz18 fFz0 fFz11 fuel a0 (fun r => K (laws_FnExactSwapsText.enc 0 r)) := by kernel_rfl
theorem laws_FnExactSwapsText.sound (fFz12 : Fz12.A → Option Fz12.B) (fFz14 : Fz14.A → Option Fz14.B) (fFz18 : Fz18.A → Option Fz18.B) (fFz0 : Fz0.A → Option Fz0.B) (fFz11 : Fz11.A → Option Fz11.B) (hFz12 : Fz12.S fFz12) (hFz14 : Fz14.S fFz14) (hFz18 : Fz18.S fFz18) (hFz0 : Fz0.S fFz0) (hFz11 : Fz11.S fFz11) (f : laws_FnExactSwapsText.A → Option laws_FnExactSwapsText.B) (hf : ∀ x r, f x = some r → ∃ fuel, ∀ k : laws_FnExactSwapsText.B → Option Res, laws_FnExactSwapsText.pf fFz12 fFz14 fFz18 fFz0 fFz11 fuel x k = k r) : laws_FnExactSwapsText.S f := by
  refine fn_sound (by kernel_rfl) (ttok _) (tab_sound [(5, Fz12.sig fFz12), (7, Fz14.sig fFz14), (6, Fz18.sig fFz18), (8, Fz0.sig fFz0), (9, Fz11.sig fFz11)] (List.forall_mem_cons.2 ⟨hFz12, List.forall_mem_cons.2 ⟨hFz14, List.forall_mem_cons.2 ⟨hFz18, List.forall_mem_cons.2 ⟨hFz0, List.forall_mem_cons.2 ⟨hFz11, fun p hp => nomatch hp⟩⟩⟩⟩⟩)) (fn := Tryd.f3) (by kernel_rfl) (by decide) (by decide) laws_FnExactSwapsText.ann [] _ rfl (fun avs r hr => ?_) (by kernel_rfl)
  obtain ⟨x, y, h1, h2, rfl⟩ := mkSig_run hr
  obtain ⟨e0, rfl⟩ := laws_FnExactSwapsText.dec_eq h1
  obtain ⟨fuel, hk⟩ := hf x y h2
  exact ⟨fuel, (laws_FnExactSwapsText.red fFz12 fFz14 fFz18 fFz0 fFz11 some fuel e0 x).trans (hk (fun r => some (laws_FnExactSwapsText.enc 0 r)))⟩
theorem laws_FnExactSwapsText.of_cl {fFz12 : Fz12.A → Option Fz12.B} {fFz14 : Fz14.A → Option Fz14.B} {fFz18 : Fz18.A → Option Fz18.B} {fFz0 : Fz0.A → Option Fz0.B} {fFz11 : Fz11.A → Option Fz11.B} (hFz12 : Fz12.S fFz12) (hFz14 : Fz14.S fFz14) (hFz18 : Fz18.S fFz18) (hFz0 : Fz0.S fFz0) (hFz11 : Fz11.S fFz11) {P : laws_FnExactSwapsText.A → Prop} {v : laws_FnExactSwapsText.A → laws_FnExactSwapsText.B} (hp : ∀ x, P x → ∀ k : laws_FnExactSwapsText.B → Option Res, laws_FnExactSwapsText.pf fFz12 fFz14 fFz18 fFz0 fFz11 BIG x k = k (v x)) : laws_FnExactSwapsText.S (cl P v) := laws_FnExactSwapsText.sound _ _ _ _ _ hFz12 hFz14 hFz18 hFz0 hFz11 _ (fun x r hr => by obtain ⟨h1, rfl⟩ := cl_some hr; exact ⟨BIG, hp x h1⟩)
theorem laws_FnExactSwapsText.of_tot {fFz12 : Fz12.A → Option Fz12.B} {fFz14 : Fz14.A → Option Fz14.B} {fFz18 : Fz18.A → Option Fz18.B} {fFz0 : Fz0.A → Option Fz0.B} {fFz11 : Fz11.A → Option Fz11.B} (hFz12 : Fz12.S fFz12) (hFz14 : Fz14.S fFz14) (hFz18 : Fz18.S fFz18) (hFz0 : Fz0.S fFz0) (hFz11 : Fz11.S fFz11) {v : laws_FnExactSwapsText.A → laws_FnExactSwapsText.B} (hp : ∀ x, ∀ k : laws_FnExactSwapsText.B → Option Res, laws_FnExactSwapsText.pf fFz12 fFz14 fFz18 fFz0 fFz11 BIG x k = k (v x)) : laws_FnExactSwapsText.S (tot v) := laws_FnExactSwapsText.sound _ _ _ _ _ hFz12 hFz14 hFz18 hFz0 hFz11 _ (fun x r hr => by obtain rfl := Option.some.inj hr; exact ⟨BIG, hp x⟩)
end Go.Proofs.YtjajlmaldeoobaaDoor.G
