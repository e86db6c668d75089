import Derived.Test.YtjajlmaldeoobaaSg
namespace Go.Proofs.Ytjajlmaldeoobaa.G
open Go Go.Proofs
set_option linter.unusedVariables false
set_option linter.unusedSimpArgs false
set_option maxRecDepth 100000
/-! 55 laws_toBottle -/
noncomputable def Fz15.tab : FuncId → Option Sig := tabOf []
noncomputable def Fz15.E : Env := ⟨TT, small, Fz15.tab , 0, 11⟩
def Fz15.ann : Ann := .nil
noncomputable def Fz15.pf {α : Type} (fuel : Nat) (a0 : (Int × Int)) (k : (Int × Int) → Option α) : Option α :=
  k (a0.1, a0.2)
theorem Fz15.red {α : Type} (K : Res → Option α) (fuel : Nat) (a0 : (Int × Int)) : run TT small Fz15.tab Try.f55 Fz15.ann [] fuel [.val (.st (.pair (.int .u8) (.int .i16))) a0] K = Fz15.pf fuel a0 (fun r => K (Fz15.enc 0 r)) := by kernel_rfl
theorem Fz15.sound (f : Fz15.A → Option Fz15.B) (hf : ∀ x r, f x = some r → ∃ fuel, ∀ k : Fz15.B → Option Res, Fz15.pf fuel x k = k r) : Fz15.S f := by
  refine fn_sound (by kernel_rfl) (ttok _) (tab_sound [] (fun p hp => nomatch hp)) (fn := Try.f55) (by kernel_rfl) (by decide) (by decide) Fz15.ann [] _ rfl (fun avs r hr => ?_) (by kernel_rfl)
  obtain ⟨x, y, h1, h2, rfl⟩ := mkSig_run hr
  obtain rfl := Fz15.dec_eq h1
  obtain ⟨fuel, hk⟩ := hf x y h2
  exact ⟨fuel, (Fz15.red some fuel x).trans (hk (fun r => some (Fz15.enc 0 r)))⟩
theorem Fz15.of_cl {P : Fz15.A → Prop} {v : Fz15.A → Fz15.B} (hp : ∀ x, P x → ∀ k : Fz15.B → Option Res, Fz15.pf BIG x k = k (v x)) : Fz15.S (cl P v) := Fz15.sound  _ (fun x r hr => by obtain ⟨h1, rfl⟩ := cl_some hr; exact ⟨BIG, hp x h1⟩)
theorem Fz15.of_tot {v : Fz15.A → Fz15.B} (hp : ∀ x, ∀ k : Fz15.B → Option Res, Fz15.pf BIG x k = k (v x)) : Fz15.S (tot v) := Fz15.sound  _ (fun x r hr => by obtain rfl := Option.some.inj hr; exact ⟨BIG, hp x⟩)
/-! 22 laws_toCrate -/
noncomputable def Fz16.tab (fFz15 : Fz15.A → Option Fz15.B) : FuncId → Option Sig := tabOf [(55, Fz15.sig fFz15)]
noncomputable def Fz16.E (fFz15 : Fz15.A → Option Fz15.B) : Env := ⟨TT, small, Fz16.tab fFz15, 0, 16⟩
def Fz16.ann : Ann := (.two .nil (.two .nil (.two (.two .nil (.one (.loop [1, 2, 3, 4] .nil))) .nil)))
noncomputable def Fz16.emb1 (p1_0 : (List (Int × Int))) (p1_1 : (List (Int × Int))) (x1 : (Int × (List (Int × Int)))) : St := { slots := mkSlots 16 [(1, .ptr 32 [.idx 0] false), (2, .ptr 33 [.idx 0] false), (3, .ptr 34 [.idx 0] false), (4, .val (.int .i64) x1.1)], objs := mkObjs 35 [(32, .dat ⟨38, (.arr 12 (.st (.pair (.int .u8) (.int .i16)))), [p1_0], true, true, none⟩), (33, .dat ⟨43, (.arr 12 (.st (.pair (.int .u8) (.int .i16)))), [p1_1], true, true, none⟩), (34, .dat ⟨43, (.arr 12 (.st (.pair (.int .u8) (.int .i16)))), [x1.2], true, true, none⟩)] }
noncomputable def Fz16.LB1 {α : Type} (fFz15 : Fz15.A → Option Fz15.B) (fuel : Nat) (cont : Ex → St → Option α) : (St → Option α) → St → Option α := roundV (Fz16.E fFz15) fuel [true, true, false, true, false] (bodyOf Try.f22) Fz16.ann cont
noncomputable def Fz16.C1 {α : Type} (fFz15 : Fz15.A → Option Fz15.B) (K : Res → Option α) (fuel : Nat) : Ex → St → Option α := contAt (Fz16.E fFz15) fuel [true, true, false, true, false] (bodyOf Try.f22) Fz16.ann [] (finK TT 0 [none] Try.f22 [] K)
noncomputable def Fz16.ex1_0 (p1_0 : (List (Int × Int))) (p1_1 : (List (Int × Int))) (x1 : (Int × (List (Int × Int)))) : St := { slots := mkSlots 16 [(1, .ptr 32 [.idx 0] false), (2, .ptr 33 [.idx 0] false), (3, .ptr 34 [.idx 0] false), (4, .val (.int .i64) x1.1), (5, .val (.int .i64) x1.1), (6, .val .bool (decide (x1.1 < (12 : Int))))], objs := mkObjs 35 [(32, .dat ⟨38, (.arr 12 (.st (.pair (.int .u8) (.int .i16)))), [p1_0], true, true, none⟩), (33, .dat ⟨43, (.arr 12 (.st (.pair (.int .u8) (.int .i16)))), [p1_1], true, true, none⟩), (34, .dat ⟨43, (.arr 12 (.st (.pair (.int .u8) (.int .i16)))), [x1.2], true, true, none⟩)] }
noncomputable def Fz16.B1 {α : Type} (fFz15 : Fz15.A → Option Fz15.B) (p1_0 : (List (Int × Int))) (p1_1 : (List (Int × Int))) (K0 : (Int × (List (Int × Int))) → Option α) (rec : (Int × (List (Int × Int))) → Option α) (x1 : (Int × (List (Int × Int)))) : Option α :=
  cond (decide (x1.1 < (12 : Int))) (cond (inB x1.1 12) ((fFz15 (List.getD p1_0 (x1.1 : Int).toNat ((0 : Int), (0 : Int)))).bind fun r1001 => cond (inB x1.1 12) (rec (((IntKind.i64.wrap (x1.1 + (1 : Int))), (List.set x1.2 (x1.1 : Int).toNat r1001)))) none) none) (K0 x1)
theorem Fz16.step1 {α : Type} (fFz15 : Fz15.A → Option Fz15.B) (fuel : Nat) (cont : Ex → St → Option α) (p1_0 : (List (Int × Int))) (p1_1 : (List (Int × Int))) (rec : St → Option α) (x1 : (Int × (List (Int × Int)))) : Fz16.LB1 fFz15 fuel cont rec (Fz16.emb1 p1_0 p1_1 x1) = Fz16.B1 fFz15 p1_0 p1_1 (fun x1 => cont (.exit 0) (Fz16.ex1_0 p1_0 p1_1 x1)) (fun y => rec (Fz16.emb1 p1_0 p1_1 y)) x1 := by kernel_rfl
theorem Fz16.loop1 {α : Type} (fFz15 : Fz15.A → Option Fz15.B) (fuel : Nat) (cont : Ex → St → Option α) (p1_0 : (List (Int × Int))) (p1_1 : (List (Int × Int))) (x1 : (Int × (List (Int × Int)))) : loopN (Fz16.LB1 fFz15 fuel cont) fuel (Fz16.emb1 p1_0 p1_1 x1) = iter (Fz16.B1 fFz15 p1_0 p1_1 (fun x1 => cont (.exit 0) (Fz16.ex1_0 p1_0 p1_1 x1))) fuel x1 := loop_sim (fun rec x => Fz16.step1 fFz15 fuel cont p1_0 p1_1 rec x) fuel x1
noncomputable def Fz16.pf {α : Type} (fFz15 : Fz15.A → Option Fz15.B) (fuel : Nat) (a0 : (List (Int × Int))) (k : (List (Int × Int)) → Option α) : Option α :=
  iter (Fz16.B1 fFz15 a0 (List.replicate 12 ((0 : Int), (0 : Int))) (fun (x1 : (Int × (List (Int × Int)))) => k x1.2)) fuel (((0 : Int), (List.replicate 12 ((0 : Int), (0 : Int)))))
theorem Fz16.tail1 {α : Type} (fFz15 : Fz15.A → Option Fz15.B) (K : Res → Option α) (fuel : Nat) (a0 : (List (Int × Int))) (x1 : (Int × (List (Int × Int)))) : Fz16.C1 fFz15 K fuel (.exit 0) (Fz16.ex1_0 a0 (List.replicate 12 ((0 : Int), (0 : Int))) x1) = ((fun (k : (List (Int × Int)) → Option α) => k x1.2) (fun r => K (Fz16.enc 0 r))) := by kernel_rfl
theorem Fz16.red_raw {α : Type} (fFz15 : Fz15.A → Option Fz15.B) (K : Res → Option α) (fuel : Nat) (a0 : (List (Int × Int))) : run TT small (Fz16.tab fFz15) Try.f22 Fz16.ann [] fuel [.val (.arr 12 (.st (.pair (.int .u8) (.int .i16)))) a0] K = loopN (Fz16.LB1 fFz15 fuel (Fz16.C1 fFz15 K fuel)) fuel (Fz16.emb1 a0 (List.replicate 12 ((0 : Int), (0 : Int))) (((0 : Int), (List.replicate 12 ((0 : Int), (0 : Int)))))) := by kernel_rfl
theorem Fz16.red {α : Type} (fFz15 : Fz15.A → Option Fz15.B) (K : Res → Option α) (fuel : Nat) (a0 : (List (Int × Int))) : run TT small (Fz16.tab fFz15) Try.f22 Fz16.ann [] fuel [.val (.arr 12 (.st (.pair (.int .u8) (.int .i16)))) a0] K = Fz16.pf fFz15 fuel a0 (fun r => K (Fz16.enc 0 r)) := by
  rw [Fz16.red_raw]
  simp only [Fz16.loop1, Fz16.tail1]
  all_goals kernel_rfl
theorem Fz16.sound (fFz15 : Fz15.A → Option Fz15.B) (hFz15 : Fz15.S fFz15) (f : Fz16.A → Option Fz16.B) (hf : ∀ x r, f x = some r → ∃ fuel, ∀ k : Fz16.B → Option Res, Fz16.pf fFz15 fuel x k = k r) : Fz16.S f := by
  refine fn_sound (by kernel_rfl) (ttok _) (tab_sound [(55, Fz15.sig fFz15)] (List.forall_mem_cons.2 ⟨hFz15, fun p hp => nomatch hp⟩)) (fn := Try.f22) (by kernel_rfl) (by decide) (by decide) Fz16.ann [] _ rfl (fun avs r hr => ?_) (by kernel_rfl)
  obtain ⟨x, y, h1, h2, rfl⟩ := mkSig_run hr
  obtain rfl := Fz16.dec_eq h1
  obtain ⟨fuel, hk⟩ := hf x y h2
  exact ⟨fuel, (Fz16.red fFz15 some fuel x).trans (hk (fun r => some (Fz16.enc 0 r)))⟩
theorem Fz16.of_cl {fFz15 : Fz15.A → Option Fz15.B} (hFz15 : Fz15.S fFz15) {P : Fz16.A → Prop} {v : Fz16.A → Fz16.B} (hp : ∀ x, P x → ∀ k : Fz16.B → Option Res, Fz16.pf fFz15 BIG x k = k (v x)) : Fz16.S (cl P v) := Fz16.sound _ hFz15 _ (fun x r hr => by obtain ⟨h1, rfl⟩ := cl_some hr; exact ⟨BIG, hp x h1⟩)
theorem Fz16.of_tot {fFz15 : Fz15.A → Option Fz15.B} (hFz15 : Fz15.S fFz15) {v : Fz16.A → Fz16.B} (hp : ∀ x, ∀ k : Fz16.B → Option Res, Fz16.pf fFz15 BIG x k = k (v x)) : Fz16.S (tot v) := Fz16.sound _ hFz15 _ (fun x r hr => by obtain rfl := Option.some.inj hr; exact ⟨BIG, hp x⟩)
/-! 105 spec_l01Free -/
noncomputable def Fz33.tab : FuncId → Option Sig := tabOf []
noncomputable def Fz33.E : Env := ⟨TT, small, Fz33.tab , 0, 6⟩
def Fz33.ann : Ann := .nil
noncomputable def Fz33.pf {α : Type} (fuel : Nat) (a0 : (Int × Int)) (k : Bool → Option α) : Option α :=
  k (eqV (.st (.pair (.int .u8) (.int .i16))) a0 ((0 : Int), (0 : Int)))
theorem Fz33.red {α : Type} (K : Res → Option α) (fuel : Nat) (a0 : (Int × Int)) : run TT small Fz33.tab Try.f105 Fz33.ann [] fuel [.val (.st (.pair (.int .u8) (.int .i16))) a0] K = Fz33.pf fuel a0 (fun r => K (Fz33.enc 0 r)) := by kernel_rfl
theorem Fz33.sound (f : Fz33.A → Option Fz33.B) (hf : ∀ x r, f x = some r → ∃ fuel, ∀ k : Fz33.B → Option Res, Fz33.pf fuel x k = k r) : Fz33.S f := by
  refine fn_sound (by kernel_rfl) (ttok _) (tab_sound [] (fun p hp => nomatch hp)) (fn := Try.f105) (by kernel_rfl) (by decide) (by decide) Fz33.ann [] _ rfl (fun avs r hr => ?_) (by kernel_rfl)
  obtain ⟨x, y, h1, h2, rfl⟩ := mkSig_run hr
  obtain rfl := Fz33.dec_eq h1
  obtain ⟨fuel, hk⟩ := hf x y h2
  exact ⟨fuel, (Fz33.red some fuel x).trans (hk (fun r => some (Fz33.enc 0 r)))⟩
theorem Fz33.of_cl {P : Fz33.A → Prop} {v : Fz33.A → Fz33.B} (hp : ∀ x, P x → ∀ k : Fz33.B → Option Res, Fz33.pf BIG x k = k (v x)) : Fz33.S (cl P v) := Fz33.sound  _ (fun x r hr => by obtain ⟨h1, rfl⟩ := cl_some hr; exact ⟨BIG, hp x h1⟩)
theorem Fz33.of_tot {v : Fz33.A → Fz33.B} (hp : ∀ x, ∀ k : Fz33.B → Option Res, Fz33.pf BIG x k = k (v x)) : Fz33.S (tot v) := Fz33.sound  _ (fun x r hr => by obtain rfl := Option.some.inj hr; exact ⟨BIG, hp x⟩)
/-! 99 spec_l00In -/
noncomputable def spec_l00In.tab : FuncId → Option Sig := tabOf []
noncomputable def spec_l00In.E : Env := ⟨TT, small, spec_l00In.tab , 0, 15⟩
def spec_l00In.ann : Ann := .nil
noncomputable def spec_l00In.pf {α : Type} (fuel : Nat) (a0 : Int) (a1 : Int) (a2 : Int) (k : Bool → Option α) : Option α :=
  cond (decide (a0 ≥ a1)) (k (decide (a0 ≤ a2))) (k false)
theorem spec_l00In.red {α : Type} (K : Res → Option α) (fuel : Nat) (a0 : Int) (a1 : Int) (a2 : Int) : run TT small spec_l00In.tab Try.f99 spec_l00In.ann [] fuel [.val (.int .i64) a0, .val (.int .i64) a1, .val (.int .i64) a2] K = spec_l00In.pf fuel a0 a1 a2 (fun r => K (spec_l00In.enc 0 r)) := by kernel_rfl
theorem spec_l00In.sound (f : spec_l00In.A → Option spec_l00In.B) (hf : ∀ x r, f x = some r → ∃ fuel, ∀ k : spec_l00In.B → Option Res, spec_l00In.pf fuel x.1 x.2.1 x.2.2 k = k r) : spec_l00In.S f := by
  refine fn_sound (by kernel_rfl) (ttok _) (tab_sound [] (fun p hp => nomatch hp)) (fn := Try.f99) (by kernel_rfl) (by decide) (by decide) spec_l00In.ann [] _ rfl (fun avs r hr => ?_) (by kernel_rfl)
  obtain ⟨x, y, h1, h2, rfl⟩ := mkSig_run hr
  obtain rfl := spec_l00In.dec_eq h1
  obtain ⟨fuel, hk⟩ := hf x y h2
  exact ⟨fuel, (spec_l00In.red some fuel x.1 x.2.1 x.2.2).trans (hk (fun r => some (spec_l00In.enc 0 r)))⟩
theorem spec_l00In.of_cl {P : spec_l00In.A → Prop} {v : spec_l00In.A → spec_l00In.B} (hp : ∀ x, P x → ∀ k : spec_l00In.B → Option Res, spec_l00In.pf BIG x.1 x.2.1 x.2.2 k = k (v x)) : spec_l00In.S (cl P v) := spec_l00In.sound  _ (fun x r hr => by obtain ⟨h1, rfl⟩ := cl_some hr; exact ⟨BIG, hp x h1⟩)
theorem spec_l00In.of_tot {v : spec_l00In.A → spec_l00In.B} (hp : ∀ x, ∀ k : spec_l00In.B → Option Res, spec_l00In.pf BIG x.1 x.2.1 x.2.2 k = k (v x)) : spec_l00In.S (tot v) := spec_l00In.sound  _ (fun x r hr => by obtain rfl := Option.some.inj hr; exact ⟨BIG, hp x⟩)
/-! 53 spec_l01Bottle -/
noncomputable def Fz32.tab (fspec_l00In : spec_l00In.A → Option spec_l00In.B) : FuncId → Option Sig := tabOf [(99, spec_l00In.sig fspec_l00In)]
noncomputable def Fz32.E (fspec_l00In : spec_l00In.A → Option spec_l00In.B) : Env := ⟨TT, small, Fz32.tab fspec_l00In, 0, 13⟩
def Fz32.ann : Ann := .nil
noncomputable def Fz32.pf {α : Type} (fspec_l00In : spec_l00In.A → Option spec_l00In.B) (fuel : Nat) (a0 : (Int × Int)) (k : Bool → Option α) : Option α :=
  (fspec_l00In ((IntKind.i64.wrap a0.1), (1 : Int), (20 : Int))).bind fun r1 => cond r1 ((fspec_l00In ((IntKind.i64.wrap a0.2), (1900 : Int), (2099 : Int))).bind fun r2 => k r2) (k false)
theorem Fz32.red {α : Type} (fspec_l00In : spec_l00In.A → Option spec_l00In.B) (K : Res → Option α) (fuel : Nat) (a0 : (Int × Int)) : run TT small (Fz32.tab fspec_l00In) Try.f53 Fz32.ann [] fuel [.val (.st (.pair (.int .u8) (.int .i16))) a0] K = Fz32.pf fspec_l00In fuel a0 (fun r => K (Fz32.enc 0 r)) := by kernel_rfl
theorem Fz32.sound (fspec_l00In : spec_l00In.A → Option spec_l00In.B) (hspec_l00In : spec_l00In.S fspec_l00In) (f : Fz32.A → Option Fz32.B) (hf : ∀ x r, f x = some r → ∃ fuel, ∀ k : Fz32.B → Option Res, Fz32.pf fspec_l00In fuel x k = k r) : Fz32.S f := by
  refine fn_sound (by kernel_rfl) (ttok _) (tab_sound [(99, spec_l00In.sig fspec_l00In)] (List.forall_mem_cons.2 ⟨hspec_l00In, fun p hp => nomatch hp⟩)) (fn := Try.f53) (by kernel_rfl) (by decide) (by decide) Fz32.ann [] _ rfl (fun avs r hr => ?_) (by kernel_rfl)
  obtain ⟨x, y, h1, h2, rfl⟩ := mkSig_run hr
  obtain rfl := Fz32.dec_eq h1
  obtain ⟨fuel, hk⟩ := hf x y h2
  exact ⟨fuel, (Fz32.red fspec_l00In some fuel x).trans (hk (fun r => some (Fz32.enc 0 r)))⟩
theorem Fz32.of_cl {fspec_l00In : spec_l00In.A → Option spec_l00In.B} (hspec_l00In : spec_l00In.S fspec_l00In) {P : Fz32.A → Prop} {v : Fz32.A → Fz32.B} (hp : ∀ x, P x → ∀ k : Fz32.B → Option Res, Fz32.pf fspec_l00In BIG x k = k (v x)) : Fz32.S (cl P v) := Fz32.sound _ hspec_l00In _ (fun x r hr => by obtain ⟨h1, rfl⟩ := cl_some hr; exact ⟨BIG, hp x h1⟩)
theorem Fz32.of_tot {fspec_l00In : spec_l00In.A → Option spec_l00In.B} (hspec_l00In : spec_l00In.S fspec_l00In) {v : Fz32.A → Fz32.B} (hp : ∀ x, ∀ k : Fz32.B → Option Res, Fz32.pf fspec_l00In BIG x k = k (v x)) : Fz32.S (tot v) := Fz32.sound _ hspec_l00In _ (fun x r hr => by obtain rfl := Option.some.inj hr; exact ⟨BIG, hp x⟩)
/-! 64 spec_l01Ok -/
noncomputable def spec_l01Ok.tab (fFz33 : Fz33.A → Option Fz33.B) (fFz32 : Fz32.A → Option Fz32.B) : FuncId → Option Sig := tabOf [(105, Fz33.sig fFz33), (53, Fz32.sig fFz32)]
noncomputable def spec_l01Ok.E (fFz33 : Fz33.A → Option Fz33.B) (fFz32 : Fz32.A → Option Fz32.B) : Env := ⟨TT, small, spec_l01Ok.tab fFz33 fFz32, 1, 24⟩
def spec_l01Ok.ann : Ann := (.two .nil (.two (.two .nil (.one (.loop [0, 3] .nil))) .nil))
noncomputable def spec_l01Ok.emb1 (e0 : TypeId) (p1_0 : (List (Int × Int))) (x1 : Int) : St := { slots := mkSlots 24 [(0, .ptr 0 [.idx 0] false), (3, .val (.int .i64) x1)], objs := mkObjs 49 [(0, .dat ⟨e0, (.arr 12 (.st (.pair (.int .u8) (.int .i16)))), [p1_0], false, false, none⟩)] }
noncomputable def spec_l01Ok.LB1 {α : Type} (fFz33 : Fz33.A → Option Fz33.B) (fFz32 : Fz32.A → Option Fz32.B) (fuel : Nat) (cont : Ex → St → Option α) : (St → Option α) → St → Option α := roundV (spec_l01Ok.E fFz33 fFz32) fuel [true, false, true, false] (bodyOf Try.f64) spec_l01Ok.ann cont
noncomputable def spec_l01Ok.C1 {α : Type} (fFz33 : Fz33.A → Option Fz33.B) (fFz32 : Fz32.A → Option Fz32.B) (K : Res → Option α) (fuel : Nat) : Ex → St → Option α := contAt (spec_l01Ok.E fFz33 fFz32) fuel [true, false, true, false] (bodyOf Try.f64) spec_l01Ok.ann [] (finK TT 1 [some 0] Try.f64 [] K)
noncomputable def spec_l01Ok.ex1_0 (e0 : TypeId) (p1_0 : (List (Int × Int))) (x1 : Int) (r1001 : Bool) (r1002 : Bool) : St := { slots := mkSlots 24 [(0, .ptr 0 [.idx 0] false), (2, .val .bool false), (3, .val (.int .i64) x1), (4, .val (.int .i64) x1), (5, .val .bool (decide (x1 < (12 : Int)))), (8, .ptr 0 [.idx 0] false), (9, .val (.int .i64) x1), (10, .ptr 0 [.idx 0] false), (11, .ptr 0 [.idx 0, .idx (x1 : Int).toNat] false), (12, .val (.st (.pair (.int .u8) (.int .i16))) (List.getD p1_0 (x1 : Int).toNat ((0 : Int), (0 : Int)))), (13, .val .bool r1001), (14, .val .bool (!r1001)), (15, .val .bool true), (16, .ptr 0 [.idx 0] false), (17, .val (.int .i64) x1), (18, .ptr 0 [.idx 0] false), (19, .ptr 0 [.idx 0, .idx (x1 : Int).toNat] false), (20, .val (.st (.pair (.int .u8) (.int .i16))) (List.getD p1_0 (x1 : Int).toNat ((0 : Int), (0 : Int)))), (21, .val .bool r1002), (22, .val .bool (!r1002)), (23, .val .bool (!r1002))], objs := mkObjs 49 [(0, .dat ⟨e0, (.arr 12 (.st (.pair (.int .u8) (.int .i16)))), [p1_0], false, false, none⟩)] }
noncomputable def spec_l01Ok.ex1_1 (e0 : TypeId) (p1_0 : (List (Int × Int))) (x1 : Int) : St := { slots := mkSlots 24 [(0, .ptr 0 [.idx 0] false), (3, .val (.int .i64) x1), (4, .val (.int .i64) x1), (5, .val .bool (decide (x1 < (12 : Int))))], objs := mkObjs 49 [(0, .dat ⟨e0, (.arr 12 (.st (.pair (.int .u8) (.int .i16)))), [p1_0], false, false, none⟩)] }
noncomputable def spec_l01Ok.B1 {α : Type} (fFz33 : Fz33.A → Option Fz33.B) (fFz32 : Fz32.A → Option Fz32.B) (p1_0 : (List (Int × Int))) (K0 : Int → Bool → Bool → Option α) (K1 : Int → Option α) (rec : Int → Option α) (x1 : Int) : Option α :=
  cond (decide (x1 < (12 : Int))) (cond (inB x1 12) ((fFz33 (List.getD p1_0 (x1 : Int).toNat ((0 : Int), (0 : Int)))).bind fun r1001 => cond (!r1001) (cond (inB x1 12) ((fFz32 (List.getD p1_0 (x1 : Int).toNat ((0 : Int), (0 : Int)))).bind fun r1002 => cond (!r1002) (K0 x1 r1001 r1002) (rec (IntKind.i64.wrap (x1 + (1 : Int))))) none) (rec (IntKind.i64.wrap (x1 + (1 : Int))))) none) (K1 x1)
theorem spec_l01Ok.step1 {α : Type} (fFz33 : Fz33.A → Option Fz33.B) (fFz32 : Fz32.A → Option Fz32.B) (fuel : Nat) (cont : Ex → St → Option α) (e0 : TypeId) (p1_0 : (List (Int × Int))) (rec : St → Option α) (x1 : Int) : spec_l01Ok.LB1 fFz33 fFz32 fuel cont rec (spec_l01Ok.emb1 e0 p1_0 x1) = spec_l01Ok.B1 fFz33 fFz32 p1_0 (fun x1 r1001 r1002 => cont .ret (spec_l01Ok.ex1_0 e0 p1_0 x1 r1001 r1002)) (fun x1 => cont (.exit 0) (spec_l01Ok.ex1_1 e0 p1_0 x1)) (fun y => rec (spec_l01Ok.emb1 e0 p1_0 y)) x1 := by kernel_rfl
theorem spec_l01Ok.loop1 {α : Type} (fFz33 : Fz33.A → Option Fz33.B) (fFz32 : Fz32.A → Option Fz32.B) (fuel : Nat) (cont : Ex → St → Option α) (e0 : TypeId) (p1_0 : (List (Int × Int))) (x1 : Int) : loopN (spec_l01Ok.LB1 fFz33 fFz32 fuel cont) fuel (spec_l01Ok.emb1 e0 p1_0 x1) = iter (spec_l01Ok.B1 fFz33 fFz32 p1_0 (fun x1 r1001 r1002 => cont .ret (spec_l01Ok.ex1_0 e0 p1_0 x1 r1001 r1002)) (fun x1 => cont (.exit 0) (spec_l01Ok.ex1_1 e0 p1_0 x1))) fuel x1 := loop_sim (fun rec x => spec_l01Ok.step1 fFz33 fFz32 fuel cont e0 p1_0 rec x) fuel x1
noncomputable def spec_l01Ok.pf {α : Type} (fFz33 : Fz33.A → Option Fz33.B) (fFz32 : Fz32.A → Option Fz32.B) (fuel : Nat) (a0 : (List (Int × Int))) (k : Bool → Option α) : Option α :=
  iter (spec_l01Ok.B1 fFz33 fFz32 a0 (fun (x1 : Int) (r1001 : Bool) (r1002 : Bool) => k false) (fun (x1 : Int) => k true)) fuel (0 : Int)
theorem spec_l01Ok.tail1 {α : Type} (fFz33 : Fz33.A → Option Fz33.B) (fFz32 : Fz32.A → Option Fz32.B) (K : Res → Option α) (fuel : Nat) (e0 : TypeId) (a0 : (List (Int × Int))) (x1 : Int) (r1001 : Bool) (r1002 : Bool) : spec_l01Ok.C1 fFz33 fFz32 K fuel .ret (spec_l01Ok.ex1_0 e0 a0 x1 r1001 r1002) = ((fun (k : Bool → Option α) => k false) (fun r => K (spec_l01Ok.enc 0 r))) := by kernel_rfl
theorem spec_l01Ok.tail2 {α : Type} (fFz33 : Fz33.A → Option Fz33.B) (fFz32 : Fz32.A → Option Fz32.B) (K : Res → Option α) (fuel : Nat) (e0 : TypeId) (a0 : (List (Int × Int))) (x1 : Int) : spec_l01Ok.C1 fFz33 fFz32 K fuel (.exit 0) (spec_l01Ok.ex1_1 e0 a0 x1) = ((fun (k : Bool → Option α) => k true) (fun r => K (spec_l01Ok.enc 0 r))) := by kernel_rfl
theorem spec_l01Ok.red_raw {α : Type} (fFz33 : Fz33.A → Option Fz33.B) (fFz32 : Fz32.A → Option Fz32.B) (K : Res → Option α) (fuel : Nat) (e0 : TypeId) (a0 : (List (Int × Int))) : run TT small (spec_l01Ok.tab fFz33 fFz32) Try.f64 spec_l01Ok.ann [] fuel [.obj true ⟨e0, (.arr 12 (.st (.pair (.int .u8) (.int .i16)))), [a0]⟩] K = loopN (spec_l01Ok.LB1 fFz33 fFz32 fuel (spec_l01Ok.C1 fFz33 fFz32 K fuel)) fuel (spec_l01Ok.emb1 e0 a0 (0 : Int)) := by kernel_rfl
theorem spec_l01Ok.red {α : Type} (fFz33 : Fz33.A → Option Fz33.B) (fFz32 : Fz32.A → Option Fz32.B) (K : Res → Option α) (fuel : Nat) (e0 : TypeId) (a0 : (List (Int × Int))) : run TT small (spec_l01Ok.tab fFz33 fFz32) Try.f64 spec_l01Ok.ann [] fuel [.obj true ⟨e0, (.arr 12 (.st (.pair (.int .u8) (.int .i16)))), [a0]⟩] K = spec_l01Ok.pf fFz33 fFz32 fuel a0 (fun r => K (spec_l01Ok.enc 0 r)) := by
  rw [spec_l01Ok.red_raw]
  simp only [spec_l01Ok.loop1, spec_l01Ok.tail1, spec_l01Ok.tail2]
  all_goals kernel_rfl
theorem spec_l01Ok.sound (fFz33 : Fz33.A → Option Fz33.B) (fFz32 : Fz32.A → Option Fz32.B) (hFz33 : Fz33.S fFz33) (hFz32 : Fz32.S fFz32) (f : spec_l01Ok.A → Option spec_l01Ok.B) (hf : ∀ x r, f x = some r → ∃ fuel, ∀ k : spec_l01Ok.B → Option Res, spec_l01Ok.pf fFz33 fFz32 fuel x k = k r) : spec_l01Ok.S f := by
  refine fn_sound (by kernel_rfl) (ttok _) (tab_sound [(105, Fz33.sig fFz33), (53, Fz32.sig fFz32)] (List.forall_mem_cons.2 ⟨hFz33, List.forall_mem_cons.2 ⟨hFz32, fun p hp => nomatch hp⟩⟩)) (fn := Try.f64) (by kernel_rfl) (by decide) (by decide) spec_l01Ok.ann [] _ rfl (fun avs r hr => ?_) (by kernel_rfl)
  obtain ⟨x, y, h1, h2, rfl⟩ := mkSig_run hr
  obtain ⟨e0, rfl⟩ := spec_l01Ok.dec_eq h1
  obtain ⟨fuel, hk⟩ := hf x y h2
  exact ⟨fuel, (spec_l01Ok.red fFz33 fFz32 some fuel e0 x).trans (hk (fun r => some (spec_l01Ok.enc 0 r)))⟩
theorem spec_l01Ok.of_cl {fFz33 : Fz33.A → Option Fz33.B} {fFz32 : Fz32.A → Option Fz32.B} (hFz33 : Fz33.S fFz33) (hFz32 : Fz32.S fFz32) {P : spec_l01Ok.A → Prop} {v : spec_l01Ok.A → spec_l01Ok.B} (hp : ∀ x, P x → ∀ k : spec_l01Ok.B → Option Res, spec_l01Ok.pf fFz33 fFz32 BIG x k = k (v x)) : spec_l01Ok.S (cl P v) := spec_l01Ok.sound _ _ hFz33 hFz32 _ (fun x r hr => by obtain ⟨h1, rfl⟩ := cl_some hr; exact ⟨BIG, hp x h1⟩)
theorem spec_l01Ok.of_tot {fFz33 : Fz33.A → Option Fz33.B} {fFz32 : Fz32.A → Option Fz32.B} (hFz33 : Fz33.S fFz33) (hFz32 : Fz32.S fFz32) {v : spec_l01Ok.A → spec_l01Ok.B} (hp : ∀ x, ∀ k : spec_l01Ok.B → Option Res, spec_l01Ok.pf fFz33 fFz32 BIG x k = k (v x)) : spec_l01Ok.S (tot v) := spec_l01Ok.sound _ _ hFz33 hFz32 _ (fun x r hr => by obtain rfl := Option.some.inj hr; exact ⟨BIG, hp x⟩)
/-! 71 spec_l01All -/
noncomputable def Fz31.tab (fFz33 : Fz33.A → Option Fz33.B) : FuncId → Option Sig := tabOf [(105, Fz33.sig fFz33)]
noncomputable def Fz31.E (fFz33 : Fz33.A → Option Fz33.B) : Env := ⟨TT, small, Fz31.tab fFz33, 1, 26⟩
def Fz31.ann : Ann := (.two .nil (.two .nil (.two (.two .nil (.one (.loop [0, 3, 4] .nil))) .nil)))
noncomputable def Fz31.emb1 (e0 : TypeId) (p1_0 : (List (Int × Int))) (x1 : (Int × (List (Int × Int)))) : St := { slots := mkSlots 26 [(0, .ptr 0 [.idx 0] false), (3, .sl 53 [] none), (4, .val (.int .i64) x1.1)], objs := mkObjs 54 [(0, .dat ⟨e0, (.arr 12 (.st (.pair (.int .u8) (.int .i16)))), [p1_0], false, false, none⟩), (53, .dat ⟨41, (.st (.pair (.int .u8) (.int .i16))), x1.2, true, true, none⟩)] }
noncomputable def Fz31.LB1 {α : Type} (fFz33 : Fz33.A → Option Fz33.B) (fuel : Nat) (cont : Ex → St → Option α) : (St → Option α) → St → Option α := roundV (Fz31.E fFz33) fuel [true, true, false, true, false] (bodyOf Try.f71) Fz31.ann cont
noncomputable def Fz31.C1 {α : Type} (fFz33 : Fz33.A → Option Fz33.B) (K : Res → Option α) (fuel : Nat) : Ex → St → Option α := contAt (Fz31.E fFz33) fuel [true, true, false, true, false] (bodyOf Try.f71) Fz31.ann [] (finK TT 1 [some 0] Try.f71 [] K)
noncomputable def Fz31.ex1_0 (e0 : TypeId) (p1_0 : (List (Int × Int))) (x1 : (Int × (List (Int × Int)))) : St := { slots := mkSlots 26 [(0, .ptr 0 [.idx 0] false), (3, .sl 53 [] none), (4, .val (.int .i64) x1.1), (6, .val (.int .i64) x1.1), (7, .val .bool (decide (x1.1 < (12 : Int))))], objs := mkObjs 54 [(0, .dat ⟨e0, (.arr 12 (.st (.pair (.int .u8) (.int .i16)))), [p1_0], false, false, none⟩), (53, .dat ⟨41, (.st (.pair (.int .u8) (.int .i16))), x1.2, true, true, none⟩)] }
noncomputable def Fz31.B1 {α : Type} (fFz33 : Fz33.A → Option Fz33.B) (p1_0 : (List (Int × Int))) (K0 : (Int × (List (Int × Int))) → Option α) (rec : (Int × (List (Int × Int))) → Option α) (x1 : (Int × (List (Int × Int)))) : Option α :=
  cond (decide (x1.1 < (12 : Int))) (cond (inB x1.1 12) ((fFz33 (List.getD p1_0 (x1.1 : Int).toNat ((0 : Int), (0 : Int)))).bind fun r1001 => cond (!r1001) (cond (inB x1.1 12) (cond (okL (List.length x1.2 + List.length [(List.getD p1_0 (x1.1 : Int).toNat ((0 : Int), (0 : Int)))])) (rec (((IntKind.i64.wrap (x1.1 + (1 : Int))), (x1.2 ++ [(List.getD p1_0 (x1.1 : Int).toNat ((0 : Int), (0 : Int)))])))) none) none) (rec (((IntKind.i64.wrap (x1.1 + (1 : Int))), x1.2)))) none) (K0 x1)
theorem Fz31.step1 {α : Type} (fFz33 : Fz33.A → Option Fz33.B) (fuel : Nat) (cont : Ex → St → Option α) (e0 : TypeId) (p1_0 : (List (Int × Int))) (rec : St → Option α) (x1 : (Int × (List (Int × Int)))) : Fz31.LB1 fFz33 fuel cont rec (Fz31.emb1 e0 p1_0 x1) = Fz31.B1 fFz33 p1_0 (fun x1 => cont (.exit 0) (Fz31.ex1_0 e0 p1_0 x1)) (fun y => rec (Fz31.emb1 e0 p1_0 y)) x1 := by kernel_rfl
theorem Fz31.loop1 {α : Type} (fFz33 : Fz33.A → Option Fz33.B) (fuel : Nat) (cont : Ex → St → Option α) (e0 : TypeId) (p1_0 : (List (Int × Int))) (x1 : (Int × (List (Int × Int)))) : loopN (Fz31.LB1 fFz33 fuel cont) fuel (Fz31.emb1 e0 p1_0 x1) = iter (Fz31.B1 fFz33 p1_0 (fun x1 => cont (.exit 0) (Fz31.ex1_0 e0 p1_0 x1))) fuel x1 := loop_sim (fun rec x => Fz31.step1 fFz33 fuel cont e0 p1_0 rec x) fuel x1
noncomputable def Fz31.pf {α : Type} (fFz33 : Fz33.A → Option Fz33.B) (fuel : Nat) (a0 : (List (Int × Int))) (k : (List (Int × Int)) → Option α) : Option α :=
  iter (Fz31.B1 fFz33 a0 (fun (x1 : (Int × (List (Int × Int)))) => k x1.2)) fuel ((0 : Int), ([] : List (Int × Int)))
theorem Fz31.tail1 {α : Type} (fFz33 : Fz33.A → Option Fz33.B) (K : Res → Option α) (fuel : Nat) (e0 : TypeId) (a0 : (List (Int × Int))) (x1 : (Int × (List (Int × Int)))) : Fz31.C1 fFz33 K fuel (.exit 0) (Fz31.ex1_0 e0 a0 x1) = ((fun (k : (List (Int × Int)) → Option α) => k x1.2) (fun r => K (Fz31.enc 0 r))) := by kernel_rfl
theorem Fz31.red_raw {α : Type} (fFz33 : Fz33.A → Option Fz33.B) (K : Res → Option α) (fuel : Nat) (e0 : TypeId) (a0 : (List (Int × Int))) : run TT small (Fz31.tab fFz33) Try.f71 Fz31.ann [] fuel [.obj true ⟨e0, (.arr 12 (.st (.pair (.int .u8) (.int .i16)))), [a0]⟩] K = loopN (Fz31.LB1 fFz33 fuel (Fz31.C1 fFz33 K fuel)) fuel (Fz31.emb1 e0 a0 ((0 : Int), ([] : List (Int × Int)))) := by kernel_rfl
theorem Fz31.red {α : Type} (fFz33 : Fz33.A → Option Fz33.B) (K : Res → Option α) (fuel : Nat) (e0 : TypeId) (a0 : (List (Int × Int))) : run TT small (Fz31.tab fFz33) Try.f71 Fz31.ann [] fuel [.obj true ⟨e0, (.arr 12 (.st (.pair (.int .u8) (.int .i16)))), [a0]⟩] K = Fz31.pf fFz33 fuel a0 (fun r => K (Fz31.enc 0 r)) := by
  rw [Fz31.red_raw]
  simp only [Fz31.loop1, Fz31.tail1]
  all_goals kernel_rfl
theorem Fz31.sound (fFz33 : Fz33.A → Option Fz33.B) (hFz33 : Fz33.S fFz33) (f : Fz31.A → Option Fz31.B) (hf : ∀ x r, f x = some r → ∃ fuel, ∀ k : Fz31.B → Option Res, Fz31.pf fFz33 fuel x k = k r) : Fz31.S f := by
  refine fn_sound (by kernel_rfl) (ttok _) (tab_sound [(105, Fz33.sig fFz33)] (List.forall_mem_cons.2 ⟨hFz33, fun p hp => nomatch hp⟩)) (fn := Try.f71) (by kernel_rfl) (by decide) (by decide) Fz31.ann [] _ rfl (fun avs r hr => ?_) (by kernel_rfl)
  obtain ⟨x, y, h1, h2, rfl⟩ := mkSig_run hr
  obtain ⟨e0, rfl⟩ := Fz31.dec_eq h1
  obtain ⟨fuel, hk⟩ := hf x y h2
  exact ⟨fuel, (Fz31.red fFz33 some fuel e0 x).trans (hk (fun r => some (Fz31.enc 0 r)))⟩
theorem Fz31.of_cl {fFz33 : Fz33.A → Option Fz33.B} (hFz33 : Fz33.S fFz33) {P : Fz31.A → Prop} {v : Fz31.A → Fz31.B} (hp : ∀ x, P x → ∀ k : Fz31.B → Option Res, Fz31.pf fFz33 BIG x k = k (v x)) : Fz31.S (cl P v) := Fz31.sound _ hFz33 _ (fun x r hr => by obtain ⟨h1, rfl⟩ := cl_some hr; exact ⟨BIG, hp x h1⟩)
theorem Fz31.of_tot {fFz33 : Fz33.A → Option Fz33.B} (hFz33 : Fz33.S fFz33) {v : Fz31.A → Fz31.B} (hp : ∀ x, ∀ k : Fz31.B → Option Res, Fz31.pf fFz33 BIG x k = k (v x)) : Fz31.S (tot v) := Fz31.sound _ hFz33 _ (fun x r hr => by obtain rfl := Option.some.inj hr; exact ⟨BIG, hp x⟩)
/-! 114 spec_CompareBottles -/
noncomputable def Fz28.tab : FuncId → Option Sig := tabOf []
noncomputable def Fz28.E : Env := ⟨TT, small, Fz28.tab , 0, 29⟩
def Fz28.ann : Ann := .nil
noncomputable def Fz28.pf {α : Type} (fuel : Nat) (a0 : (Int × Int)) (a1 : (Int × Int)) (k : Int → Option α) : Option α :=
  cond (decide (a0.1 < a1.1)) (k (-1 : Int)) (cond (decide (a0.1 > a1.1)) (k (1 : Int)) (cond (decide (a0.2 < a1.2)) (k (-1 : Int)) (cond (decide (a0.2 > a1.2)) (k (1 : Int)) (k (0 : Int)))))
theorem Fz28.red {α : Type} (K : Res → Option α) (fuel : Nat) (a0 : (Int × Int)) (a1 : (Int × Int)) : run TT small Fz28.tab Try.f114 Fz28.ann [] fuel [.val (.st (.pair (.int .u8) (.int .i16))) a0, .val (.st (.pair (.int .u8) (.int .i16))) a1] K = Fz28.pf fuel a0 a1 (fun r => K (Fz28.enc 0 r)) := by kernel_rfl
theorem Fz28.sound (f : Fz28.A → Option Fz28.B) (hf : ∀ x r, f x = some r → ∃ fuel, ∀ k : Fz28.B → Option Res, Fz28.pf fuel x.1 x.2 k = k r) : Fz28.S f := by
  refine fn_sound (by kernel_rfl) (ttok _) (tab_sound [] (fun p hp => nomatch hp)) (fn := Try.f114) (by kernel_rfl) (by decide) (by decide) Fz28.ann [] _ rfl (fun avs r hr => ?_) (by kernel_rfl)
  obtain ⟨x, y, h1, h2, rfl⟩ := mkSig_run hr
  obtain rfl := Fz28.dec_eq h1
  obtain ⟨fuel, hk⟩ := hf x y h2
  exact ⟨fuel, (Fz28.red some fuel x.1 x.2).trans (hk (fun r => some (Fz28.enc 0 r)))⟩
theorem Fz28.of_cl {P : Fz28.A → Prop} {v : Fz28.A → Fz28.B} (hp : ∀ x, P x → ∀ k : Fz28.B → Option Res, Fz28.pf BIG x.1 x.2 k = k (v x)) : Fz28.S (cl P v) := Fz28.sound  _ (fun x r hr => by obtain ⟨h1, rfl⟩ := cl_some hr; exact ⟨BIG, hp x h1⟩)
theorem Fz28.of_tot {v : Fz28.A → Fz28.B} (hp : ∀ x, ∀ k : Fz28.B → Option Res, Fz28.pf BIG x.1 x.2 k = k (v x)) : Fz28.S (tot v) := Fz28.sound  _ (fun x r hr => by obtain rfl := Option.some.inj hr; exact ⟨BIG, hp x⟩)
/-! 70 spec_l01Sorted -/
noncomputable def Fz35.tab (fFz28 : Fz28.A → Option Fz28.B) : FuncId → Option Sig := tabOf [(114, Fz28.sig fFz28)]
noncomputable def Fz35.E (fFz28 : Fz28.A → Option Fz28.B) : Env := ⟨TT, small, Fz35.tab fFz28, 1, 48⟩
def Fz35.ann : Ann := (.two .nil (.two .nil (.two (.two .nil (.one (.loop [3, 4] (.two .nil (.two (.one (.two .nil (.two .nil (.two (.one (.loop [3, 4, 5, 6] .nil)) .nil)))) .nil))))) .nil)))
noncomputable def Fz35.emb2 (e0 : TypeId) (p2_0 : Int) (p2_1 : (List (Int × Int))) (p2_2 : (Int × Int)) (x2 : (Int × (List (Int × Int)))) : St := { slots := mkSlots 48 [(3, .sl 97 [] none), (4, .val (.int .i64) p2_0), (5, .ptr 98 [.idx 0] false), (6, .val (.int .i64) x2.1)], objs := mkObjs 99 [(0, .dat ⟨e0, (.st (.pair (.int .u8) (.int .i16))), p2_1, false, false, none⟩), (97, .dat ⟨41, (.st (.pair (.int .u8) (.int .i16))), x2.2, true, true, none⟩), (98, .dat ⟨41, (.st (.pair (.int .u8) (.int .i16))), [p2_2], true, true, none⟩)] }
noncomputable def Fz35.LB2 {α : Type} (fFz28 : Fz28.A → Option Fz28.B) (fuel : Nat) (cont : Ex → St → Option α) : (St → Option α) → St → Option α := roundV (Fz35.E fFz28) fuel [true, true, false, true, false, false, true, false, false, true, true, false, false] (bodyOf Try.f70) Fz35.ann cont
noncomputable def Fz35.C2 {α : Type} (fFz28 : Fz28.A → Option Fz28.B) (fuel : Nat) (cont : Ex → St → Option α) (rec : St → Option α) : Ex → St → Option α := contAt (Fz35.E fFz28) fuel [true, false, false, true, true, false, false] (codeAt [true, true, false, true, false, false] (bodyOf Try.f70)) (annAt [true, true, false, true, false, false] Fz35.ann) [] (loopK (Fz35.E fFz28) (annAt [true, true, false, true, false] Fz35.ann).live rec cont)
noncomputable def Fz35.ex2_0 (e0 : TypeId) (p2_0 : Int) (p2_1 : (List (Int × Int))) (p2_2 : (Int × Int)) (x2 : (Int × (List (Int × Int)))) (r2001 : Int) : St := { slots := mkSlots 48 [(3, .sl 97 [] none), (4, .val (.int .i64) p2_0), (5, .ptr 98 [.idx 0] false), (6, .val (.int .i64) x2.1), (21, .val (.int .i64) x2.1), (22, .val .bool (decide (x2.1 > (0 : Int)))), (23, .val .bool true), (24, .val (.st (.pair (.int .u8) (.int .i16))) p2_2), (25, .sl 97 [] none), (26, .val (.int .i64) x2.1), (27, .val (.int .i64) (IntKind.i64.wrap (x2.1 - (1 : Int)))), (28, .ptr 97 [.idx (IntKind.i64.wrap (x2.1 - (1 : Int))).toNat] false), (29, .val (.st (.pair (.int .u8) (.int .i16))) ((List.getD x2.2 (IntKind.i64.wrap (x2.1 - (1 : Int))).toNat ((0 : Int), (0 : Int))))), (30, .val (.int .i64) r2001), (31, .val .bool (decide (r2001 < (0 : Int)))), (32, .val .bool (decide (r2001 < (0 : Int))))], objs := mkObjs 99 [(0, .dat ⟨e0, (.st (.pair (.int .u8) (.int .i16))), p2_1, false, false, none⟩), (97, .dat ⟨41, (.st (.pair (.int .u8) (.int .i16))), x2.2, true, true, none⟩), (98, .dat ⟨41, (.st (.pair (.int .u8) (.int .i16))), [p2_2], true, true, none⟩)] }
noncomputable def Fz35.ex2_1 (e0 : TypeId) (p2_0 : Int) (p2_1 : (List (Int × Int))) (p2_2 : (Int × Int)) (x2 : (Int × (List (Int × Int)))) : St := { slots := mkSlots 48 [(3, .sl 97 [] none), (4, .val (.int .i64) p2_0), (5, .ptr 98 [.idx 0] false), (6, .val (.int .i64) x2.1), (21, .val (.int .i64) x2.1), (22, .val .bool (decide (x2.1 > (0 : Int)))), (23, .val .bool false), (24, .tup []), (25, .tup []), (26, .tup []), (27, .tup []), (28, .tup []), (29, .tup []), (30, .tup []), (31, .tup []), (32, .val .bool false)], objs := mkObjs 99 [(0, .dat ⟨e0, (.st (.pair (.int .u8) (.int .i16))), p2_1, false, false, none⟩), (97, .dat ⟨41, (.st (.pair (.int .u8) (.int .i16))), x2.2, true, true, none⟩), (98, .dat ⟨41, (.st (.pair (.int .u8) (.int .i16))), [p2_2], true, true, none⟩)] }
noncomputable def Fz35.B2 {α : Type} (fFz28 : Fz28.A → Option Fz28.B) (p2_0 : Int) (p2_1 : (List (Int × Int))) (p2_2 : (Int × Int)) (K0 : (Int × (List (Int × Int))) → Int → Option α) (K1 : (Int × (List (Int × Int))) → Option α) (rec : (Int × (List (Int × Int))) → Option α) (x2 : (Int × (List (Int × Int)))) : Option α :=
  cond (decide (x2.1 > (0 : Int))) (cond (inB (IntKind.i64.wrap (x2.1 - (1 : Int))) (List.length x2.2)) ((fFz28 (p2_2, (List.getD x2.2 (IntKind.i64.wrap (x2.1 - (1 : Int))).toNat ((0 : Int), (0 : Int))))).bind fun r2001 => cond (decide (r2001 < (0 : Int))) (cond (inB (IntKind.i64.wrap (x2.1 - (1 : Int))) (List.length x2.2)) (cond (inB x2.1 (List.length x2.2)) (rec (((IntKind.i64.wrap (x2.1 - (1 : Int))), (List.set x2.2 (x2.1 : Int).toNat (List.getD x2.2 (IntKind.i64.wrap (x2.1 - (1 : Int))).toNat ((0 : Int), (0 : Int))))))) none) none) (K0 x2 r2001)) none) (K1 x2)
theorem Fz35.step2 {α : Type} (fFz28 : Fz28.A → Option Fz28.B) (fuel : Nat) (cont : Ex → St → Option α) (e0 : TypeId) (p2_0 : Int) (p2_1 : (List (Int × Int))) (p2_2 : (Int × Int)) (rec : St → Option α) (x2 : (Int × (List (Int × Int)))) : Fz35.LB2 fFz28 fuel cont rec (Fz35.emb2 e0 p2_0 p2_1 p2_2 x2) = Fz35.B2 fFz28 p2_0 p2_1 p2_2 (fun x2 r2001 => cont (.exit 2) (Fz35.ex2_0 e0 p2_0 p2_1 p2_2 x2 r2001)) (fun x2 => cont (.exit 2) (Fz35.ex2_1 e0 p2_0 p2_1 p2_2 x2)) (fun y => rec (Fz35.emb2 e0 p2_0 p2_1 p2_2 y)) x2 := by kernel_rfl
theorem Fz35.loop2 {α : Type} (fFz28 : Fz28.A → Option Fz28.B) (fuel : Nat) (cont : Ex → St → Option α) (e0 : TypeId) (p2_0 : Int) (p2_1 : (List (Int × Int))) (p2_2 : (Int × Int)) (x2 : (Int × (List (Int × Int)))) : loopN (Fz35.LB2 fFz28 fuel cont) fuel (Fz35.emb2 e0 p2_0 p2_1 p2_2 x2) = iter (Fz35.B2 fFz28 p2_0 p2_1 p2_2 (fun x2 r2001 => cont (.exit 2) (Fz35.ex2_0 e0 p2_0 p2_1 p2_2 x2 r2001)) (fun x2 => cont (.exit 2) (Fz35.ex2_1 e0 p2_0 p2_1 p2_2 x2))) fuel x2 := loop_sim (fun rec x => Fz35.step2 fFz28 fuel cont e0 p2_0 p2_1 p2_2 rec x) fuel x2
noncomputable def Fz35.emb1 (e0 : TypeId) (p1_0 : (List (Int × Int))) (x1 : (Int × (List (Int × Int)))) : St := { slots := mkSlots 48 [(3, .sl 97 [] none), (4, .val (.int .i64) x1.1)], objs := mkObjs 98 [(0, .dat ⟨e0, (.st (.pair (.int .u8) (.int .i16))), p1_0, false, false, none⟩), (97, .dat ⟨41, (.st (.pair (.int .u8) (.int .i16))), x1.2, true, true, none⟩)] }
noncomputable def Fz35.LB1 {α : Type} (fFz28 : Fz28.A → Option Fz28.B) (fuel : Nat) (cont : Ex → St → Option α) : (St → Option α) → St → Option α := roundV (Fz35.E fFz28) fuel [true, true, false, true, false] (bodyOf Try.f70) Fz35.ann cont
noncomputable def Fz35.C1 {α : Type} (fFz28 : Fz28.A → Option Fz28.B) (K : Res → Option α) (fuel : Nat) : Ex → St → Option α := contAt (Fz35.E fFz28) fuel [true, true, false, true, false] (bodyOf Try.f70) Fz35.ann [] (finK TT 1 [some 0] Try.f70 [] K)
noncomputable def Fz35.ex1_0 (e0 : TypeId) (p1_0 : (List (Int × Int))) (x1 : (Int × (List (Int × Int)))) : St := { slots := mkSlots 48 [(3, .sl 97 [] none), (4, .val (.int .i64) x1.1), (10, .val (.int .i64) x1.1), (11, .sl 97 [] none), (12, .val (.int .i64) (((List.length x1.2) : Nat) : Int)), (13, .val .bool ((decide (x1.1 < (((List.length x1.2) : Nat) : Int)))))], objs := mkObjs 98 [(0, .dat ⟨e0, (.st (.pair (.int .u8) (.int .i16))), p1_0, false, false, none⟩), (97, .dat ⟨41, (.st (.pair (.int .u8) (.int .i16))), x1.2, true, true, none⟩)] }
noncomputable def Fz35.B1 {α : Type} (fFz28 : Fz28.A → Option Fz28.B) (fuel : Nat) (p1_0 : (List (Int × Int))) (K0 : (Int × (List (Int × Int))) → Option α) (rec : (Int × (List (Int × Int))) → Option α) (x1 : (Int × (List (Int × Int)))) : Option α :=
  cond (decide (x1.1 < (((List.length x1.2) : Nat) : Int))) (cond (inB x1.1 (List.length x1.2)) (iter (Fz35.B2 fFz28 x1.1 p1_0 (List.getD x1.2 (x1.1 : Int).toNat ((0 : Int), (0 : Int))) (fun (x2 : (Int × (List (Int × Int)))) (r2001 : Int) => cond (inB x2.1 (List.length x2.2)) (rec (((IntKind.i64.wrap (x1.1 + (1 : Int))), (List.set x2.2 (x2.1 : Int).toNat (List.getD x1.2 (x1.1 : Int).toNat ((0 : Int), (0 : Int))))))) none) (fun (x2 : (Int × (List (Int × Int)))) => cond (inB x2.1 (List.length x2.2)) (rec (((IntKind.i64.wrap (x1.1 + (1 : Int))), (List.set x2.2 (x2.1 : Int).toNat (List.getD x1.2 (x1.1 : Int).toNat ((0 : Int), (0 : Int))))))) none)) fuel (x1.1, x1.2)) none) (K0 x1)
theorem Fz35.tail1 {α : Type} (fFz28 : Fz28.A → Option Fz28.B) (cont : Ex → St → Option α) (rec : St → Option α) (fuel : Nat) (e0 : TypeId) (p1_0 : (List (Int × Int))) (x1 : (Int × (List (Int × Int)))) (x2 : (Int × (List (Int × Int)))) (r2001 : Int) : Fz35.C2 fFz28 fuel cont rec (.exit 2) (Fz35.ex2_0 e0 x1.1 p1_0 (List.getD x1.2 (x1.1 : Int).toNat ((0 : Int), (0 : Int))) x2 r2001) = ((fun (rec : (Int × (List (Int × Int))) → Option α) => cond (inB x2.1 (List.length x2.2)) (rec (((IntKind.i64.wrap (x1.1 + (1 : Int))), (List.set x2.2 (x2.1 : Int).toNat (List.getD x1.2 (x1.1 : Int).toNat ((0 : Int), (0 : Int))))))) none) (fun y => rec (Fz35.emb1 e0 p1_0 y))) := by kernel_rfl
theorem Fz35.tail2 {α : Type} (fFz28 : Fz28.A → Option Fz28.B) (cont : Ex → St → Option α) (rec : St → Option α) (fuel : Nat) (e0 : TypeId) (p1_0 : (List (Int × Int))) (x1 : (Int × (List (Int × Int)))) (x2 : (Int × (List (Int × Int)))) : Fz35.C2 fFz28 fuel cont rec (.exit 2) (Fz35.ex2_1 e0 x1.1 p1_0 (List.getD x1.2 (x1.1 : Int).toNat ((0 : Int), (0 : Int))) x2) = ((fun (rec : (Int × (List (Int × Int))) → Option α) => cond (inB x2.1 (List.length x2.2)) (rec (((IntKind.i64.wrap (x1.1 + (1 : Int))), (List.set x2.2 (x2.1 : Int).toNat (List.getD x1.2 (x1.1 : Int).toNat ((0 : Int), (0 : Int))))))) none) (fun y => rec (Fz35.emb1 e0 p1_0 y))) := by kernel_rfl
theorem Fz35.step1_raw {α : Type} (fFz28 : Fz28.A → Option Fz28.B) (fuel : Nat) (cont : Ex → St → Option α) (e0 : TypeId) (p1_0 : (List (Int × Int))) (rec : St → Option α) (x1 : (Int × (List (Int × Int)))) : Fz35.LB1 fFz28 fuel cont rec (Fz35.emb1 e0 p1_0 x1) = cond (decide (x1.1 < (((List.length x1.2) : Nat) : Int))) (cond (inB x1.1 (List.length x1.2)) (loopN (Fz35.LB2 fFz28 fuel (Fz35.C2 fFz28 fuel cont rec)) fuel (Fz35.emb2 e0 x1.1 p1_0 (List.getD x1.2 (x1.1 : Int).toNat ((0 : Int), (0 : Int))) (x1.1, x1.2))) none) (cont (.exit 0) (Fz35.ex1_0 e0 p1_0 x1)) := by kernel_rfl
theorem Fz35.step1 {α : Type} (fFz28 : Fz28.A → Option Fz28.B) (fuel : Nat) (cont : Ex → St → Option α) (e0 : TypeId) (p1_0 : (List (Int × Int))) (rec : St → Option α) (x1 : (Int × (List (Int × Int)))) : Fz35.LB1 fFz28 fuel cont rec (Fz35.emb1 e0 p1_0 x1) = Fz35.B1 fFz28 fuel p1_0 (fun x1 => cont (.exit 0) (Fz35.ex1_0 e0 p1_0 x1)) (fun y => rec (Fz35.emb1 e0 p1_0 y)) x1 := by
  rw [Fz35.step1_raw]
  simp only [Fz35.loop2, Fz35.tail1, Fz35.tail2]
  all_goals kernel_rfl
theorem Fz35.loop1 {α : Type} (fFz28 : Fz28.A → Option Fz28.B) (fuel : Nat) (cont : Ex → St → Option α) (e0 : TypeId) (p1_0 : (List (Int × Int))) (x1 : (Int × (List (Int × Int)))) : loopN (Fz35.LB1 fFz28 fuel cont) fuel (Fz35.emb1 e0 p1_0 x1) = iter (Fz35.B1 fFz28 fuel p1_0 (fun x1 => cont (.exit 0) (Fz35.ex1_0 e0 p1_0 x1))) fuel x1 := loop_sim (fun rec x => Fz35.step1 fFz28 fuel cont e0 p1_0 rec x) fuel x1
noncomputable def Fz35.pf {α : Type} (fFz28 : Fz28.A → Option Fz28.B) (fuel : Nat) (a0 : (List (Int × Int))) (k : (List (Int × Int)) → Option α) : Option α :=
  cond (okL (List.length ([] : List (Int × Int)) + List.length a0)) (iter (Fz35.B1 fFz28 fuel a0 (fun (x1 : (Int × (List (Int × Int)))) => k x1.2)) fuel (((1 : Int), (([] : List (Int × Int)) ++ a0)))) none
theorem Fz35.tail3 {α : Type} (fFz28 : Fz28.A → Option Fz28.B) (K : Res → Option α) (fuel : Nat) (e0 : TypeId) (a0 : (List (Int × Int))) (x1 : (Int × (List (Int × Int)))) : Fz35.C1 fFz28 K fuel (.exit 0) (Fz35.ex1_0 e0 a0 x1) = ((fun (k : (List (Int × Int)) → Option α) => k x1.2) (fun r => K (Fz35.enc 0 r))) := by kernel_rfl
theorem Fz35.red_raw {α : Type} (fFz28 : Fz28.A → Option Fz28.B) (K : Res → Option α) (fuel : Nat) (e0 : TypeId) (a0 : (List (Int × Int))) : run TT small (Fz35.tab fFz28) Try.f70 Fz35.ann [] fuel [.obj false ⟨e0, (.st (.pair (.int .u8) (.int .i16))), a0⟩] K = cond (okL (List.length ([] : List (Int × Int)) + List.length a0)) (loopN (Fz35.LB1 fFz28 fuel (Fz35.C1 fFz28 K fuel)) fuel (Fz35.emb1 e0 a0 (((1 : Int), (([] : List (Int × Int)) ++ a0))))) none := by kernel_rfl
theorem Fz35.red {α : Type} (fFz28 : Fz28.A → Option Fz28.B) (K : Res → Option α) (fuel : Nat) (e0 : TypeId) (a0 : (List (Int × Int))) : run TT small (Fz35.tab fFz28) Try.f70 Fz35.ann [] fuel [.obj false ⟨e0, (.st (.pair (.int .u8) (.int .i16))), a0⟩] K = Fz35.pf fFz28 fuel a0 (fun r => K (Fz35.enc 0 r)) := by
  rw [Fz35.red_raw]
  simp only [Fz35.loop1, Fz35.tail3]
  all_goals kernel_rfl
theorem Fz35.sound (fFz28 : Fz28.A → Option Fz28.B) (hFz28 : Fz28.S fFz28) (f : Fz35.A → Option Fz35.B) (hf : ∀ x r, f x = some r → ∃ fuel, ∀ k : Fz35.B → Option Res, Fz35.pf fFz28 fuel x k = k r) : Fz35.S f := by
  refine fn_sound (by kernel_rfl) (ttok _) (tab_sound [(114, Fz28.sig fFz28)] (List.forall_mem_cons.2 ⟨hFz28, fun p hp => nomatch hp⟩)) (fn := Try.f70) (by kernel_rfl) (by decide) (by decide) Fz35.ann [] _ rfl (fun avs r hr => ?_) (by kernel_rfl)
  obtain ⟨x, y, h1, h2, rfl⟩ := mkSig_run hr
  obtain ⟨e0, rfl⟩ := Fz35.dec_eq h1
  obtain ⟨fuel, hk⟩ := hf x y h2
  exact ⟨fuel, (Fz35.red fFz28 some fuel e0 x).trans (hk (fun r => some (Fz35.enc 0 r)))⟩
theorem Fz35.of_cl {fFz28 : Fz28.A → Option Fz28.B} (hFz28 : Fz28.S fFz28) {P : Fz35.A → Prop} {v : Fz35.A → Fz35.B} (hp : ∀ x, P x → ∀ k : Fz35.B → Option Res, Fz35.pf fFz28 BIG x k = k (v x)) : Fz35.S (cl P v) := Fz35.sound _ hFz28 _ (fun x r hr => by obtain ⟨h1, rfl⟩ := cl_some hr; exact ⟨BIG, hp x h1⟩)
theorem Fz35.of_tot {fFz28 : Fz28.A → Option Fz28.B} (hFz28 : Fz28.S fFz28) {v : Fz35.A → Fz35.B} (hp : ∀ x, ∀ k : Fz35.B → Option Res, Fz35.pf fFz28 BIG x k = k (v x)) : Fz35.S (tot v) := Fz35.sound _ hFz28 _ (fun x r hr => by obtain rfl := Option.some.inj hr; exact ⟨BIG, hp x⟩)
/-! 65 spec_l03Same -/
noncomputable def Fz36.tab (fFz31 : Fz31.A → Option Fz31.B) (fFz35 : Fz35.A → Option Fz35.B) : FuncId → Option Sig := tabOf [(71, Fz31.sig fFz31), (70, Fz35.sig fFz35)]
noncomputable def Fz36.E (fFz31 : Fz31.A → Option Fz31.B) (fFz35 : Fz35.A → Option Fz35.B) : Env := ⟨TT, small, Fz36.tab fFz31 fFz35, 2, 34⟩
def Fz36.ann : Ann := (.two .nil (.two .nil (.two .nil (.two .nil (.two (.two .nil (.one (.loop [5, 6, 7] .nil))) .nil)))))
noncomputable def Fz36.emb1 (e0 : TypeId) (e1 : TypeId) (p1_0 : (List (Int × Int))) (p1_1 : (List (Int × Int))) (p1_2 : (List (Int × Int))) (p1_3 : (List (Int × Int))) (x1 : Int) : St := { slots := mkSlots 34 [(5, .sl 70 [] none), (6, .sl 71 [] none), (7, .val (.int .i64) x1)], objs := mkObjs 72 [(0, .dat ⟨e0, (.arr 12 (.st (.pair (.int .u8) (.int .i16)))), [p1_0], false, false, none⟩), (1, .dat ⟨e1, (.arr 12 (.st (.pair (.int .u8) (.int .i16)))), [p1_1], false, false, none⟩), (70, .dat ⟨41, (.st (.pair (.int .u8) (.int .i16))), p1_2, true, true, none⟩), (71, .dat ⟨41, (.st (.pair (.int .u8) (.int .i16))), p1_3, true, true, none⟩)] }
noncomputable def Fz36.LB1 {α : Type} (fFz31 : Fz31.A → Option Fz31.B) (fFz35 : Fz35.A → Option Fz35.B) (fuel : Nat) (cont : Ex → St → Option α) : (St → Option α) → St → Option α := roundV (Fz36.E fFz31 fFz35) fuel [true, true, true, true, false, true, false] (bodyOf Try.f65) Fz36.ann cont
noncomputable def Fz36.C1 {α : Type} (fFz31 : Fz31.A → Option Fz31.B) (fFz35 : Fz35.A → Option Fz35.B) (K : Res → Option α) (fuel : Nat) : Ex → St → Option α := contAt (Fz36.E fFz31 fFz35) fuel [true, true, true, true, false, true, false] (bodyOf Try.f65) Fz36.ann [] (finK TT 2 [some 0, some 1] Try.f65 [] K)
noncomputable def Fz36.ex1_0 (e0 : TypeId) (e1 : TypeId) (p1_0 : (List (Int × Int))) (p1_1 : (List (Int × Int))) (p1_2 : (List (Int × Int))) (p1_3 : (List (Int × Int))) (x1 : Int) : St := { slots := mkSlots 34 [(4, .val .bool false), (5, .sl 70 [] none), (6, .sl 71 [] none), (7, .val (.int .i64) x1), (19, .val (.int .i64) x1), (20, .sl 70 [] none), (21, .val (.int .i64) (((List.length p1_2) : Nat) : Int)), (22, .val .bool ((decide (x1 < (((List.length p1_2) : Nat) : Int))))), (25, .sl 70 [] none), (26, .val (.int .i64) x1), (27, .ptr 70 [.idx (x1 : Int).toNat] false), (28, .val (.st (.pair (.int .u8) (.int .i16))) (List.getD p1_2 (x1 : Int).toNat ((0 : Int), (0 : Int)))), (29, .sl 71 [] none), (30, .val (.int .i64) x1), (31, .ptr 71 [.idx (x1 : Int).toNat] false), (32, .val (.st (.pair (.int .u8) (.int .i16))) (List.getD p1_3 (x1 : Int).toNat ((0 : Int), (0 : Int)))), (33, .val .bool ((!(eqV (.st (.pair (.int .u8) (.int .i16))) (List.getD p1_2 (x1 : Int).toNat ((0 : Int), (0 : Int))) (List.getD p1_3 (x1 : Int).toNat ((0 : Int), (0 : Int)))))))], objs := mkObjs 72 [(0, .dat ⟨e0, (.arr 12 (.st (.pair (.int .u8) (.int .i16)))), [p1_0], false, false, none⟩), (1, .dat ⟨e1, (.arr 12 (.st (.pair (.int .u8) (.int .i16)))), [p1_1], false, false, none⟩), (70, .dat ⟨41, (.st (.pair (.int .u8) (.int .i16))), p1_2, true, true, none⟩), (71, .dat ⟨41, (.st (.pair (.int .u8) (.int .i16))), p1_3, true, true, none⟩)] }
noncomputable def Fz36.ex1_1 (e0 : TypeId) (e1 : TypeId) (p1_0 : (List (Int × Int))) (p1_1 : (List (Int × Int))) (p1_2 : (List (Int × Int))) (p1_3 : (List (Int × Int))) (x1 : Int) : St := { slots := mkSlots 34 [(5, .sl 70 [] none), (6, .sl 71 [] none), (7, .val (.int .i64) x1), (19, .val (.int .i64) x1), (20, .sl 70 [] none), (21, .val (.int .i64) (((List.length p1_2) : Nat) : Int)), (22, .val .bool ((decide (x1 < (((List.length p1_2) : Nat) : Int)))))], objs := mkObjs 72 [(0, .dat ⟨e0, (.arr 12 (.st (.pair (.int .u8) (.int .i16)))), [p1_0], false, false, none⟩), (1, .dat ⟨e1, (.arr 12 (.st (.pair (.int .u8) (.int .i16)))), [p1_1], false, false, none⟩), (70, .dat ⟨41, (.st (.pair (.int .u8) (.int .i16))), p1_2, true, true, none⟩), (71, .dat ⟨41, (.st (.pair (.int .u8) (.int .i16))), p1_3, true, true, none⟩)] }
noncomputable def Fz36.B1 {α : Type} (p1_0 : (List (Int × Int))) (p1_1 : (List (Int × Int))) (p1_2 : (List (Int × Int))) (p1_3 : (List (Int × Int))) (K0 : Int → Option α) (K1 : Int → Option α) (rec : Int → Option α) (x1 : Int) : Option α :=
  cond (decide (x1 < (((List.length p1_2) : Nat) : Int))) (cond (inB x1 (List.length p1_2)) (cond (inB x1 (List.length p1_3)) (cond (!(eqV (.st (.pair (.int .u8) (.int .i16))) (List.getD p1_2 (x1 : Int).toNat ((0 : Int), (0 : Int))) (List.getD p1_3 (x1 : Int).toNat ((0 : Int), (0 : Int))))) (K0 x1) (rec (IntKind.i64.wrap (x1 + (1 : Int))))) none) none) (K1 x1)
theorem Fz36.step1 {α : Type} (fFz31 : Fz31.A → Option Fz31.B) (fFz35 : Fz35.A → Option Fz35.B) (fuel : Nat) (cont : Ex → St → Option α) (e0 : TypeId) (e1 : TypeId) (p1_0 : (List (Int × Int))) (p1_1 : (List (Int × Int))) (p1_2 : (List (Int × Int))) (p1_3 : (List (Int × Int))) (rec : St → Option α) (x1 : Int) : Fz36.LB1 fFz31 fFz35 fuel cont rec (Fz36.emb1 e0 e1 p1_0 p1_1 p1_2 p1_3 x1) = Fz36.B1 p1_0 p1_1 p1_2 p1_3 (fun x1 => cont .ret (Fz36.ex1_0 e0 e1 p1_0 p1_1 p1_2 p1_3 x1)) (fun x1 => cont (.exit 0) (Fz36.ex1_1 e0 e1 p1_0 p1_1 p1_2 p1_3 x1)) (fun y => rec (Fz36.emb1 e0 e1 p1_0 p1_1 p1_2 p1_3 y)) x1 := by kernel_rfl
theorem Fz36.loop1 {α : Type} (fFz31 : Fz31.A → Option Fz31.B) (fFz35 : Fz35.A → Option Fz35.B) (fuel : Nat) (cont : Ex → St → Option α) (e0 : TypeId) (e1 : TypeId) (p1_0 : (List (Int × Int))) (p1_1 : (List (Int × Int))) (p1_2 : (List (Int × Int))) (p1_3 : (List (Int × Int))) (x1 : Int) : loopN (Fz36.LB1 fFz31 fFz35 fuel cont) fuel (Fz36.emb1 e0 e1 p1_0 p1_1 p1_2 p1_3 x1) = iter (Fz36.B1 p1_0 p1_1 p1_2 p1_3 (fun x1 => cont .ret (Fz36.ex1_0 e0 e1 p1_0 p1_1 p1_2 p1_3 x1)) (fun x1 => cont (.exit 0) (Fz36.ex1_1 e0 e1 p1_0 p1_1 p1_2 p1_3 x1))) fuel x1 := loop_sim (fun rec x => Fz36.step1 fFz31 fFz35 fuel cont e0 e1 p1_0 p1_1 p1_2 p1_3 rec x) fuel x1
noncomputable def Fz36.pf {α : Type} (fFz31 : Fz31.A → Option Fz31.B) (fFz35 : Fz35.A → Option Fz35.B) (fuel : Nat) (a0 : (List (Int × Int))) (a1 : (List (Int × Int))) (k : Bool → Option α) : Option α :=
  (fFz31 a0).bind fun r1 => (fFz35 r1).bind fun r2 => (fFz31 a1).bind fun r3 => (fFz35 r3).bind fun r4 => cond ((((List.length r2) : Nat) : Int) != (((List.length r4) : Nat) : Int)) (k false) (iter (Fz36.B1 a0 a1 r2 r4 (fun (x1 : Int) => k false) (fun (x1 : Int) => k true)) fuel (0 : Int))
theorem Fz36.tail1 {α : Type} (fFz31 : Fz31.A → Option Fz31.B) (fFz35 : Fz35.A → Option Fz35.B) (K : Res → Option α) (fuel : Nat) (e0 : TypeId) (e1 : TypeId) (a0 : (List (Int × Int))) (a1 : (List (Int × Int))) (r2 : (List (Int × Int))) (r4 : (List (Int × Int))) (x1 : Int) : Fz36.C1 fFz31 fFz35 K fuel .ret (Fz36.ex1_0 e0 e1 a0 a1 r2 r4 x1) = ((fun (k : Bool → Option α) => k false) (fun r => K (Fz36.enc 0 r))) := by kernel_rfl
theorem Fz36.tail2 {α : Type} (fFz31 : Fz31.A → Option Fz31.B) (fFz35 : Fz35.A → Option Fz35.B) (K : Res → Option α) (fuel : Nat) (e0 : TypeId) (e1 : TypeId) (a0 : (List (Int × Int))) (a1 : (List (Int × Int))) (r2 : (List (Int × Int))) (r4 : (List (Int × Int))) (x1 : Int) : Fz36.C1 fFz31 fFz35 K fuel (.exit 0) (Fz36.ex1_1 e0 e1 a0 a1 r2 r4 x1) = ((fun (k : Bool → Option α) => k true) (fun r => K (Fz36.enc 0 r))) := by kernel_rfl
theorem Fz36.red_raw {α : Type} (fFz31 : Fz31.A → Option Fz31.B) (fFz35 : Fz35.A → Option Fz35.B) (K : Res → Option α) (fuel : Nat) (e0 : TypeId) (e1 : TypeId) (a0 : (List (Int × Int))) (a1 : (List (Int × Int))) : run TT small (Fz36.tab fFz31 fFz35) Try.f65 Fz36.ann [] fuel [.obj true ⟨e0, (.arr 12 (.st (.pair (.int .u8) (.int .i16)))), [a0]⟩, .obj true ⟨e1, (.arr 12 (.st (.pair (.int .u8) (.int .i16)))), [a1]⟩] K = (fFz31 a0).bind fun r1 => (fFz35 r1).bind fun r2 => (fFz31 a1).bind fun r3 => (fFz35 r3).bind fun r4 => cond ((((List.length r2) : Nat) : Int) != (((List.length r4) : Nat) : Int)) (K ⟨[.val .bool false], []⟩) (loopN (Fz36.LB1 fFz31 fFz35 fuel (Fz36.C1 fFz31 fFz35 K fuel)) fuel (Fz36.emb1 e0 e1 a0 a1 r2 r4 (0 : Int))) := by kernel_rfl
theorem Fz36.red {α : Type} (fFz31 : Fz31.A → Option Fz31.B) (fFz35 : Fz35.A → Option Fz35.B) (K : Res → Option α) (fuel : Nat) (e0 : TypeId) (e1 : TypeId) (a0 : (List (Int × Int))) (a1 : (List (Int × Int))) : run TT small (Fz36.tab fFz31 fFz35) Try.f65 Fz36.ann [] fuel [.obj true ⟨e0, (.arr 12 (.st (.pair (.int .u8) (.int .i16)))), [a0]⟩, .obj true ⟨e1, (.arr 12 (.st (.pair (.int .u8) (.int .i16)))), [a1]⟩] K = Fz36.pf fFz31 fFz35 fuel a0 a1 (fun r => K (Fz36.enc 0 r)) := by
  rw [Fz36.red_raw]
  simp only [Fz36.loop1, Fz36.tail1, Fz36.tail2]
  all_goals kernel_rfl
theorem Fz36.sound (fFz31 : Fz31.A → Option Fz31.B) (fFz35 : Fz35.A → Option Fz35.B) (hFz31 : Fz31.S fFz31) (hFz35 : Fz35.S fFz35) (f : Fz36.A → Option Fz36.B) (hf : ∀ x r, f x = some r → ∃ fuel, ∀ k : Fz36.B → Option Res, Fz36.pf fFz31 fFz35 fuel x.1 x.2 k = k r) : Fz36.S f := by
  refine fn_sound (by kernel_rfl) (ttok _) (tab_sound [(71, Fz31.sig fFz31), (70, Fz35.sig fFz35)] (List.forall_mem_cons.2 ⟨hFz31, List.forall_mem_cons.2 ⟨hFz35, fun p hp => nomatch hp⟩⟩)) (fn := Try.f65) (by kernel_rfl) (by decide) (by decide) Fz36.ann [] _ rfl (fun avs r hr => ?_) (by kernel_rfl)
  obtain ⟨x, y, h1, h2, rfl⟩ := mkSig_run hr
  obtain ⟨e0, e1, rfl⟩ := Fz36.dec_eq h1
  obtain ⟨fuel, hk⟩ := hf x y h2
  exact ⟨fuel, (Fz36.red fFz31 fFz35 some fuel e0 e1 x.1 x.2).trans (hk (fun r => some (Fz36.enc 0 r)))⟩
theorem Fz36.of_cl {fFz31 : Fz31.A → Option Fz31.B} {fFz35 : Fz35.A → Option Fz35.B} (hFz31 : Fz31.S fFz31) (hFz35 : Fz35.S fFz35) {P : Fz36.A → Prop} {v : Fz36.A → Fz36.B} (hp : ∀ x, P x → ∀ k : Fz36.B → Option Res, Fz36.pf fFz31 fFz35 BIG x.1 x.2 k = k (v x)) : Fz36.S (cl P v) := Fz36.sound _ _ hFz31 hFz35 _ (fun x r hr => by obtain ⟨h1, rfl⟩ := cl_some hr; exact ⟨BIG, hp x h1⟩)
theorem Fz36.of_tot {fFz31 : Fz31.A → Option Fz31.B} {fFz35 : Fz35.A → Option Fz35.B} (hFz31 : Fz31.S fFz31) (hFz35 : Fz35.S fFz35) {v : Fz36.A → Fz36.B} (hp : ∀ x, ∀ k : Fz36.B → Option Res, Fz36.pf fFz31 fFz35 BIG x.1 x.2 k = k (v x)) : Fz36.S (tot v) := Fz36.sound _ _ hFz31 hFz35 _ (fun x r hr => by obtain rfl := Option.some.inj hr; exact ⟨BIG, hp x⟩)
/-! 21 spec_SameBottles -/
noncomputable def Fz29.tab (fspec_l01Ok : spec_l01Ok.A → Option spec_l01Ok.B) (fFz36 : Fz36.A → Option Fz36.B) : FuncId → Option Sig := tabOf [(64, spec_l01Ok.sig fspec_l01Ok), (65, Fz36.sig fFz36)]
noncomputable def Fz29.E (fspec_l01Ok : spec_l01Ok.A → Option spec_l01Ok.B) (fFz36 : Fz36.A → Option Fz36.B) : Env := ⟨TT, small, Fz29.tab fspec_l01Ok fFz36, 0, 13⟩
def Fz29.ann : Ann := .nil
noncomputable def Fz29.pf {α : Type} (fspec_l01Ok : spec_l01Ok.A → Option spec_l01Ok.B) (fFz36 : Fz36.A → Option Fz36.B) (fuel : Nat) (a0 : (List (Int × Int))) (a1 : (List (Int × Int))) (k : (Bool × Int) → Option α) : Option α :=
  (fspec_l01Ok a0).bind fun r1 => cond (!r1) (k (false, (1 : Int))) ((fspec_l01Ok a1).bind fun r2 => cond (!r2) (k (false, (1 : Int))) ((fFz36 (a0, a1)).bind fun r3 => k (r3, (0 : Int))))
theorem Fz29.red {α : Type} (fspec_l01Ok : spec_l01Ok.A → Option spec_l01Ok.B) (fFz36 : Fz36.A → Option Fz36.B) (K : Res → Option α) (fuel : Nat) (a0 : (List (Int × Int))) (a1 : (List (Int × Int))) : run TT small (Fz29.tab fspec_l01Ok fFz36) Try.f21 Fz29.ann [] fuel [.val (.arr 12 (.st (.pair (.int .u8) (.int .i16)))) a0, .val (.arr 12 (.st (.pair (.int .u8) (.int .i16)))) a1] K = Fz29.pf fspec_l01Ok fFz36 fuel a0 a1 (fun r => K (Fz29.enc 0 r)) := by kernel_rfl
theorem Fz29.sound (fspec_l01Ok : spec_l01Ok.A → Option spec_l01Ok.B) (fFz36 : Fz36.A → Option Fz36.B) (hspec_l01Ok : spec_l01Ok.S fspec_l01Ok) (hFz36 : Fz36.S fFz36) (f : Fz29.A → Option Fz29.B) (hf : ∀ x r, f x = some r → ∃ fuel, ∀ k : Fz29.B → Option Res, Fz29.pf fspec_l01Ok fFz36 fuel x.1 x.2 k = k r) : Fz29.S f := by
  refine fn_sound (by kernel_rfl) (ttok _) (tab_sound [(64, spec_l01Ok.sig fspec_l01Ok), (65, Fz36.sig fFz36)] (List.forall_mem_cons.2 ⟨hspec_l01Ok, List.forall_mem_cons.2 ⟨hFz36, fun p hp => nomatch hp⟩⟩)) (fn := Try.f21) (by kernel_rfl) (by decide) (by decide) Fz29.ann [] _ rfl (fun avs r hr => ?_) (by kernel_rfl)
  obtain ⟨x, y, h1, h2, rfl⟩ := mkSig_run hr
  obtain rfl := Fz29.dec_eq h1
  obtain ⟨fuel, hk⟩ := hf x y h2
  exact ⟨fuel, (Fz29.red fspec_l01Ok fFz36 some fuel x.1 x.2).trans (hk (fun r => some (Fz29.enc 0 r)))⟩
theorem Fz29.of_cl {fspec_l01Ok : spec_l01Ok.A → Option spec_l01Ok.B} {fFz36 : Fz36.A → Option Fz36.B} (hspec_l01Ok : spec_l01Ok.S fspec_l01Ok) (hFz36 : Fz36.S fFz36) {P : Fz29.A → Prop} {v : Fz29.A → Fz29.B} (hp : ∀ x, P x → ∀ k : Fz29.B → Option Res, Fz29.pf fspec_l01Ok fFz36 BIG x.1 x.2 k = k (v x)) : Fz29.S (cl P v) := Fz29.sound _ _ hspec_l01Ok hFz36 _ (fun x r hr => by obtain ⟨h1, rfl⟩ := cl_some hr; exact ⟨BIG, hp x h1⟩)
theorem Fz29.of_tot {fspec_l01Ok : spec_l01Ok.A → Option spec_l01Ok.B} {fFz36 : Fz36.A → Option Fz36.B} (hspec_l01Ok : spec_l01Ok.S fspec_l01Ok) (hFz36 : Fz36.S fFz36) {v : Fz29.A → Fz29.B} (hp : ∀ x, ∀ k : Fz29.B → Option Res, Fz29.pf fspec_l01Ok fFz36 BIG x.1 x.2 k = k (v x)) : Fz29.S (tot v) := Fz29.sound _ _ hspec_l01Ok hFz36 _ (fun x r hr => by obtain rfl := Option.some.inj hr; exact ⟨BIG, hp x⟩)
/-! 107 impl_within -/
noncomputable def Fz13.tab : FuncId → Option Sig := tabOf []
noncomputable def Fz13.E : Env := ⟨TT, small, Fz13.tab , 0, 15⟩
def Fz13.ann : Ann := .nil
noncomputable def Fz13.pf {α : Type} (fuel : Nat) (a0 : Int) (a1 : Int) (a2 : Int) (k : Bool → Option α) : Option α :=
  cond (decide (a1 ≤ a0)) (k (decide (a0 ≤ a2))) (k false)
theorem Fz13.red {α : Type} (K : Res → Option α) (fuel : Nat) (a0 : Int) (a1 : Int) (a2 : Int) : run TT small Fz13.tab Try.f107 Fz13.ann [] fuel [.val (.int .i64) a0, .val (.int .i64) a1, .val (.int .i64) a2] K = Fz13.pf fuel a0 a1 a2 (fun r => K (Fz13.enc 0 r)) := by kernel_rfl
theorem Fz13.sound (f : Fz13.A → Option Fz13.B) (hf : ∀ x r, f x = some r → ∃ fuel, ∀ k : Fz13.B → Option Res, Fz13.pf fuel x.1 x.2.1 x.2.2 k = k r) : Fz13.S f := by
  refine fn_sound (by kernel_rfl) (ttok _) (tab_sound [] (fun p hp => nomatch hp)) (fn := Try.f107) (by kernel_rfl) (by decide) (by decide) Fz13.ann [] _ rfl (fun avs r hr => ?_) (by kernel_rfl)
  obtain ⟨x, y, h1, h2, rfl⟩ := mkSig_run hr
  obtain rfl := Fz13.dec_eq h1
  obtain ⟨fuel, hk⟩ := hf x y h2
  exact ⟨fuel, (Fz13.red some fuel x.1 x.2.1 x.2.2).trans (hk (fun r => some (Fz13.enc 0 r)))⟩
theorem Fz13.of_cl {P : Fz13.A → Prop} {v : Fz13.A → Fz13.B} (hp : ∀ x, P x → ∀ k : Fz13.B → Option Res, Fz13.pf BIG x.1 x.2.1 x.2.2 k = k (v x)) : Fz13.S (cl P v) := Fz13.sound  _ (fun x r hr => by obtain ⟨h1, rfl⟩ := cl_some hr; exact ⟨BIG, hp x h1⟩)
theorem Fz13.of_tot {v : Fz13.A → Fz13.B} (hp : ∀ x, ∀ k : Fz13.B → Option Res, Fz13.pf BIG x.1 x.2.1 x.2.2 k = k (v x)) : Fz13.S (tot v) := Fz13.sound  _ (fun x r hr => by obtain rfl := Option.some.inj hr; exact ⟨BIG, hp x⟩)
/-! 58 impl_ValidBottle -/
noncomputable def Fz9.tab (fFz13 : Fz13.A → Option Fz13.B) : FuncId → Option Sig := tabOf [(107, Fz13.sig fFz13)]
noncomputable def Fz9.E (fFz13 : Fz13.A → Option Fz13.B) : Env := ⟨TT, small, Fz9.tab fFz13, 0, 13⟩
def Fz9.ann : Ann := .nil
noncomputable def Fz9.pf {α : Type} (fFz13 : Fz13.A → Option Fz13.B) (fuel : Nat) (a0 : (Int × Int)) (k : Bool → Option α) : Option α :=
  (fFz13 ((IntKind.i64.wrap a0.1), (1 : Int), (20 : Int))).bind fun r1 => cond r1 ((fFz13 ((IntKind.i64.wrap a0.2), (1900 : Int), (2099 : Int))).bind fun r2 => k r2) (k false)
theorem Fz9.red {α : Type} (fFz13 : Fz13.A → Option Fz13.B) (K : Res → Option α) (fuel : Nat) (a0 : (Int × Int)) : run TT small (Fz9.tab fFz13) Try.f58 Fz9.ann [] fuel [.val (.st (.pair (.int .u8) (.int .i16))) a0] K = Fz9.pf fFz13 fuel a0 (fun r => K (Fz9.enc 0 r)) := by kernel_rfl
theorem Fz9.sound (fFz13 : Fz13.A → Option Fz13.B) (hFz13 : Fz13.S fFz13) (f : Fz9.A → Option Fz9.B) (hf : ∀ x r, f x = some r → ∃ fuel, ∀ k : Fz9.B → Option Res, Fz9.pf fFz13 fuel x k = k r) : Fz9.S f := by
  refine fn_sound (by kernel_rfl) (ttok _) (tab_sound [(107, Fz13.sig fFz13)] (List.forall_mem_cons.2 ⟨hFz13, fun p hp => nomatch hp⟩)) (fn := Try.f58) (by kernel_rfl) (by decide) (by decide) Fz9.ann [] _ rfl (fun avs r hr => ?_) (by kernel_rfl)
  obtain ⟨x, y, h1, h2, rfl⟩ := mkSig_run hr
  obtain rfl := Fz9.dec_eq h1
  obtain ⟨fuel, hk⟩ := hf x y h2
  exact ⟨fuel, (Fz9.red fFz13 some fuel x).trans (hk (fun r => some (Fz9.enc 0 r)))⟩
theorem Fz9.of_cl {fFz13 : Fz13.A → Option Fz13.B} (hFz13 : Fz13.S fFz13) {P : Fz9.A → Prop} {v : Fz9.A → Fz9.B} (hp : ∀ x, P x → ∀ k : Fz9.B → Option Res, Fz9.pf fFz13 BIG x k = k (v x)) : Fz9.S (cl P v) := Fz9.sound _ hFz13 _ (fun x r hr => by obtain ⟨h1, rfl⟩ := cl_some hr; exact ⟨BIG, hp x h1⟩)
theorem Fz9.of_tot {fFz13 : Fz13.A → Option Fz13.B} (hFz13 : Fz13.S fFz13) {v : Fz9.A → Fz9.B} (hp : ∀ x, ∀ k : Fz9.B → Option Res, Fz9.pf fFz13 BIG x k = k (v x)) : Fz9.S (tot v) := Fz9.sound _ hFz13 _ (fun x r hr => by obtain rfl := Option.some.inj hr; exact ⟨BIG, hp x⟩)
/-! 111 impl_ValidCrate_1 -/
noncomputable def Fz11.tab (fFz9 : Fz9.A → Option Fz9.B) : FuncId → Option Sig := tabOf [(58, Fz9.sig fFz9)]
noncomputable def Fz11.E (fFz9 : Fz9.A → Option Fz9.B) : Env := ⟨TT, small, Fz11.tab fFz9, 0, 11⟩
def Fz11.ann : Ann := .nil
noncomputable def Fz11.pf {α : Type} (fFz9 : Fz9.A → Option Fz9.B) (fuel : Nat) (a0 : (Int × Int)) (k : Bool → Option α) : Option α :=
  cond (!(eqV (.st (.pair (.int .u8) (.int .i16))) a0 ((0 : Int), (0 : Int)))) ((fFz9 a0).bind fun r1 => k (!r1)) (k false)
theorem Fz11.red {α : Type} (fFz9 : Fz9.A → Option Fz9.B) (K : Res → Option α) (fuel : Nat) (a0 : (Int × Int)) : run TT small (Fz11.tab fFz9) Try.f111 Fz11.ann [] fuel [.val (.st (.pair (.int .u8) (.int .i16))) a0] K = Fz11.pf fFz9 fuel a0 (fun r => K (Fz11.enc 0 r)) := by kernel_rfl
theorem Fz11.sound (fFz9 : Fz9.A → Option Fz9.B) (hFz9 : Fz9.S fFz9) (f : Fz11.A → Option Fz11.B) (hf : ∀ x r, f x = some r → ∃ fuel, ∀ k : Fz11.B → Option Res, Fz11.pf fFz9 fuel x k = k r) : Fz11.S f := by
  refine fn_sound (by kernel_rfl) (ttok _) (tab_sound [(58, Fz9.sig fFz9)] (List.forall_mem_cons.2 ⟨hFz9, fun p hp => nomatch hp⟩)) (fn := Try.f111) (by kernel_rfl) (by decide) (by decide) Fz11.ann [] _ rfl (fun avs r hr => ?_) (by kernel_rfl)
  obtain ⟨x, y, h1, h2, rfl⟩ := mkSig_run hr
  obtain rfl := Fz11.dec_eq h1
  obtain ⟨fuel, hk⟩ := hf x y h2
  exact ⟨fuel, (Fz11.red fFz9 some fuel x).trans (hk (fun r => some (Fz11.enc 0 r)))⟩
theorem Fz11.of_cl {fFz9 : Fz9.A → Option Fz9.B} (hFz9 : Fz9.S fFz9) {P : Fz11.A → Prop} {v : Fz11.A → Fz11.B} (hp : ∀ x, P x → ∀ k : Fz11.B → Option Res, Fz11.pf fFz9 BIG x k = k (v x)) : Fz11.S (cl P v) := Fz11.sound _ hFz9 _ (fun x r hr => by obtain ⟨h1, rfl⟩ := cl_some hr; exact ⟨BIG, hp x h1⟩)
theorem Fz11.of_tot {fFz9 : Fz9.A → Option Fz9.B} (hFz9 : Fz9.S fFz9) {v : Fz11.A → Fz11.B} (hp : ∀ x, ∀ k : Fz11.B → Option Res, Fz11.pf fFz9 BIG x k = k (v x)) : Fz11.S (tot v) := Fz11.sound _ hFz9 _ (fun x r hr => by obtain rfl := Option.some.inj hr; exact ⟨BIG, hp x⟩)
/-! 106 slices_IndexFunc_impl_Bottle_impl_Bottle__impl_ValidCrate_1 -/
noncomputable def Fz24.tab (fFz11 : Fz11.A → Option Fz11.B) : FuncId → Option Sig := tabOf [(111, Fz11.sig fFz11)]
noncomputable def Fz24.E (fFz11 : Fz11.A → Option Fz11.B) : Env := ⟨TT, small, Fz24.tab fFz11, 1, 19⟩
def Fz24.ann : Ann := (.two .nil (.two (.two .nil (.one (.loop [0, 1, 7, 8] .nil))) .nil))
noncomputable def Fz24.emb1 (e0 : TypeId) (p1_0 : Int) (p1_1 : (List (Int × Int))) (x1 : Int) : St := { slots := mkSlots 19 [(0, .sl 0 [] none), (1, .fn 111 []), (7, .val (.int .i64) p1_0), (8, .val (.int .i64) x1)], objs := mkObjs 39 [(0, .dat ⟨e0, (.st (.pair (.int .u8) (.int .i16))), p1_1, false, false, none⟩)] }
noncomputable def Fz24.LB1 {α : Type} (fFz11 : Fz11.A → Option Fz11.B) (fuel : Nat) (cont : Ex → St → Option α) : (St → Option α) → St → Option α := roundV (Fz24.E fFz11) fuel [true, false, true, false] (bodyOf Try.f106) Fz24.ann cont
noncomputable def Fz24.C1 {α : Type} (fFz11 : Fz11.A → Option Fz11.B) (K : Res → Option α) (fuel : Nat) : Ex → St → Option α := contAt (Fz24.E fFz11) fuel [true, false, true, false] (bodyOf Try.f106) Fz24.ann [] (finK TT 1 [some 0, none] Try.f106 [] K)
noncomputable def Fz24.ex1_0 (e0 : TypeId) (p1_0 : Int) (p1_1 : (List (Int × Int))) (x1 : Int) (r1001 : Bool) : St := { slots := mkSlots 19 [(0, .sl 0 [] none), (1, .fn 111 []), (4, .val (.int .i64) x1), (5, .val (.int .i64) x1), (7, .val (.int .i64) p1_0), (8, .val (.int .i64) x1), (9, .val .bool (decide (x1 < p1_0))), (10, .val (.int .i64) x1), (11, .fn 111 []), (12, .sl 0 [] none), (13, .val (.int .i64) x1), (14, .ptr 0 [.idx (x1 : Int).toNat] false), (15, .val (.st (.pair (.int .u8) (.int .i16))) (List.getD p1_1 (x1 : Int).toNat ((0 : Int), (0 : Int)))), (16, .val .bool r1001), (17, .val (.int .i64) x1)], objs := mkObjs 39 [(0, .dat ⟨e0, (.st (.pair (.int .u8) (.int .i16))), p1_1, false, false, none⟩)] }
noncomputable def Fz24.ex1_1 (e0 : TypeId) (p1_0 : Int) (p1_1 : (List (Int × Int))) (x1 : Int) : St := { slots := mkSlots 19 [(0, .sl 0 [] none), (1, .fn 111 []), (7, .val (.int .i64) p1_0), (8, .val (.int .i64) x1), (9, .val .bool (decide (x1 < p1_0)))], objs := mkObjs 39 [(0, .dat ⟨e0, (.st (.pair (.int .u8) (.int .i16))), p1_1, false, false, none⟩)] }
noncomputable def Fz24.B1 {α : Type} (fFz11 : Fz11.A → Option Fz11.B) (p1_0 : Int) (p1_1 : (List (Int × Int))) (K0 : Int → Bool → Option α) (K1 : Int → Option α) (rec : Int → Option α) (x1 : Int) : Option α :=
  cond (decide (x1 < p1_0)) (cond (inB x1 (List.length p1_1)) ((fFz11 (List.getD p1_1 (x1 : Int).toNat ((0 : Int), (0 : Int)))).bind fun r1001 => cond r1001 (K0 x1 r1001) (rec (IntKind.i64.wrap (x1 + (1 : Int))))) none) (K1 x1)
theorem Fz24.step1 {α : Type} (fFz11 : Fz11.A → Option Fz11.B) (fuel : Nat) (cont : Ex → St → Option α) (e0 : TypeId) (p1_0 : Int) (p1_1 : (List (Int × Int))) (rec : St → Option α) (x1 : Int) : Fz24.LB1 fFz11 fuel cont rec (Fz24.emb1 e0 p1_0 p1_1 x1) = Fz24.B1 fFz11 p1_0 p1_1 (fun x1 r1001 => cont .ret (Fz24.ex1_0 e0 p1_0 p1_1 x1 r1001)) (fun x1 => cont (.exit 0) (Fz24.ex1_1 e0 p1_0 p1_1 x1)) (fun y => rec (Fz24.emb1 e0 p1_0 p1_1 y)) x1 := by kernel_rfl
theorem Fz24.loop1 {α : Type} (fFz11 : Fz11.A → Option Fz11.B) (fuel : Nat) (cont : Ex → St → Option α) (e0 : TypeId) (p1_0 : Int) (p1_1 : (List (Int × Int))) (x1 : Int) : loopN (Fz24.LB1 fFz11 fuel cont) fuel (Fz24.emb1 e0 p1_0 p1_1 x1) = iter (Fz24.B1 fFz11 p1_0 p1_1 (fun x1 r1001 => cont .ret (Fz24.ex1_0 e0 p1_0 p1_1 x1 r1001)) (fun x1 => cont (.exit 0) (Fz24.ex1_1 e0 p1_0 p1_1 x1))) fuel x1 := loop_sim (fun rec x => Fz24.step1 fFz11 fuel cont e0 p1_0 p1_1 rec x) fuel x1
noncomputable def Fz24.pf {α : Type} (fFz11 : Fz11.A → Option Fz11.B) (fuel : Nat) (a0 : (List (Int × Int))) (k : Int → Option α) : Option α :=
  iter (Fz24.B1 fFz11 (((List.length a0) : Nat) : Int) a0 (fun (x1 : Int) (r1001 : Bool) => k x1) (fun (x1 : Int) => k (-1 : Int))) fuel (0 : Int)
theorem Fz24.tail1 {α : Type} (fFz11 : Fz11.A → Option Fz11.B) (K : Res → Option α) (fuel : Nat) (e0 : TypeId) (a0 : (List (Int × Int))) (x1 : Int) (r1001 : Bool) : Fz24.C1 fFz11 K fuel .ret (Fz24.ex1_0 e0 (((List.length a0) : Nat) : Int) a0 x1 r1001) = ((fun (k : Int → Option α) => k x1) (fun r => K (Fz24.enc 0 r))) := by kernel_rfl
theorem Fz24.tail2 {α : Type} (fFz11 : Fz11.A → Option Fz11.B) (K : Res → Option α) (fuel : Nat) (e0 : TypeId) (a0 : (List (Int × Int))) (x1 : Int) : Fz24.C1 fFz11 K fuel (.exit 0) (Fz24.ex1_1 e0 (((List.length a0) : Nat) : Int) a0 x1) = ((fun (k : Int → Option α) => k (-1 : Int)) (fun r => K (Fz24.enc 0 r))) := by kernel_rfl
theorem Fz24.red_raw {α : Type} (fFz11 : Fz11.A → Option Fz11.B) (K : Res → Option α) (fuel : Nat) (e0 : TypeId) (a0 : (List (Int × Int))) : run TT small (Fz24.tab fFz11) Try.f106 Fz24.ann [] fuel [.obj false ⟨e0, (.st (.pair (.int .u8) (.int .i16))), a0⟩, .fn 111 []] K = loopN (Fz24.LB1 fFz11 fuel (Fz24.C1 fFz11 K fuel)) fuel (Fz24.emb1 e0 (((List.length a0) : Nat) : Int) a0 (0 : Int)) := by kernel_rfl
theorem Fz24.red {α : Type} (fFz11 : Fz11.A → Option Fz11.B) (K : Res → Option α) (fuel : Nat) (e0 : TypeId) (a0 : (List (Int × Int))) : run TT small (Fz24.tab fFz11) Try.f106 Fz24.ann [] fuel [.obj false ⟨e0, (.st (.pair (.int .u8) (.int .i16))), a0⟩, .fn 111 []] K = Fz24.pf fFz11 fuel a0 (fun r => K (Fz24.enc 0 r)) := by
  rw [Fz24.red_raw]
  simp only [Fz24.loop1, Fz24.tail1, Fz24.tail2]
  all_goals kernel_rfl
theorem Fz24.sound (fFz11 : Fz11.A → Option Fz11.B) (hFz11 : Fz11.S fFz11) (f : Fz24.A → Option Fz24.B) (hf : ∀ x r, f x = some r → ∃ fuel, ∀ k : Fz24.B → Option Res, Fz24.pf fFz11 fuel x k = k r) : Fz24.S f := by
  refine fn_sound (by kernel_rfl) (ttok _) (tab_sound [(111, Fz11.sig fFz11)] (List.forall_mem_cons.2 ⟨hFz11, fun p hp => nomatch hp⟩)) (fn := Try.f106) (by kernel_rfl) (by decide) (by decide) Fz24.ann [] _ rfl (fun avs r hr => ?_) (by kernel_rfl)
  obtain ⟨x, y, h1, h2, rfl⟩ := mkSig_run hr
  obtain ⟨e0, rfl⟩ := Fz24.dec_eq h1
  obtain ⟨fuel, hk⟩ := hf x y h2
  exact ⟨fuel, (Fz24.red fFz11 some fuel e0 x).trans (hk (fun r => some (Fz24.enc 0 r)))⟩
theorem Fz24.of_cl {fFz11 : Fz11.A → Option Fz11.B} (hFz11 : Fz11.S fFz11) {P : Fz24.A → Prop} {v : Fz24.A → Fz24.B} (hp : ∀ x, P x → ∀ k : Fz24.B → Option Res, Fz24.pf fFz11 BIG x k = k (v x)) : Fz24.S (cl P v) := Fz24.sound _ hFz11 _ (fun x r hr => by obtain ⟨h1, rfl⟩ := cl_some hr; exact ⟨BIG, hp x h1⟩)
theorem Fz24.of_tot {fFz11 : Fz11.A → Option Fz11.B} (hFz11 : Fz11.S fFz11) {v : Fz24.A → Fz24.B} (hp : ∀ x, ∀ k : Fz24.B → Option Res, Fz24.pf fFz11 BIG x k = k (v x)) : Fz24.S (tot v) := Fz24.sound _ hFz11 _ (fun x r hr => by obtain rfl := Option.some.inj hr; exact ⟨BIG, hp x⟩)
/-! 56 slices_ContainsFunc_impl_Bottle_impl_Bottle__impl_ValidCrate_1 -/
noncomputable def Fz20.tab (fFz24 : Fz24.A → Option Fz24.B) : FuncId → Option Sig := tabOf [(106, Fz24.sig fFz24)]
noncomputable def Fz20.E (fFz24 : Fz24.A → Option Fz24.B) : Env := ⟨TT, small, Fz20.tab fFz24, 1, 9⟩
def Fz20.ann : Ann := .nil
noncomputable def Fz20.pf {α : Type} (fFz24 : Fz24.A → Option Fz24.B) (fuel : Nat) (a0 : (List (Int × Int))) (k : Bool → Option α) : Option α :=
  (fFz24 a0).bind fun r1 => k (decide (r1 ≥ (0 : Int)))
theorem Fz20.red {α : Type} (fFz24 : Fz24.A → Option Fz24.B) (K : Res → Option α) (fuel : Nat) (e0 : TypeId) (a0 : (List (Int × Int))) : run TT small (Fz20.tab fFz24) Try.f56 Fz20.ann [] fuel [.obj false ⟨e0, (.st (.pair (.int .u8) (.int .i16))), a0⟩, .fn 111 []] K = Fz20.pf fFz24 fuel a0 (fun r => K (Fz20.enc 0 r)) := by kernel_rfl
theorem Fz20.sound (fFz24 : Fz24.A → Option Fz24.B) (hFz24 : Fz24.S fFz24) (f : Fz20.A → Option Fz20.B) (hf : ∀ x r, f x = some r → ∃ fuel, ∀ k : Fz20.B → Option Res, Fz20.pf fFz24 fuel x k = k r) : Fz20.S f := by
  refine fn_sound (by kernel_rfl) (ttok _) (tab_sound [(106, Fz24.sig fFz24)] (List.forall_mem_cons.2 ⟨hFz24, fun p hp => nomatch hp⟩)) (fn := Try.f56) (by kernel_rfl) (by decide) (by decide) Fz20.ann [] _ rfl (fun avs r hr => ?_) (by kernel_rfl)
  obtain ⟨x, y, h1, h2, rfl⟩ := mkSig_run hr
  obtain ⟨e0, rfl⟩ := Fz20.dec_eq h1
  obtain ⟨fuel, hk⟩ := hf x y h2
  exact ⟨fuel, (Fz20.red fFz24 some fuel e0 x).trans (hk (fun r => some (Fz20.enc 0 r)))⟩
theorem Fz20.of_cl {fFz24 : Fz24.A → Option Fz24.B} (hFz24 : Fz24.S fFz24) {P : Fz20.A → Prop} {v : Fz20.A → Fz20.B} (hp : ∀ x, P x → ∀ k : Fz20.B → Option Res, Fz20.pf fFz24 BIG x k = k (v x)) : Fz20.S (cl P v) := Fz20.sound _ hFz24 _ (fun x r hr => by obtain ⟨h1, rfl⟩ := cl_some hr; exact ⟨BIG, hp x h1⟩)
theorem Fz20.of_tot {fFz24 : Fz24.A → Option Fz24.B} (hFz24 : Fz24.S fFz24) {v : Fz20.A → Fz20.B} (hp : ∀ x, ∀ k : Fz20.B → Option Res, Fz20.pf fFz24 BIG x k = k (v x)) : Fz20.S (tot v) := Fz20.sound _ hFz24 _ (fun x r hr => by obtain rfl := Option.some.inj hr; exact ⟨BIG, hp x⟩)
/-! 66 impl_ValidCrate -/
noncomputable def Fz10.tab (fFz20 : Fz20.A → Option Fz20.B) : FuncId → Option Sig := tabOf [(56, Fz20.sig fFz20)]
noncomputable def Fz10.E (fFz20 : Fz20.A → Option Fz20.B) : Env := ⟨TT, small, Fz10.tab fFz20, 0, 6⟩
def Fz10.ann : Ann := .nil
noncomputable def Fz10.pf {α : Type} (fFz20 : Fz20.A → Option Fz20.B) (fuel : Nat) (a0 : (List (Int × Int))) (k : Bool → Option α) : Option α :=
  (fFz20 a0).bind fun r1 => k (!r1)
theorem Fz10.red {α : Type} (fFz20 : Fz20.A → Option Fz20.B) (K : Res → Option α) (fuel : Nat) (a0 : (List (Int × Int))) : run TT small (Fz10.tab fFz20) Try.f66 Fz10.ann [] fuel [.val (.arr 12 (.st (.pair (.int .u8) (.int .i16)))) a0] K = Fz10.pf fFz20 fuel a0 (fun r => K (Fz10.enc 0 r)) := by kernel_rfl
theorem Fz10.sound (fFz20 : Fz20.A → Option Fz20.B) (hFz20 : Fz20.S fFz20) (f : Fz10.A → Option Fz10.B) (hf : ∀ x r, f x = some r → ∃ fuel, ∀ k : Fz10.B → Option Res, Fz10.pf fFz20 fuel x k = k r) : Fz10.S f := by
  refine fn_sound (by kernel_rfl) (ttok _) (tab_sound [(56, Fz20.sig fFz20)] (List.forall_mem_cons.2 ⟨hFz20, fun p hp => nomatch hp⟩)) (fn := Try.f66) (by kernel_rfl) (by decide) (by decide) Fz10.ann [] _ rfl (fun avs r hr => ?_) (by kernel_rfl)
  obtain ⟨x, y, h1, h2, rfl⟩ := mkSig_run hr
  obtain rfl := Fz10.dec_eq h1
  obtain ⟨fuel, hk⟩ := hf x y h2
  exact ⟨fuel, (Fz10.red fFz20 some fuel x).trans (hk (fun r => some (Fz10.enc 0 r)))⟩
theorem Fz10.of_cl {fFz20 : Fz20.A → Option Fz20.B} (hFz20 : Fz20.S fFz20) {P : Fz10.A → Prop} {v : Fz10.A → Fz10.B} (hp : ∀ x, P x → ∀ k : Fz10.B → Option Res, Fz10.pf fFz20 BIG x k = k (v x)) : Fz10.S (cl P v) := Fz10.sound _ hFz20 _ (fun x r hr => by obtain ⟨h1, rfl⟩ := cl_some hr; exact ⟨BIG, hp x h1⟩)
theorem Fz10.of_tot {fFz20 : Fz20.A → Option Fz20.B} (hFz20 : Fz20.S fFz20) {v : Fz10.A → Fz10.B} (hp : ∀ x, ∀ k : Fz10.B → Option Res, Fz10.pf fFz20 BIG x k = k (v x)) : Fz10.S (tot v) := Fz10.sound _ hFz20 _ (fun x r hr => by obtain rfl := Option.some.inj hr; exact ⟨BIG, hp x⟩)
/-! 95 slices_Clone_impl_Bottle_impl_Bottle -/
noncomputable def Fz19.tab : FuncId → Option Sig := tabOf []
noncomputable def Fz19.E : Env := ⟨TT, small, Fz19.tab , 1, 8⟩
def Fz19.ann : Ann := .nil
noncomputable def Fz19.pf {α : Type} (fuel : Nat) (a0 : (List (Int × Int))) (k : (List (Int × Int)) → Option α) : Option α :=
  cond (List.isEmpty a0) (both (k ([] : List (Int × Int))) (cond (okL (List.length ([] : List (Int × Int)) + List.length a0)) (k (([] : List (Int × Int)) ++ a0)) none)) (cond (okL (List.length ([] : List (Int × Int)) + List.length a0)) (k (([] : List (Int × Int)) ++ a0)) none)
theorem Fz19.red {α : Type} (K : Res → Option α) (fuel : Nat) (e0 : TypeId) (a0 : (List (Int × Int))) : run TT small Fz19.tab Try.f95 Fz19.ann [] fuel [.obj false ⟨e0, (.st (.pair (.int .u8) (.int .i16))), a0⟩] K = Fz19.pf fuel a0 (fun r => K (Fz19.enc 0 r)) := by kernel_rfl
theorem Fz19.sound (f : Fz19.A → Option Fz19.B) (hf : ∀ x r, f x = some r → ∃ fuel, ∀ k : Fz19.B → Option Res, Fz19.pf fuel x k = k r) : Fz19.S f := by
  refine fn_sound (by kernel_rfl) (ttok _) (tab_sound [] (fun p hp => nomatch hp)) (fn := Try.f95) (by kernel_rfl) (by decide) (by decide) Fz19.ann [] _ rfl (fun avs r hr => ?_) (by kernel_rfl)
  obtain ⟨x, y, h1, h2, rfl⟩ := mkSig_run hr
  obtain ⟨e0, rfl⟩ := Fz19.dec_eq h1
  obtain ⟨fuel, hk⟩ := hf x y h2
  exact ⟨fuel, (Fz19.red some fuel e0 x).trans (hk (fun r => some (Fz19.enc 0 r)))⟩
theorem Fz19.of_cl {P : Fz19.A → Prop} {v : Fz19.A → Fz19.B} (hp : ∀ x, P x → ∀ k : Fz19.B → Option Res, Fz19.pf BIG x k = k (v x)) : Fz19.S (cl P v) := Fz19.sound  _ (fun x r hr => by obtain ⟨h1, rfl⟩ := cl_some hr; exact ⟨BIG, hp x h1⟩)
theorem Fz19.of_tot {v : Fz19.A → Fz19.B} (hp : ∀ x, ∀ k : Fz19.B → Option Res, Fz19.pf BIG x k = k (v x)) : Fz19.S (tot v) := Fz19.sound  _ (fun x r hr => by obtain rfl := Option.some.inj hr; exact ⟨BIG, hp x⟩)
/-! 110 impl_Crate_bottles_1 -/
noncomputable def Fz6.tab : FuncId → Option Sig := tabOf []
noncomputable def Fz6.E : Env := ⟨TT, small, Fz6.tab , 0, 6⟩
def Fz6.ann : Ann := .nil
noncomputable def Fz6.pf {α : Type} (fuel : Nat) (a0 : (Int × Int)) (k : Bool → Option α) : Option α :=
  k (eqV (.st (.pair (.int .u8) (.int .i16))) a0 ((0 : Int), (0 : Int)))
theorem Fz6.red {α : Type} (K : Res → Option α) (fuel : Nat) (a0 : (Int × Int)) : run TT small Fz6.tab Try.f110 Fz6.ann [] fuel [.val (.st (.pair (.int .u8) (.int .i16))) a0] K = Fz6.pf fuel a0 (fun r => K (Fz6.enc 0 r)) := by kernel_rfl
theorem Fz6.sound (f : Fz6.A → Option Fz6.B) (hf : ∀ x r, f x = some r → ∃ fuel, ∀ k : Fz6.B → Option Res, Fz6.pf fuel x k = k r) : Fz6.S f := by
  refine fn_sound (by kernel_rfl) (ttok _) (tab_sound [] (fun p hp => nomatch hp)) (fn := Try.f110) (by kernel_rfl) (by decide) (by decide) Fz6.ann [] _ rfl (fun avs r hr => ?_) (by kernel_rfl)
  obtain ⟨x, y, h1, h2, rfl⟩ := mkSig_run hr
  obtain rfl := Fz6.dec_eq h1
  obtain ⟨fuel, hk⟩ := hf x y h2
  exact ⟨fuel, (Fz6.red some fuel x).trans (hk (fun r => some (Fz6.enc 0 r)))⟩
theorem Fz6.of_cl {P : Fz6.A → Prop} {v : Fz6.A → Fz6.B} (hp : ∀ x, P x → ∀ k : Fz6.B → Option Res, Fz6.pf BIG x k = k (v x)) : Fz6.S (cl P v) := Fz6.sound  _ (fun x r hr => by obtain ⟨h1, rfl⟩ := cl_some hr; exact ⟨BIG, hp x h1⟩)
theorem Fz6.of_tot {v : Fz6.A → Fz6.B} (hp : ∀ x, ∀ k : Fz6.B → Option Res, Fz6.pf BIG x k = k (v x)) : Fz6.S (tot v) := Fz6.sound  _ (fun x r hr => by obtain rfl := Option.some.inj hr; exact ⟨BIG, hp x⟩)
/-! 106 slices_IndexFunc_impl_Bottle_impl_Bottle__impl_Crate_bottles_1 -/
noncomputable def Fz23.tab (fFz6 : Fz6.A → Option Fz6.B) : FuncId → Option Sig := tabOf [(110, Fz6.sig fFz6)]
noncomputable def Fz23.E (fFz6 : Fz6.A → Option Fz6.B) : Env := ⟨TT, small, Fz23.tab fFz6, 1, 19⟩
def Fz23.ann : Ann := (.two .nil (.two (.two .nil (.one (.loop [0, 1, 7, 8] .nil))) .nil))
noncomputable def Fz23.emb1 (e0 : TypeId) (p1_0 : Int) (p1_1 : (List (Int × Int))) (x1 : Int) : St := { slots := mkSlots 19 [(0, .sl 0 [] none), (1, .fn 110 []), (7, .val (.int .i64) p1_0), (8, .val (.int .i64) x1)], objs := mkObjs 39 [(0, .dat ⟨e0, (.st (.pair (.int .u8) (.int .i16))), p1_1, false, false, none⟩)] }
noncomputable def Fz23.LB1 {α : Type} (fFz6 : Fz6.A → Option Fz6.B) (fuel : Nat) (cont : Ex → St → Option α) : (St → Option α) → St → Option α := roundV (Fz23.E fFz6) fuel [true, false, true, false] (bodyOf Try.f106) Fz23.ann cont
noncomputable def Fz23.C1 {α : Type} (fFz6 : Fz6.A → Option Fz6.B) (K : Res → Option α) (fuel : Nat) : Ex → St → Option α := contAt (Fz23.E fFz6) fuel [true, false, true, false] (bodyOf Try.f106) Fz23.ann [] (finK TT 1 [some 0, none] Try.f106 [] K)
noncomputable def Fz23.ex1_0 (e0 : TypeId) (p1_0 : Int) (p1_1 : (List (Int × Int))) (x1 : Int) (r1001 : Bool) : St := { slots := mkSlots 19 [(0, .sl 0 [] none), (1, .fn 110 []), (4, .val (.int .i64) x1), (5, .val (.int .i64) x1), (7, .val (.int .i64) p1_0), (8, .val (.int .i64) x1), (9, .val .bool (decide (x1 < p1_0))), (10, .val (.int .i64) x1), (11, .fn 110 []), (12, .sl 0 [] none), (13, .val (.int .i64) x1), (14, .ptr 0 [.idx (x1 : Int).toNat] false), (15, .val (.st (.pair (.int .u8) (.int .i16))) (List.getD p1_1 (x1 : Int).toNat ((0 : Int), (0 : Int)))), (16, .val .bool r1001), (17, .val (.int .i64) x1)], objs := mkObjs 39 [(0, .dat ⟨e0, (.st (.pair (.int .u8) (.int .i16))), p1_1, false, false, none⟩)] }
noncomputable def Fz23.ex1_1 (e0 : TypeId) (p1_0 : Int) (p1_1 : (List (Int × Int))) (x1 : Int) : St := { slots := mkSlots 19 [(0, .sl 0 [] none), (1, .fn 110 []), (7, .val (.int .i64) p1_0), (8, .val (.int .i64) x1), (9, .val .bool (decide (x1 < p1_0)))], objs := mkObjs 39 [(0, .dat ⟨e0, (.st (.pair (.int .u8) (.int .i16))), p1_1, false, false, none⟩)] }
noncomputable def Fz23.B1 {α : Type} (fFz6 : Fz6.A → Option Fz6.B) (p1_0 : Int) (p1_1 : (List (Int × Int))) (K0 : Int → Bool → Option α) (K1 : Int → Option α) (rec : Int → Option α) (x1 : Int) : Option α :=
  cond (decide (x1 < p1_0)) (cond (inB x1 (List.length p1_1)) ((fFz6 (List.getD p1_1 (x1 : Int).toNat ((0 : Int), (0 : Int)))).bind fun r1001 => cond r1001 (K0 x1 r1001) (rec (IntKind.i64.wrap (x1 + (1 : Int))))) none) (K1 x1)
theorem Fz23.step1 {α : Type} (fFz6 : Fz6.A → Option Fz6.B) (fuel : Nat) (cont : Ex → St → Option α) (e0 : TypeId) (p1_0 : Int) (p1_1 : (List (Int × Int))) (rec : St → Option α) (x1 : Int) : Fz23.LB1 fFz6 fuel cont rec (Fz23.emb1 e0 p1_0 p1_1 x1) = Fz23.B1 fFz6 p1_0 p1_1 (fun x1 r1001 => cont .ret (Fz23.ex1_0 e0 p1_0 p1_1 x1 r1001)) (fun x1 => cont (.exit 0) (Fz23.ex1_1 e0 p1_0 p1_1 x1)) (fun y => rec (Fz23.emb1 e0 p1_0 p1_1 y)) x1 := by kernel_rfl
theorem Fz23.loop1 {α : Type} (fFz6 : Fz6.A → Option Fz6.B) (fuel : Nat) (cont : Ex → St → Option α) (e0 : TypeId) (p1_0 : Int) (p1_1 : (List (Int × Int))) (x1 : Int) : loopN (Fz23.LB1 fFz6 fuel cont) fuel (Fz23.emb1 e0 p1_0 p1_1 x1) = iter (Fz23.B1 fFz6 p1_0 p1_1 (fun x1 r1001 => cont .ret (Fz23.ex1_0 e0 p1_0 p1_1 x1 r1001)) (fun x1 => cont (.exit 0) (Fz23.ex1_1 e0 p1_0 p1_1 x1))) fuel x1 := loop_sim (fun rec x => Fz23.step1 fFz6 fuel cont e0 p1_0 p1_1 rec x) fuel x1
noncomputable def Fz23.pf {α : Type} (fFz6 : Fz6.A → Option Fz6.B) (fuel : Nat) (a0 : (List (Int × Int))) (k : Int → Option α) : Option α :=
  iter (Fz23.B1 fFz6 (((List.length a0) : Nat) : Int) a0 (fun (x1 : Int) (r1001 : Bool) => k x1) (fun (x1 : Int) => k (-1 : Int))) fuel (0 : Int)
theorem Fz23.tail1 {α : Type} (fFz6 : Fz6.A → Option Fz6.B) (K : Res → Option α) (fuel : Nat) (e0 : TypeId) (a0 : (List (Int × Int))) (x1 : Int) (r1001 : Bool) : Fz23.C1 fFz6 K fuel .ret (Fz23.ex1_0 e0 (((List.length a0) : Nat) : Int) a0 x1 r1001) = ((fun (k : Int → Option α) => k x1) (fun r => K (Fz23.enc 0 r))) := by kernel_rfl
theorem Fz23.tail2 {α : Type} (fFz6 : Fz6.A → Option Fz6.B) (K : Res → Option α) (fuel : Nat) (e0 : TypeId) (a0 : (List (Int × Int))) (x1 : Int) : Fz23.C1 fFz6 K fuel (.exit 0) (Fz23.ex1_1 e0 (((List.length a0) : Nat) : Int) a0 x1) = ((fun (k : Int → Option α) => k (-1 : Int)) (fun r => K (Fz23.enc 0 r))) := by kernel_rfl
theorem Fz23.red_raw {α : Type} (fFz6 : Fz6.A → Option Fz6.B) (K : Res → Option α) (fuel : Nat) (e0 : TypeId) (a0 : (List (Int × Int))) : run TT small (Fz23.tab fFz6) Try.f106 Fz23.ann [] fuel [.obj false ⟨e0, (.st (.pair (.int .u8) (.int .i16))), a0⟩, .fn 110 []] K = loopN (Fz23.LB1 fFz6 fuel (Fz23.C1 fFz6 K fuel)) fuel (Fz23.emb1 e0 (((List.length a0) : Nat) : Int) a0 (0 : Int)) := by kernel_rfl
theorem Fz23.red {α : Type} (fFz6 : Fz6.A → Option Fz6.B) (K : Res → Option α) (fuel : Nat) (e0 : TypeId) (a0 : (List (Int × Int))) : run TT small (Fz23.tab fFz6) Try.f106 Fz23.ann [] fuel [.obj false ⟨e0, (.st (.pair (.int .u8) (.int .i16))), a0⟩, .fn 110 []] K = Fz23.pf fFz6 fuel a0 (fun r => K (Fz23.enc 0 r)) := by
  rw [Fz23.red_raw]
  simp only [Fz23.loop1, Fz23.tail1, Fz23.tail2]
  all_goals kernel_rfl
theorem Fz23.sound (fFz6 : Fz6.A → Option Fz6.B) (hFz6 : Fz6.S fFz6) (f : Fz23.A → Option Fz23.B) (hf : ∀ x r, f x = some r → ∃ fuel, ∀ k : Fz23.B → Option Res, Fz23.pf fFz6 fuel x k = k r) : Fz23.S f := by
  refine fn_sound (by kernel_rfl) (ttok _) (tab_sound [(110, Fz6.sig fFz6)] (List.forall_mem_cons.2 ⟨hFz6, fun p hp => nomatch hp⟩)) (fn := Try.f106) (by kernel_rfl) (by decide) (by decide) Fz23.ann [] _ rfl (fun avs r hr => ?_) (by kernel_rfl)
  obtain ⟨x, y, h1, h2, rfl⟩ := mkSig_run hr
  obtain ⟨e0, rfl⟩ := Fz23.dec_eq h1
  obtain ⟨fuel, hk⟩ := hf x y h2
  exact ⟨fuel, (Fz23.red fFz6 some fuel e0 x).trans (hk (fun r => some (Fz23.enc 0 r)))⟩
theorem Fz23.of_cl {fFz6 : Fz6.A → Option Fz6.B} (hFz6 : Fz6.S fFz6) {P : Fz23.A → Prop} {v : Fz23.A → Fz23.B} (hp : ∀ x, P x → ∀ k : Fz23.B → Option Res, Fz23.pf fFz6 BIG x k = k (v x)) : Fz23.S (cl P v) := Fz23.sound _ hFz6 _ (fun x r hr => by obtain ⟨h1, rfl⟩ := cl_some hr; exact ⟨BIG, hp x h1⟩)
theorem Fz23.of_tot {fFz6 : Fz6.A → Option Fz6.B} (hFz6 : Fz6.S fFz6) {v : Fz23.A → Fz23.B} (hp : ∀ x, ∀ k : Fz23.B → Option Res, Fz23.pf fFz6 BIG x k = k (v x)) : Fz23.S (tot v) := Fz23.sound _ hFz6 _ (fun x r hr => by obtain rfl := Option.some.inj hr; exact ⟨BIG, hp x⟩)
end Go.Proofs.Ytjajlmaldeoobaa.G
