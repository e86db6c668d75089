import Derived.Test.YtjajlmaldeoobaaSg
namespace Go.Proofs.Ytjajlmaldeoobaa.G
open Go Go.Proofs
set_option linter.unusedVariables false
set_option linter.unusedSimpArgs false
set_option maxRecDepth 100000
/-! 13 laws_szCrateS -/
noncomputable def Fz21.tab : FuncId → Option Sig := tabOf []
noncomputable def Fz21.E : Env := ⟨TT, small, Fz21.tab , 1, 12⟩
def Fz21.ann : Ann := .nil
noncomputable def Fz21.pf {α : Type} (fuel : Nat) (a0 : (List (List (Int × Int)))) (a1 : Int) (k : Int → Option α) : Option α :=
  cond (decide ((IntKind.i64.wrap (a1 - (((List.length a0) : Nat) : Int))) < (0 : Int))) (k (-1 : Int)) (k (IntKind.i64.wrap (a1 - (((List.length a0) : Nat) : Int))))
theorem Fz21.red {α : Type} (K : Res → Option α) (fuel : Nat) (e0 : TypeId) (a0 : (List (List (Int × Int)))) (a1 : Int) : run TT small Fz21.tab Try.f13 Fz21.ann [] fuel [.obj false ⟨e0, (.arr 12 (.st (.pair (.int .u8) (.int .i16)))), a0⟩, .val (.int .i64) a1] K = Fz21.pf fuel a0 a1 (fun r => K (Fz21.enc 0 r)) := by kernel_rfl
theorem Fz21.sound (f : Fz21.A → Option Fz21.B) (hf : ∀ x r, f x = some r → ∃ fuel, ∀ k : Fz21.B → Option Res, Fz21.pf fuel x.1 x.2 k = k r) : Fz21.S f := by
  refine fn_sound (by kernel_rfl) (ttok _) (tab_sound [] (fun p hp => nomatch hp)) (fn := Try.f13) (by kernel_rfl) (by decide) (by decide) Fz21.ann [] _ rfl (fun avs r hr => ?_) (by kernel_rfl)
  obtain ⟨x, y, h1, h2, rfl⟩ := mkSig_run hr
  obtain ⟨e0, rfl⟩ := Fz21.dec_eq h1
  obtain ⟨fuel, hk⟩ := hf x y h2
  exact ⟨fuel, (Fz21.red some fuel e0 x.1 x.2).trans (hk (fun r => some (Fz21.enc 0 r)))⟩
theorem Fz21.of_cl {P : Fz21.A → Prop} {v : Fz21.A → Fz21.B} (hp : ∀ x, P x → ∀ k : Fz21.B → Option Res, Fz21.pf BIG x.1 x.2 k = k (v x)) : Fz21.S (cl P v) := Fz21.sound  _ (fun x r hr => by obtain ⟨h1, rfl⟩ := cl_some hr; exact ⟨BIG, hp x h1⟩)
theorem Fz21.of_tot {v : Fz21.A → Fz21.B} (hp : ∀ x, ∀ k : Fz21.B → Option Res, Fz21.pf BIG x.1 x.2 k = k (v x)) : Fz21.S (tot v) := Fz21.sound  _ (fun x r hr => by obtain rfl := Option.some.inj hr; exact ⟨BIG, hp x⟩)
/-! 55 laws_toBottle -/
noncomputable def Fz22.tab : FuncId → Option Sig := tabOf []
noncomputable def Fz22.E : Env := ⟨TT, small, Fz22.tab , 0, 11⟩
def Fz22.ann : Ann := .nil
noncomputable def Fz22.pf {α : Type} (fuel : Nat) (a0 : (Int × Int)) (k : (Int × Int) → Option α) : Option α :=
  k (a0.1, a0.2)
theorem Fz22.red {α : Type} (K : Res → Option α) (fuel : Nat) (a0 : (Int × Int)) : run TT small Fz22.tab Try.f55 Fz22.ann [] fuel [.val (.st (.pair (.int .u8) (.int .i16))) a0] K = Fz22.pf fuel a0 (fun r => K (Fz22.enc 0 r)) := by kernel_rfl
theorem Fz22.sound (f : Fz22.A → Option Fz22.B) (hf : ∀ x r, f x = some r → ∃ fuel, ∀ k : Fz22.B → Option Res, Fz22.pf fuel x k = k r) : Fz22.S f := by
  refine fn_sound (by kernel_rfl) (ttok _) (tab_sound [] (fun p hp => nomatch hp)) (fn := Try.f55) (by kernel_rfl) (by decide) (by decide) Fz22.ann [] _ rfl (fun avs r hr => ?_) (by kernel_rfl)
  obtain ⟨x, y, h1, h2, rfl⟩ := mkSig_run hr
  obtain rfl := Fz22.dec_eq h1
  obtain ⟨fuel, hk⟩ := hf x y h2
  exact ⟨fuel, (Fz22.red some fuel x).trans (hk (fun r => some (Fz22.enc 0 r)))⟩
theorem Fz22.of_cl {P : Fz22.A → Prop} {v : Fz22.A → Fz22.B} (hp : ∀ x, P x → ∀ k : Fz22.B → Option Res, Fz22.pf BIG x k = k (v x)) : Fz22.S (cl P v) := Fz22.sound  _ (fun x r hr => by obtain ⟨h1, rfl⟩ := cl_some hr; exact ⟨BIG, hp x h1⟩)
theorem Fz22.of_tot {v : Fz22.A → Fz22.B} (hp : ∀ x, ∀ k : Fz22.B → Option Res, Fz22.pf BIG x k = k (v x)) : Fz22.S (tot v) := Fz22.sound  _ (fun x r hr => by obtain rfl := Option.some.inj hr; exact ⟨BIG, hp x⟩)
/-! 22 laws_toCrate -/
noncomputable def Fz23.tab (fFz22 : Fz22.A → Option Fz22.B) : FuncId → Option Sig := tabOf [(55, Fz22.sig fFz22)]
noncomputable def Fz23.E (fFz22 : Fz22.A → Option Fz22.B) : Env := ⟨TT, small, Fz23.tab fFz22, 0, 16⟩
def Fz23.ann : Ann := (.two .nil (.two .nil (.two (.two .nil (.one (.loop [1, 2, 3, 4] .nil))) .nil)))
noncomputable def Fz23.emb1 (p1_0 : (List (Int × Int))) (p1_1 : (List (Int × Int))) (x1 : (Int × (List (Int × Int)))) : St := { slots := mkSlots 16 [(1, .ptr 32 [.idx 0] false), (2, .ptr 33 [.idx 0] false), (3, .ptr 34 [.idx 0] false), (4, .val (.int .i64) x1.1)], objs := mkObjs 35 [(32, .dat ⟨38, (.arr 12 (.st (.pair (.int .u8) (.int .i16)))), [p1_0], true, true, none⟩), (33, .dat ⟨43, (.arr 12 (.st (.pair (.int .u8) (.int .i16)))), [p1_1], true, true, none⟩), (34, .dat ⟨43, (.arr 12 (.st (.pair (.int .u8) (.int .i16)))), [x1.2], true, true, none⟩)] }
noncomputable def Fz23.LB1 {α : Type} (fFz22 : Fz22.A → Option Fz22.B) (fuel : Nat) (cont : Ex → St → Option α) : (St → Option α) → St → Option α := roundV (Fz23.E fFz22) fuel [true, true, false, true, false] (bodyOf Try.f22) Fz23.ann cont
noncomputable def Fz23.C1 {α : Type} (fFz22 : Fz22.A → Option Fz22.B) (K : Res → Option α) (fuel : Nat) : Ex → St → Option α := contAt (Fz23.E fFz22) fuel [true, true, false, true, false] (bodyOf Try.f22) Fz23.ann [] (finK TT 0 [none] Try.f22 [] K)
noncomputable def Fz23.ex1_0 (p1_0 : (List (Int × Int))) (p1_1 : (List (Int × Int))) (x1 : (Int × (List (Int × Int)))) : St := { slots := mkSlots 16 [(1, .ptr 32 [.idx 0] false), (2, .ptr 33 [.idx 0] false), (3, .ptr 34 [.idx 0] false), (4, .val (.int .i64) x1.1), (5, .val (.int .i64) x1.1), (6, .val .bool (decide (x1.1 < (12 : Int))))], objs := mkObjs 35 [(32, .dat ⟨38, (.arr 12 (.st (.pair (.int .u8) (.int .i16)))), [p1_0], true, true, none⟩), (33, .dat ⟨43, (.arr 12 (.st (.pair (.int .u8) (.int .i16)))), [p1_1], true, true, none⟩), (34, .dat ⟨43, (.arr 12 (.st (.pair (.int .u8) (.int .i16)))), [x1.2], true, true, none⟩)] }
noncomputable def Fz23.B1 {α : Type} (fFz22 : Fz22.A → Option Fz22.B) (p1_0 : (List (Int × Int))) (p1_1 : (List (Int × Int))) (K0 : (Int × (List (Int × Int))) → Option α) (rec : (Int × (List (Int × Int))) → Option α) (x1 : (Int × (List (Int × Int)))) : Option α :=
  cond (decide (x1.1 < (12 : Int))) (cond (inB x1.1 12) ((fFz22 (List.getD p1_0 (x1.1 : Int).toNat ((0 : Int), (0 : Int)))).bind fun r1001 => cond (inB x1.1 12) (rec (((IntKind.i64.wrap (x1.1 + (1 : Int))), (List.set x1.2 (x1.1 : Int).toNat r1001)))) none) none) (K0 x1)
theorem Fz23.step1 {α : Type} (fFz22 : Fz22.A → Option Fz22.B) (fuel : Nat) (cont : Ex → St → Option α) (p1_0 : (List (Int × Int))) (p1_1 : (List (Int × Int))) (rec : St → Option α) (x1 : (Int × (List (Int × Int)))) : Fz23.LB1 fFz22 fuel cont rec (Fz23.emb1 p1_0 p1_1 x1) = Fz23.B1 fFz22 p1_0 p1_1 (fun x1 => cont (.exit 0) (Fz23.ex1_0 p1_0 p1_1 x1)) (fun y => rec (Fz23.emb1 p1_0 p1_1 y)) x1 := by kernel_rfl
theorem Fz23.loop1 {α : Type} (fFz22 : Fz22.A → Option Fz22.B) (fuel : Nat) (cont : Ex → St → Option α) (p1_0 : (List (Int × Int))) (p1_1 : (List (Int × Int))) (x1 : (Int × (List (Int × Int)))) : loopN (Fz23.LB1 fFz22 fuel cont) fuel (Fz23.emb1 p1_0 p1_1 x1) = iter (Fz23.B1 fFz22 p1_0 p1_1 (fun x1 => cont (.exit 0) (Fz23.ex1_0 p1_0 p1_1 x1))) fuel x1 := loop_sim (fun rec x => Fz23.step1 fFz22 fuel cont p1_0 p1_1 rec x) fuel x1
noncomputable def Fz23.pf {α : Type} (fFz22 : Fz22.A → Option Fz22.B) (fuel : Nat) (a0 : (List (Int × Int))) (k : (List (Int × Int)) → Option α) : Option α :=
  iter (Fz23.B1 fFz22 a0 (List.replicate 12 ((0 : Int), (0 : Int))) (fun (x1 : (Int × (List (Int × Int)))) => k x1.2)) fuel (((0 : Int), (List.replicate 12 ((0 : Int), (0 : Int)))))
theorem Fz23.tail1 {α : Type} (fFz22 : Fz22.A → Option Fz22.B) (K : Res → Option α) (fuel : Nat) (a0 : (List (Int × Int))) (x1 : (Int × (List (Int × Int)))) : Fz23.C1 fFz22 K fuel (.exit 0) (Fz23.ex1_0 a0 (List.replicate 12 ((0 : Int), (0 : Int))) x1) = ((fun (k : (List (Int × Int)) → Option α) => k x1.2) (fun r => K (Fz23.enc 0 r))) := by kernel_rfl
theorem Fz23.red_raw {α : Type} (fFz22 : Fz22.A → Option Fz22.B) (K : Res → Option α) (fuel : Nat) (a0 : (List (Int × Int))) : run TT small (Fz23.tab fFz22) Try.f22 Fz23.ann [] fuel [.val (.arr 12 (.st (.pair (.int .u8) (.int .i16)))) a0] K = loopN (Fz23.LB1 fFz22 fuel (Fz23.C1 fFz22 K fuel)) fuel (Fz23.emb1 a0 (List.replicate 12 ((0 : Int), (0 : Int))) (((0 : Int), (List.replicate 12 ((0 : Int), (0 : Int)))))) := by kernel_rfl
theorem Fz23.red {α : Type} (fFz22 : Fz22.A → Option Fz22.B) (K : Res → Option α) (fuel : Nat) (a0 : (List (Int × Int))) : run TT small (Fz23.tab fFz22) Try.f22 Fz23.ann [] fuel [.val (.arr 12 (.st (.pair (.int .u8) (.int .i16)))) a0] K = Fz23.pf fFz22 fuel a0 (fun r => K (Fz23.enc 0 r)) := by
  rw [Fz23.red_raw]
  simp only [Fz23.loop1, Fz23.tail1]
  all_goals kernel_rfl
theorem Fz23.sound (fFz22 : Fz22.A → Option Fz22.B) (hFz22 : Fz22.S fFz22) (f : Fz23.A → Option Fz23.B) (hf : ∀ x r, f x = some r → ∃ fuel, ∀ k : Fz23.B → Option Res, Fz23.pf fFz22 fuel x k = k r) : Fz23.S f := by
  refine fn_sound (by kernel_rfl) (ttok _) (tab_sound [(55, Fz22.sig fFz22)] (List.forall_mem_cons.2 ⟨hFz22, fun p hp => nomatch hp⟩)) (fn := Try.f22) (by kernel_rfl) (by decide) (by decide) Fz23.ann [] _ rfl (fun avs r hr => ?_) (by kernel_rfl)
  obtain ⟨x, y, h1, h2, rfl⟩ := mkSig_run hr
  obtain rfl := Fz23.dec_eq h1
  obtain ⟨fuel, hk⟩ := hf x y h2
  exact ⟨fuel, (Fz23.red fFz22 some fuel x).trans (hk (fun r => some (Fz23.enc 0 r)))⟩
theorem Fz23.of_cl {fFz22 : Fz22.A → Option Fz22.B} (hFz22 : Fz22.S fFz22) {P : Fz23.A → Prop} {v : Fz23.A → Fz23.B} (hp : ∀ x, P x → ∀ k : Fz23.B → Option Res, Fz23.pf fFz22 BIG x k = k (v x)) : Fz23.S (cl P v) := Fz23.sound _ hFz22 _ (fun x r hr => by obtain ⟨h1, rfl⟩ := cl_some hr; exact ⟨BIG, hp x h1⟩)
theorem Fz23.of_tot {fFz22 : Fz22.A → Option Fz22.B} (hFz22 : Fz22.S fFz22) {v : Fz23.A → Fz23.B} (hp : ∀ x, ∀ k : Fz23.B → Option Res, Fz23.pf fFz22 BIG x k = k (v x)) : Fz23.S (tot v) := Fz23.sound _ hFz22 _ (fun x r hr => by obtain rfl := Option.some.inj hr; exact ⟨BIG, hp x⟩)
/-! 16 laws_toCrateS -/
noncomputable def Fz24.tab (fFz23 : Fz23.A → Option Fz23.B) : FuncId → Option Sig := tabOf [(22, Fz23.sig fFz23)]
noncomputable def Fz24.E (fFz23 : Fz23.A → Option Fz23.B) : Env := ⟨TT, small, Fz24.tab fFz23, 1, 23⟩
def Fz24.ann : Ann := (.two .nil (.two .nil (.two (.two .nil (.one (.loop [0, 3, 4] .nil))) .nil)))
noncomputable def Fz24.emb1 (e0 : TypeId) (p1_0 : (List (List (Int × Int)))) (x1 : (Int × (List (List (Int × Int))))) : St := { slots := mkSlots 23 [(0, .sl 0 [] none), (3, .sl 47 [] none), (4, .val (.int .i64) x1.1)], objs := mkObjs 48 [(0, .dat ⟨e0, (.arr 12 (.st (.pair (.int .u8) (.int .i16)))), p1_0, false, false, none⟩), (47, .dat ⟨43, (.arr 12 (.st (.pair (.int .u8) (.int .i16)))), x1.2, true, true, none⟩)] }
noncomputable def Fz24.LB1 {α : Type} (fFz23 : Fz23.A → Option Fz23.B) (fuel : Nat) (cont : Ex → St → Option α) : (St → Option α) → St → Option α := roundV (Fz24.E fFz23) fuel [true, true, false, true, false] (bodyOf Try.f16) Fz24.ann cont
noncomputable def Fz24.C1 {α : Type} (fFz23 : Fz23.A → Option Fz23.B) (K : Res → Option α) (fuel : Nat) : Ex → St → Option α := contAt (Fz24.E fFz23) fuel [true, true, false, true, false] (bodyOf Try.f16) Fz24.ann [] (finK TT 1 [some 0] Try.f16 [] K)
noncomputable def Fz24.ex1_0 (e0 : TypeId) (p1_0 : (List (List (Int × Int)))) (x1 : (Int × (List (List (Int × Int))))) : St := { slots := mkSlots 23 [(0, .sl 0 [] none), (3, .sl 47 [] none), (4, .val (.int .i64) x1.1), (8, .val (.int .i64) x1.1), (9, .sl 0 [] none), (10, .val (.int .i64) (((List.length p1_0) : Nat) : Int)), (11, .val .bool ((decide (x1.1 < (((List.length p1_0) : Nat) : Int)))))], objs := mkObjs 48 [(0, .dat ⟨e0, (.arr 12 (.st (.pair (.int .u8) (.int .i16)))), p1_0, false, false, none⟩), (47, .dat ⟨43, (.arr 12 (.st (.pair (.int .u8) (.int .i16)))), x1.2, true, true, none⟩)] }
noncomputable def Fz24.B1 {α : Type} (fFz23 : Fz23.A → Option Fz23.B) (p1_0 : (List (List (Int × Int)))) (K0 : (Int × (List (List (Int × Int)))) → Option α) (rec : (Int × (List (List (Int × Int)))) → Option α) (x1 : (Int × (List (List (Int × Int))))) : Option α :=
  cond (decide (x1.1 < (((List.length p1_0) : Nat) : Int))) (cond (inB x1.1 (List.length p1_0)) ((fFz23 (List.getD p1_0 (x1.1 : Int).toNat (List.replicate 12 ((0 : Int), (0 : Int))))).bind fun r1001 => cond (inB x1.1 (List.length x1.2)) (rec (((IntKind.i64.wrap (x1.1 + (1 : Int))), (List.set x1.2 (x1.1 : Int).toNat r1001)))) none) none) (K0 x1)
theorem Fz24.step1 {α : Type} (fFz23 : Fz23.A → Option Fz23.B) (fuel : Nat) (cont : Ex → St → Option α) (e0 : TypeId) (p1_0 : (List (List (Int × Int)))) (rec : St → Option α) (x1 : (Int × (List (List (Int × Int))))) : Fz24.LB1 fFz23 fuel cont rec (Fz24.emb1 e0 p1_0 x1) = Fz24.B1 fFz23 p1_0 (fun x1 => cont (.exit 0) (Fz24.ex1_0 e0 p1_0 x1)) (fun y => rec (Fz24.emb1 e0 p1_0 y)) x1 := by kernel_rfl
theorem Fz24.loop1 {α : Type} (fFz23 : Fz23.A → Option Fz23.B) (fuel : Nat) (cont : Ex → St → Option α) (e0 : TypeId) (p1_0 : (List (List (Int × Int)))) (x1 : (Int × (List (List (Int × Int))))) : loopN (Fz24.LB1 fFz23 fuel cont) fuel (Fz24.emb1 e0 p1_0 x1) = iter (Fz24.B1 fFz23 p1_0 (fun x1 => cont (.exit 0) (Fz24.ex1_0 e0 p1_0 x1))) fuel x1 := loop_sim (fun rec x => Fz24.step1 fFz23 fuel cont e0 p1_0 rec x) fuel x1
noncomputable def Fz24.pf {α : Type} (fFz23 : Fz23.A → Option Fz23.B) (fuel : Nat) (a0 : (List (List (Int × Int)))) (k : (List (List (Int × Int))) → Option α) : Option α :=
  cond (inW (((List.length a0) : Nat) : Int) (((List.length a0) : Nat) : Int) LIM) (iter (Fz24.B1 fFz23 a0 (fun (x1 : (Int × (List (List (Int × Int))))) => k x1.2)) fuel (((0 : Int), (List.replicate (((List.length a0) : Nat) : Int).toNat (List.replicate 12 ((0 : Int), (0 : Int))))))) none
theorem Fz24.tail1 {α : Type} (fFz23 : Fz23.A → Option Fz23.B) (K : Res → Option α) (fuel : Nat) (e0 : TypeId) (a0 : (List (List (Int × Int)))) (x1 : (Int × (List (List (Int × Int))))) : Fz24.C1 fFz23 K fuel (.exit 0) (Fz24.ex1_0 e0 a0 x1) = ((fun (k : (List (List (Int × Int))) → Option α) => k x1.2) (fun r => K (Fz24.enc 0 r))) := by kernel_rfl
theorem Fz24.red_raw {α : Type} (fFz23 : Fz23.A → Option Fz23.B) (K : Res → Option α) (fuel : Nat) (e0 : TypeId) (a0 : (List (List (Int × Int)))) : run TT small (Fz24.tab fFz23) Try.f16 Fz24.ann [] fuel [.obj false ⟨e0, (.arr 12 (.st (.pair (.int .u8) (.int .i16)))), a0⟩] K = cond (inW (((List.length a0) : Nat) : Int) (((List.length a0) : Nat) : Int) LIM) (loopN (Fz24.LB1 fFz23 fuel (Fz24.C1 fFz23 K fuel)) fuel (Fz24.emb1 e0 a0 (((0 : Int), (List.replicate (((List.length a0) : Nat) : Int).toNat (List.replicate 12 ((0 : Int), (0 : Int)))))))) none := by kernel_rfl
theorem Fz24.red {α : Type} (fFz23 : Fz23.A → Option Fz23.B) (K : Res → Option α) (fuel : Nat) (e0 : TypeId) (a0 : (List (List (Int × Int)))) : run TT small (Fz24.tab fFz23) Try.f16 Fz24.ann [] fuel [.obj false ⟨e0, (.arr 12 (.st (.pair (.int .u8) (.int .i16)))), a0⟩] K = Fz24.pf fFz23 fuel a0 (fun r => K (Fz24.enc 0 r)) := by
  rw [Fz24.red_raw]
  simp only [Fz24.loop1, Fz24.tail1]
  all_goals kernel_rfl
theorem Fz24.sound (fFz23 : Fz23.A → Option Fz23.B) (hFz23 : Fz23.S fFz23) (f : Fz24.A → Option Fz24.B) (hf : ∀ x r, f x = some r → ∃ fuel, ∀ k : Fz24.B → Option Res, Fz24.pf fFz23 fuel x k = k r) : Fz24.S f := by
  refine fn_sound (by kernel_rfl) (ttok _) (tab_sound [(22, Fz23.sig fFz23)] (List.forall_mem_cons.2 ⟨hFz23, fun p hp => nomatch hp⟩)) (fn := Try.f16) (by kernel_rfl) (by decide) (by decide) Fz24.ann [] _ rfl (fun avs r hr => ?_) (by kernel_rfl)
  obtain ⟨x, y, h1, h2, rfl⟩ := mkSig_run hr
  obtain ⟨e0, rfl⟩ := Fz24.dec_eq h1
  obtain ⟨fuel, hk⟩ := hf x y h2
  exact ⟨fuel, (Fz24.red fFz23 some fuel e0 x).trans (hk (fun r => some (Fz24.enc 0 r)))⟩
theorem Fz24.of_cl {fFz23 : Fz23.A → Option Fz23.B} (hFz23 : Fz23.S fFz23) {P : Fz24.A → Prop} {v : Fz24.A → Fz24.B} (hp : ∀ x, P x → ∀ k : Fz24.B → Option Res, Fz24.pf fFz23 BIG x k = k (v x)) : Fz24.S (cl P v) := Fz24.sound _ hFz23 _ (fun x r hr => by obtain ⟨h1, rfl⟩ := cl_some hr; exact ⟨BIG, hp x h1⟩)
theorem Fz24.of_tot {fFz23 : Fz23.A → Option Fz23.B} (hFz23 : Fz23.S fFz23) {v : Fz24.A → Fz24.B} (hp : ∀ x, ∀ k : Fz24.B → Option Res, Fz24.pf fFz23 BIG x k = k (v x)) : Fz24.S (tot v) := Fz24.sound _ hFz23 _ (fun x r hr => by obtain rfl := Option.some.inj hr; exact ⟨BIG, hp x⟩)
/-! 105 spec_l01Free -/
noncomputable def Fz42.tab : FuncId → Option Sig := tabOf []
noncomputable def Fz42.E : Env := ⟨TT, small, Fz42.tab , 0, 6⟩
def Fz42.ann : Ann := .nil
noncomputable def Fz42.pf {α : Type} (fuel : Nat) (a0 : (Int × Int)) (k : Bool → Option α) : Option α :=
  k (eqV (.st (.pair (.int .u8) (.int .i16))) a0 ((0 : Int), (0 : Int)))
theorem Fz42.red {α : Type} (K : Res → Option α) (fuel : Nat) (a0 : (Int × Int)) : run TT small Fz42.tab Try.f105 Fz42.ann [] fuel [.val (.st (.pair (.int .u8) (.int .i16))) a0] K = Fz42.pf fuel a0 (fun r => K (Fz42.enc 0 r)) := by kernel_rfl
theorem Fz42.sound (f : Fz42.A → Option Fz42.B) (hf : ∀ x r, f x = some r → ∃ fuel, ∀ k : Fz42.B → Option Res, Fz42.pf fuel x k = k r) : Fz42.S f := by
  refine fn_sound (by kernel_rfl) (ttok _) (tab_sound [] (fun p hp => nomatch hp)) (fn := Try.f105) (by kernel_rfl) (by decide) (by decide) Fz42.ann [] _ rfl (fun avs r hr => ?_) (by kernel_rfl)
  obtain ⟨x, y, h1, h2, rfl⟩ := mkSig_run hr
  obtain rfl := Fz42.dec_eq h1
  obtain ⟨fuel, hk⟩ := hf x y h2
  exact ⟨fuel, (Fz42.red some fuel x).trans (hk (fun r => some (Fz42.enc 0 r)))⟩
theorem Fz42.of_cl {P : Fz42.A → Prop} {v : Fz42.A → Fz42.B} (hp : ∀ x, P x → ∀ k : Fz42.B → Option Res, Fz42.pf BIG x k = k (v x)) : Fz42.S (cl P v) := Fz42.sound  _ (fun x r hr => by obtain ⟨h1, rfl⟩ := cl_some hr; exact ⟨BIG, hp x h1⟩)
theorem Fz42.of_tot {v : Fz42.A → Fz42.B} (hp : ∀ x, ∀ k : Fz42.B → Option Res, Fz42.pf BIG x k = k (v x)) : Fz42.S (tot v) := Fz42.sound  _ (fun x r hr => by obtain rfl := Option.some.inj hr; exact ⟨BIG, hp x⟩)
/-! 99 spec_l00In -/
noncomputable def spec_l00In.tab : FuncId → Option Sig := tabOf []
noncomputable def spec_l00In.E : Env := ⟨TT, small, spec_l00In.tab , 0, 15⟩
def spec_l00In.ann : Ann := .nil
noncomputable def spec_l00In.pf {α : Type} (fuel : Nat) (a0 : Int) (a1 : Int) (a2 : Int) (k : Bool → Option α) : Option α :=
  cond (decide (a0 ≥ a1)) (k (decide (a0 ≤ a2))) (k false)
theorem spec_l00In.red {α : Type} (K : Res → Option α) (fuel : Nat) (a0 : Int) (a1 : Int) (a2 : Int) : run TT small spec_l00In.tab Try.f99 spec_l00In.ann [] fuel [.val (.int .i64) a0, .val (.int .i64) a1, .val (.int .i64) a2] K = spec_l00In.pf fuel a0 a1 a2 (fun r => K (spec_l00In.enc 0 r)) := by kernel_rfl
theorem spec_l00In.sound (f : spec_l00In.A → Option spec_l00In.B) (hf : ∀ x r, f x = some r → ∃ fuel, ∀ k : spec_l00In.B → Option Res, spec_l00In.pf fuel x.1 x.2.1 x.2.2 k = k r) : spec_l00In.S f := by
  refine fn_sound (by kernel_rfl) (ttok _) (tab_sound [] (fun p hp => nomatch hp)) (fn := Try.f99) (by kernel_rfl) (by decide) (by decide) spec_l00In.ann [] _ rfl (fun avs r hr => ?_) (by kernel_rfl)
  obtain ⟨x, y, h1, h2, rfl⟩ := mkSig_run hr
  obtain rfl := spec_l00In.dec_eq h1
  obtain ⟨fuel, hk⟩ := hf x y h2
  exact ⟨fuel, (spec_l00In.red some fuel x.1 x.2.1 x.2.2).trans (hk (fun r => some (spec_l00In.enc 0 r)))⟩
theorem spec_l00In.of_cl {P : spec_l00In.A → Prop} {v : spec_l00In.A → spec_l00In.B} (hp : ∀ x, P x → ∀ k : spec_l00In.B → Option Res, spec_l00In.pf BIG x.1 x.2.1 x.2.2 k = k (v x)) : spec_l00In.S (cl P v) := spec_l00In.sound  _ (fun x r hr => by obtain ⟨h1, rfl⟩ := cl_some hr; exact ⟨BIG, hp x h1⟩)
theorem spec_l00In.of_tot {v : spec_l00In.A → spec_l00In.B} (hp : ∀ x, ∀ k : spec_l00In.B → Option Res, spec_l00In.pf BIG x.1 x.2.1 x.2.2 k = k (v x)) : spec_l00In.S (tot v) := spec_l00In.sound  _ (fun x r hr => by obtain rfl := Option.some.inj hr; exact ⟨BIG, hp x⟩)
/-! 53 spec_l01Bottle -/
noncomputable def Fz41.tab (fspec_l00In : spec_l00In.A → Option spec_l00In.B) : FuncId → Option Sig := tabOf [(99, spec_l00In.sig fspec_l00In)]
noncomputable def Fz41.E (fspec_l00In : spec_l00In.A → Option spec_l00In.B) : Env := ⟨TT, small, Fz41.tab fspec_l00In, 0, 13⟩
def Fz41.ann : Ann := .nil
noncomputable def Fz41.pf {α : Type} (fspec_l00In : spec_l00In.A → Option spec_l00In.B) (fuel : Nat) (a0 : (Int × Int)) (k : Bool → Option α) : Option α :=
  (fspec_l00In ((IntKind.i64.wrap a0.1), (1 : Int), (20 : Int))).bind fun r1 => cond r1 ((fspec_l00In ((IntKind.i64.wrap a0.2), (1900 : Int), (2099 : Int))).bind fun r2 => k r2) (k false)
theorem Fz41.red {α : Type} (fspec_l00In : spec_l00In.A → Option spec_l00In.B) (K : Res → Option α) (fuel : Nat) (a0 : (Int × Int)) : run TT small (Fz41.tab fspec_l00In) Try.f53 Fz41.ann [] fuel [.val (.st (.pair (.int .u8) (.int .i16))) a0] K = Fz41.pf fspec_l00In fuel a0 (fun r => K (Fz41.enc 0 r)) := by kernel_rfl
theorem Fz41.sound (fspec_l00In : spec_l00In.A → Option spec_l00In.B) (hspec_l00In : spec_l00In.S fspec_l00In) (f : Fz41.A → Option Fz41.B) (hf : ∀ x r, f x = some r → ∃ fuel, ∀ k : Fz41.B → Option Res, Fz41.pf fspec_l00In fuel x k = k r) : Fz41.S f := by
  refine fn_sound (by kernel_rfl) (ttok _) (tab_sound [(99, spec_l00In.sig fspec_l00In)] (List.forall_mem_cons.2 ⟨hspec_l00In, fun p hp => nomatch hp⟩)) (fn := Try.f53) (by kernel_rfl) (by decide) (by decide) Fz41.ann [] _ rfl (fun avs r hr => ?_) (by kernel_rfl)
  obtain ⟨x, y, h1, h2, rfl⟩ := mkSig_run hr
  obtain rfl := Fz41.dec_eq h1
  obtain ⟨fuel, hk⟩ := hf x y h2
  exact ⟨fuel, (Fz41.red fspec_l00In some fuel x).trans (hk (fun r => some (Fz41.enc 0 r)))⟩
theorem Fz41.of_cl {fspec_l00In : spec_l00In.A → Option spec_l00In.B} (hspec_l00In : spec_l00In.S fspec_l00In) {P : Fz41.A → Prop} {v : Fz41.A → Fz41.B} (hp : ∀ x, P x → ∀ k : Fz41.B → Option Res, Fz41.pf fspec_l00In BIG x k = k (v x)) : Fz41.S (cl P v) := Fz41.sound _ hspec_l00In _ (fun x r hr => by obtain ⟨h1, rfl⟩ := cl_some hr; exact ⟨BIG, hp x h1⟩)
theorem Fz41.of_tot {fspec_l00In : spec_l00In.A → Option spec_l00In.B} (hspec_l00In : spec_l00In.S fspec_l00In) {v : Fz41.A → Fz41.B} (hp : ∀ x, ∀ k : Fz41.B → Option Res, Fz41.pf fspec_l00In BIG x k = k (v x)) : Fz41.S (tot v) := Fz41.sound _ hspec_l00In _ (fun x r hr => by obtain rfl := Option.some.inj hr; exact ⟨BIG, hp x⟩)
/-! 64 spec_l01Ok -/
noncomputable def spec_l01Ok.tab (fFz42 : Fz42.A → Option Fz42.B) (fFz41 : Fz41.A → Option Fz41.B) : FuncId → Option Sig := tabOf [(105, Fz42.sig fFz42), (53, Fz41.sig fFz41)]
noncomputable def spec_l01Ok.E (fFz42 : Fz42.A → Option Fz42.B) (fFz41 : Fz41.A → Option Fz41.B) : Env := ⟨TT, small, spec_l01Ok.tab fFz42 fFz41, 1, 24⟩
def spec_l01Ok.ann : Ann := (.two .nil (.two (.two .nil (.one (.loop [0, 3] .nil))) .nil))
noncomputable def spec_l01Ok.emb1 (e0 : TypeId) (p1_0 : (List (Int × Int))) (x1 : Int) : St := { slots := mkSlots 24 [(0, .ptr 0 [.idx 0] false), (3, .val (.int .i64) x1)], objs := mkObjs 49 [(0, .dat ⟨e0, (.arr 12 (.st (.pair (.int .u8) (.int .i16)))), [p1_0], false, false, none⟩)] }
noncomputable def spec_l01Ok.LB1 {α : Type} (fFz42 : Fz42.A → Option Fz42.B) (fFz41 : Fz41.A → Option Fz41.B) (fuel : Nat) (cont : Ex → St → Option α) : (St → Option α) → St → Option α := roundV (spec_l01Ok.E fFz42 fFz41) fuel [true, false, true, false] (bodyOf Try.f64) spec_l01Ok.ann cont
noncomputable def spec_l01Ok.C1 {α : Type} (fFz42 : Fz42.A → Option Fz42.B) (fFz41 : Fz41.A → Option Fz41.B) (K : Res → Option α) (fuel : Nat) : Ex → St → Option α := contAt (spec_l01Ok.E fFz42 fFz41) fuel [true, false, true, false] (bodyOf Try.f64) spec_l01Ok.ann [] (finK TT 1 [some 0] Try.f64 [] K)
noncomputable def spec_l01Ok.ex1_0 (e0 : TypeId) (p1_0 : (List (Int × Int))) (x1 : Int) (r1001 : Bool) (r1002 : Bool) : St := { slots := mkSlots 24 [(0, .ptr 0 [.idx 0] false), (2, .val .bool false), (3, .val (.int .i64) x1), (4, .val (.int .i64) x1), (5, .val .bool (decide (x1 < (12 : Int)))), (8, .ptr 0 [.idx 0] false), (9, .val (.int .i64) x1), (10, .ptr 0 [.idx 0] false), (11, .ptr 0 [.idx 0, .idx (x1 : Int).toNat] false), (12, .val (.st (.pair (.int .u8) (.int .i16))) (List.getD p1_0 (x1 : Int).toNat ((0 : Int), (0 : Int)))), (13, .val .bool r1001), (14, .val .bool (!r1001)), (15, .val .bool true), (16, .ptr 0 [.idx 0] false), (17, .val (.int .i64) x1), (18, .ptr 0 [.idx 0] false), (19, .ptr 0 [.idx 0, .idx (x1 : Int).toNat] false), (20, .val (.st (.pair (.int .u8) (.int .i16))) (List.getD p1_0 (x1 : Int).toNat ((0 : Int), (0 : Int)))), (21, .val .bool r1002), (22, .val .bool (!r1002)), (23, .val .bool (!r1002))], objs := mkObjs 49 [(0, .dat ⟨e0, (.arr 12 (.st (.pair (.int .u8) (.int .i16)))), [p1_0], false, false, none⟩)] }
noncomputable def spec_l01Ok.ex1_1 (e0 : TypeId) (p1_0 : (List (Int × Int))) (x1 : Int) : St := { slots := mkSlots 24 [(0, .ptr 0 [.idx 0] false), (3, .val (.int .i64) x1), (4, .val (.int .i64) x1), (5, .val .bool (decide (x1 < (12 : Int))))], objs := mkObjs 49 [(0, .dat ⟨e0, (.arr 12 (.st (.pair (.int .u8) (.int .i16)))), [p1_0], false, false, none⟩)] }
noncomputable def spec_l01Ok.B1 {α : Type} (fFz42 : Fz42.A → Option Fz42.B) (fFz41 : Fz41.A → Option Fz41.B) (p1_0 : (List (Int × Int))) (K0 : Int → Bool → Bool → Option α) (K1 : Int → Option α) (rec : Int → Option α) (x1 : Int) : Option α :=
  cond (decide (x1 < (12 : Int))) (cond (inB x1 12) ((fFz42 (List.getD p1_0 (x1 : Int).toNat ((0 : Int), (0 : Int)))).bind fun r1001 => cond (!r1001) (cond (inB x1 12) ((fFz41 (List.getD p1_0 (x1 : Int).toNat ((0 : Int), (0 : Int)))).bind fun r1002 => cond (!r1002) (K0 x1 r1001 r1002) (rec (IntKind.i64.wrap (x1 + (1 : Int))))) none) (rec (IntKind.i64.wrap (x1 + (1 : Int))))) none) (K1 x1)
theorem spec_l01Ok.step1 {α : Type} (fFz42 : Fz42.A → Option Fz42.B) (fFz41 : Fz41.A → Option Fz41.B) (fuel : Nat) (cont : Ex → St → Option α) (e0 : TypeId) (p1_0 : (List (Int × Int))) (rec : St → Option α) (x1 : Int) : spec_l01Ok.LB1 fFz42 fFz41 fuel cont rec (spec_l01Ok.emb1 e0 p1_0 x1) = spec_l01Ok.B1 fFz42 fFz41 p1_0 (fun x1 r1001 r1002 => cont .ret (spec_l01Ok.ex1_0 e0 p1_0 x1 r1001 r1002)) (fun x1 => cont (.exit 0) (spec_l01Ok.ex1_1 e0 p1_0 x1)) (fun y => rec (spec_l01Ok.emb1 e0 p1_0 y)) x1 := by kernel_rfl
theorem spec_l01Ok.loop1 {α : Type} (fFz42 : Fz42.A → Option Fz42.B) (fFz41 : Fz41.A → Option Fz41.B) (fuel : Nat) (cont : Ex → St → Option α) (e0 : TypeId) (p1_0 : (List (Int × Int))) (x1 : Int) : loopN (spec_l01Ok.LB1 fFz42 fFz41 fuel cont) fuel (spec_l01Ok.emb1 e0 p1_0 x1) = iter (spec_l01Ok.B1 fFz42 fFz41 p1_0 (fun x1 r1001 r1002 => cont .ret (spec_l01Ok.ex1_0 e0 p1_0 x1 r1001 r1002)) (fun x1 => cont (.exit 0) (spec_l01Ok.ex1_1 e0 p1_0 x1))) fuel x1 := loop_sim (fun rec x => spec_l01Ok.step1 fFz42 fFz41 fuel cont e0 p1_0 rec x) fuel x1
noncomputable def spec_l01Ok.pf {α : Type} (fFz42 : Fz42.A → Option Fz42.B) (fFz41 : Fz41.A → Option Fz41.B) (fuel : Nat) (a0 : (List (Int × Int))) (k : Bool → Option α) : Option α :=
  iter (spec_l01Ok.B1 fFz42 fFz41 a0 (fun (x1 : Int) (r1001 : Bool) (r1002 : Bool) => k false) (fun (x1 : Int) => k true)) fuel (0 : Int)
theorem spec_l01Ok.tail1 {α : Type} (fFz42 : Fz42.A → Option Fz42.B) (fFz41 : Fz41.A → Option Fz41.B) (K : Res → Option α) (fuel : Nat) (e0 : TypeId) (a0 : (List (Int × Int))) (x1 : Int) (r1001 : Bool) (r1002 : Bool) : spec_l01Ok.C1 fFz42 fFz41 K fuel .ret (spec_l01Ok.ex1_0 e0 a0 x1 r1001 r1002) = ((fun (k : Bool → Option α) => k false) (fun r => K (spec_l01Ok.enc 0 r))) := by kernel_rfl
theorem spec_l01Ok.tail2 {α : Type} (fFz42 : Fz42.A → Option Fz42.B) (fFz41 : Fz41.A → Option Fz41.B) (K : Res → Option α) (fuel : Nat) (e0 : TypeId) (a0 : (List (Int × Int))) (x1 : Int) : spec_l01Ok.C1 fFz42 fFz41 K fuel (.exit 0) (spec_l01Ok.ex1_1 e0 a0 x1) = ((fun (k : Bool → Option α) => k true) (fun r => K (spec_l01Ok.enc 0 r))) := by kernel_rfl
theorem spec_l01Ok.red_raw {α : Type} (fFz42 : Fz42.A → Option Fz42.B) (fFz41 : Fz41.A → Option Fz41.B) (K : Res → Option α) (fuel : Nat) (e0 : TypeId) (a0 : (List (Int × Int))) : run TT small (spec_l01Ok.tab fFz42 fFz41) Try.f64 spec_l01Ok.ann [] fuel [.obj true ⟨e0, (.arr 12 (.st (.pair (.int .u8) (.int .i16)))), [a0]⟩] K = loopN (spec_l01Ok.LB1 fFz42 fFz41 fuel (spec_l01Ok.C1 fFz42 fFz41 K fuel)) fuel (spec_l01Ok.emb1 e0 a0 (0 : Int)) := by kernel_rfl
theorem spec_l01Ok.red {α : Type} (fFz42 : Fz42.A → Option Fz42.B) (fFz41 : Fz41.A → Option Fz41.B) (K : Res → Option α) (fuel : Nat) (e0 : TypeId) (a0 : (List (Int × Int))) : run TT small (spec_l01Ok.tab fFz42 fFz41) Try.f64 spec_l01Ok.ann [] fuel [.obj true ⟨e0, (.arr 12 (.st (.pair (.int .u8) (.int .i16)))), [a0]⟩] K = spec_l01Ok.pf fFz42 fFz41 fuel a0 (fun r => K (spec_l01Ok.enc 0 r)) := by
  rw [spec_l01Ok.red_raw]
  simp only [spec_l01Ok.loop1, spec_l01Ok.tail1, spec_l01Ok.tail2]
  all_goals kernel_rfl
theorem spec_l01Ok.sound (fFz42 : Fz42.A → Option Fz42.B) (fFz41 : Fz41.A → Option Fz41.B) (hFz42 : Fz42.S fFz42) (hFz41 : Fz41.S fFz41) (f : spec_l01Ok.A → Option spec_l01Ok.B) (hf : ∀ x r, f x = some r → ∃ fuel, ∀ k : spec_l01Ok.B → Option Res, spec_l01Ok.pf fFz42 fFz41 fuel x k = k r) : spec_l01Ok.S f := by
  refine fn_sound (by kernel_rfl) (ttok _) (tab_sound [(105, Fz42.sig fFz42), (53, Fz41.sig fFz41)] (List.forall_mem_cons.2 ⟨hFz42, List.forall_mem_cons.2 ⟨hFz41, fun p hp => nomatch hp⟩⟩)) (fn := Try.f64) (by kernel_rfl) (by decide) (by decide) spec_l01Ok.ann [] _ rfl (fun avs r hr => ?_) (by kernel_rfl)
  obtain ⟨x, y, h1, h2, rfl⟩ := mkSig_run hr
  obtain ⟨e0, rfl⟩ := spec_l01Ok.dec_eq h1
  obtain ⟨fuel, hk⟩ := hf x y h2
  exact ⟨fuel, (spec_l01Ok.red fFz42 fFz41 some fuel e0 x).trans (hk (fun r => some (spec_l01Ok.enc 0 r)))⟩
theorem spec_l01Ok.of_cl {fFz42 : Fz42.A → Option Fz42.B} {fFz41 : Fz41.A → Option Fz41.B} (hFz42 : Fz42.S fFz42) (hFz41 : Fz41.S fFz41) {P : spec_l01Ok.A → Prop} {v : spec_l01Ok.A → spec_l01Ok.B} (hp : ∀ x, P x → ∀ k : spec_l01Ok.B → Option Res, spec_l01Ok.pf fFz42 fFz41 BIG x k = k (v x)) : spec_l01Ok.S (cl P v) := spec_l01Ok.sound _ _ hFz42 hFz41 _ (fun x r hr => by obtain ⟨h1, rfl⟩ := cl_some hr; exact ⟨BIG, hp x h1⟩)
theorem spec_l01Ok.of_tot {fFz42 : Fz42.A → Option Fz42.B} {fFz41 : Fz41.A → Option Fz41.B} (hFz42 : Fz42.S fFz42) (hFz41 : Fz41.S fFz41) {v : spec_l01Ok.A → spec_l01Ok.B} (hp : ∀ x, ∀ k : spec_l01Ok.B → Option Res, spec_l01Ok.pf fFz42 fFz41 BIG x k = k (v x)) : spec_l01Ok.S (tot v) := spec_l01Ok.sound _ _ hFz42 hFz41 _ (fun x r hr => by obtain rfl := Option.some.inj hr; exact ⟨BIG, hp x⟩)
/-! 52 spec_l01Stack -/
noncomputable def Fz45.tab (fspec_l01Ok : spec_l01Ok.A → Option spec_l01Ok.B) : FuncId → Option Sig := tabOf [(64, spec_l01Ok.sig fspec_l01Ok)]
noncomputable def Fz45.E (fspec_l01Ok : spec_l01Ok.A → Option spec_l01Ok.B) : Env := ⟨TT, small, Fz45.tab fspec_l01Ok, 1, 18⟩
def Fz45.ann : Ann := (.two .nil (.two (.two .nil (.one (.loop [0, 3] .nil))) .nil))
noncomputable def Fz45.emb1 (e0 : TypeId) (p1_0 : (List (List (Int × Int)))) (x1 : Int) : St := { slots := mkSlots 18 [(0, .sl 0 [] none), (3, .val (.int .i64) x1)], objs := mkObjs 37 [(0, .dat ⟨e0, (.arr 12 (.st (.pair (.int .u8) (.int .i16)))), p1_0, false, false, none⟩)] }
noncomputable def Fz45.LB1 {α : Type} (fspec_l01Ok : spec_l01Ok.A → Option spec_l01Ok.B) (fuel : Nat) (cont : Ex → St → Option α) : (St → Option α) → St → Option α := roundV (Fz45.E fspec_l01Ok) fuel [true, false, true, false] (bodyOf Try.f52) Fz45.ann cont
noncomputable def Fz45.C1 {α : Type} (fspec_l01Ok : spec_l01Ok.A → Option spec_l01Ok.B) (K : Res → Option α) (fuel : Nat) : Ex → St → Option α := contAt (Fz45.E fspec_l01Ok) fuel [true, false, true, false] (bodyOf Try.f52) Fz45.ann [] (finK TT 1 [some 0] Try.f52 [] K)
noncomputable def Fz45.ex1_0 (e0 : TypeId) (p1_0 : (List (List (Int × Int)))) (x1 : Int) (r1001 : Bool) : St := { slots := mkSlots 18 [(0, .sl 0 [] none), (2, .val .bool false), (3, .val (.int .i64) x1), (4, .val (.int .i64) x1), (5, .sl 0 [] none), (6, .val (.int .i64) (((List.length p1_0) : Nat) : Int)), (7, .val .bool ((decide (x1 < (((List.length p1_0) : Nat) : Int))))), (10, .sl 0 [] none), (11, .val (.int .i64) x1), (12, .ptr 0 [.idx (x1 : Int).toNat] false), (13, .val .bool r1001), (14, .val .bool (!r1001))], objs := mkObjs 37 [(0, .dat ⟨e0, (.arr 12 (.st (.pair (.int .u8) (.int .i16)))), p1_0, false, false, none⟩)] }
noncomputable def Fz45.ex1_1 (e0 : TypeId) (p1_0 : (List (List (Int × Int)))) (x1 : Int) : St := { slots := mkSlots 18 [(0, .sl 0 [] none), (3, .val (.int .i64) x1), (4, .val (.int .i64) x1), (5, .sl 0 [] none), (6, .val (.int .i64) (((List.length p1_0) : Nat) : Int)), (7, .val .bool ((decide (x1 < (((List.length p1_0) : Nat) : Int)))))], objs := mkObjs 37 [(0, .dat ⟨e0, (.arr 12 (.st (.pair (.int .u8) (.int .i16)))), p1_0, false, false, none⟩)] }
noncomputable def Fz45.B1 {α : Type} (fspec_l01Ok : spec_l01Ok.A → Option spec_l01Ok.B) (p1_0 : (List (List (Int × Int)))) (K0 : Int → Bool → Option α) (K1 : Int → Option α) (rec : Int → Option α) (x1 : Int) : Option α :=
  cond (decide (x1 < (((List.length p1_0) : Nat) : Int))) (cond (inB x1 (List.length p1_0)) ((fspec_l01Ok (List.getD p1_0 (x1 : Int).toNat (List.replicate 12 ((0 : Int), (0 : Int))))).bind fun r1001 => cond (!r1001) (K0 x1 r1001) (rec (IntKind.i64.wrap (x1 + (1 : Int))))) none) (K1 x1)
theorem Fz45.step1 {α : Type} (fspec_l01Ok : spec_l01Ok.A → Option spec_l01Ok.B) (fuel : Nat) (cont : Ex → St → Option α) (e0 : TypeId) (p1_0 : (List (List (Int × Int)))) (rec : St → Option α) (x1 : Int) : Fz45.LB1 fspec_l01Ok fuel cont rec (Fz45.emb1 e0 p1_0 x1) = Fz45.B1 fspec_l01Ok p1_0 (fun x1 r1001 => cont .ret (Fz45.ex1_0 e0 p1_0 x1 r1001)) (fun x1 => cont (.exit 0) (Fz45.ex1_1 e0 p1_0 x1)) (fun y => rec (Fz45.emb1 e0 p1_0 y)) x1 := by kernel_rfl
theorem Fz45.loop1 {α : Type} (fspec_l01Ok : spec_l01Ok.A → Option spec_l01Ok.B) (fuel : Nat) (cont : Ex → St → Option α) (e0 : TypeId) (p1_0 : (List (List (Int × Int)))) (x1 : Int) : loopN (Fz45.LB1 fspec_l01Ok fuel cont) fuel (Fz45.emb1 e0 p1_0 x1) = iter (Fz45.B1 fspec_l01Ok p1_0 (fun x1 r1001 => cont .ret (Fz45.ex1_0 e0 p1_0 x1 r1001)) (fun x1 => cont (.exit 0) (Fz45.ex1_1 e0 p1_0 x1))) fuel x1 := loop_sim (fun rec x => Fz45.step1 fspec_l01Ok fuel cont e0 p1_0 rec x) fuel x1
noncomputable def Fz45.pf {α : Type} (fspec_l01Ok : spec_l01Ok.A → Option spec_l01Ok.B) (fuel : Nat) (a0 : (List (List (Int × Int)))) (k : Bool → Option α) : Option α :=
  iter (Fz45.B1 fspec_l01Ok a0 (fun (x1 : Int) (r1001 : Bool) => k false) (fun (x1 : Int) => k (decide ((((List.length a0) : Nat) : Int) ≤ (12 : Int))))) fuel (0 : Int)
theorem Fz45.tail1 {α : Type} (fspec_l01Ok : spec_l01Ok.A → Option spec_l01Ok.B) (K : Res → Option α) (fuel : Nat) (e0 : TypeId) (a0 : (List (List (Int × Int)))) (x1 : Int) (r1001 : Bool) : Fz45.C1 fspec_l01Ok K fuel .ret (Fz45.ex1_0 e0 a0 x1 r1001) = ((fun (k : Bool → Option α) => k false) (fun r => K (Fz45.enc 0 r))) := by kernel_rfl
theorem Fz45.tail2 {α : Type} (fspec_l01Ok : spec_l01Ok.A → Option spec_l01Ok.B) (K : Res → Option α) (fuel : Nat) (e0 : TypeId) (a0 : (List (List (Int × Int)))) (x1 : Int) : Fz45.C1 fspec_l01Ok K fuel (.exit 0) (Fz45.ex1_1 e0 a0 x1) = ((fun (k : Bool → Option α) => k (decide ((((List.length a0) : Nat) : Int) ≤ (12 : Int)))) (fun r => K (Fz45.enc 0 r))) := by kernel_rfl
theorem Fz45.red_raw {α : Type} (fspec_l01Ok : spec_l01Ok.A → Option spec_l01Ok.B) (K : Res → Option α) (fuel : Nat) (e0 : TypeId) (a0 : (List (List (Int × Int)))) : run TT small (Fz45.tab fspec_l01Ok) Try.f52 Fz45.ann [] fuel [.obj false ⟨e0, (.arr 12 (.st (.pair (.int .u8) (.int .i16)))), a0⟩] K = loopN (Fz45.LB1 fspec_l01Ok fuel (Fz45.C1 fspec_l01Ok K fuel)) fuel (Fz45.emb1 e0 a0 (0 : Int)) := by kernel_rfl
theorem Fz45.red {α : Type} (fspec_l01Ok : spec_l01Ok.A → Option spec_l01Ok.B) (K : Res → Option α) (fuel : Nat) (e0 : TypeId) (a0 : (List (List (Int × Int)))) : run TT small (Fz45.tab fspec_l01Ok) Try.f52 Fz45.ann [] fuel [.obj false ⟨e0, (.arr 12 (.st (.pair (.int .u8) (.int .i16)))), a0⟩] K = Fz45.pf fspec_l01Ok fuel a0 (fun r => K (Fz45.enc 0 r)) := by
  rw [Fz45.red_raw]
  simp only [Fz45.loop1, Fz45.tail1, Fz45.tail2]
  all_goals kernel_rfl
theorem Fz45.sound (fspec_l01Ok : spec_l01Ok.A → Option spec_l01Ok.B) (hspec_l01Ok : spec_l01Ok.S fspec_l01Ok) (f : Fz45.A → Option Fz45.B) (hf : ∀ x r, f x = some r → ∃ fuel, ∀ k : Fz45.B → Option Res, Fz45.pf fspec_l01Ok fuel x k = k r) : Fz45.S f := by
  refine fn_sound (by kernel_rfl) (ttok _) (tab_sound [(64, spec_l01Ok.sig fspec_l01Ok)] (List.forall_mem_cons.2 ⟨hspec_l01Ok, fun p hp => nomatch hp⟩)) (fn := Try.f52) (by kernel_rfl) (by decide) (by decide) Fz45.ann [] _ rfl (fun avs r hr => ?_) (by kernel_rfl)
  obtain ⟨x, y, h1, h2, rfl⟩ := mkSig_run hr
  obtain ⟨e0, rfl⟩ := Fz45.dec_eq h1
  obtain ⟨fuel, hk⟩ := hf x y h2
  exact ⟨fuel, (Fz45.red fspec_l01Ok some fuel e0 x).trans (hk (fun r => some (Fz45.enc 0 r)))⟩
theorem Fz45.of_cl {fspec_l01Ok : spec_l01Ok.A → Option spec_l01Ok.B} (hspec_l01Ok : spec_l01Ok.S fspec_l01Ok) {P : Fz45.A → Prop} {v : Fz45.A → Fz45.B} (hp : ∀ x, P x → ∀ k : Fz45.B → Option Res, Fz45.pf fspec_l01Ok BIG x k = k (v x)) : Fz45.S (cl P v) := Fz45.sound _ hspec_l01Ok _ (fun x r hr => by obtain ⟨h1, rfl⟩ := cl_some hr; exact ⟨BIG, hp x h1⟩)
theorem Fz45.of_tot {fspec_l01Ok : spec_l01Ok.A → Option spec_l01Ok.B} (hspec_l01Ok : spec_l01Ok.S fspec_l01Ok) {v : Fz45.A → Fz45.B} (hp : ∀ x, ∀ k : Fz45.B → Option Res, Fz45.pf fspec_l01Ok BIG x k = k (v x)) : Fz45.S (tot v) := Fz45.sound _ hspec_l01Ok _ (fun x r hr => by obtain rfl := Option.some.inj hr; exact ⟨BIG, hp x⟩)
/-! 71 spec_l01All -/
noncomputable def Fz40.tab (fFz42 : Fz42.A → Option Fz42.B) : FuncId → Option Sig := tabOf [(105, Fz42.sig fFz42)]
noncomputable def Fz40.E (fFz42 : Fz42.A → Option Fz42.B) : Env := ⟨TT, small, Fz40.tab fFz42, 1, 26⟩
def Fz40.ann : Ann := (.two .nil (.two .nil (.two (.two .nil (.one (.loop [0, 3, 4] .nil))) .nil)))
noncomputable def Fz40.emb1 (e0 : TypeId) (p1_0 : (List (Int × Int))) (x1 : (Int × (List (Int × Int)))) : St := { slots := mkSlots 26 [(0, .ptr 0 [.idx 0] false), (3, .sl 53 [] none), (4, .val (.int .i64) x1.1)], objs := mkObjs 54 [(0, .dat ⟨e0, (.arr 12 (.st (.pair (.int .u8) (.int .i16)))), [p1_0], false, false, none⟩), (53, .dat ⟨41, (.st (.pair (.int .u8) (.int .i16))), x1.2, true, true, none⟩)] }
noncomputable def Fz40.LB1 {α : Type} (fFz42 : Fz42.A → Option Fz42.B) (fuel : Nat) (cont : Ex → St → Option α) : (St → Option α) → St → Option α := roundV (Fz40.E fFz42) fuel [true, true, false, true, false] (bodyOf Try.f71) Fz40.ann cont
noncomputable def Fz40.C1 {α : Type} (fFz42 : Fz42.A → Option Fz42.B) (K : Res → Option α) (fuel : Nat) : Ex → St → Option α := contAt (Fz40.E fFz42) fuel [true, true, false, true, false] (bodyOf Try.f71) Fz40.ann [] (finK TT 1 [some 0] Try.f71 [] K)
noncomputable def Fz40.ex1_0 (e0 : TypeId) (p1_0 : (List (Int × Int))) (x1 : (Int × (List (Int × Int)))) : St := { slots := mkSlots 26 [(0, .ptr 0 [.idx 0] false), (3, .sl 53 [] none), (4, .val (.int .i64) x1.1), (6, .val (.int .i64) x1.1), (7, .val .bool (decide (x1.1 < (12 : Int))))], objs := mkObjs 54 [(0, .dat ⟨e0, (.arr 12 (.st (.pair (.int .u8) (.int .i16)))), [p1_0], false, false, none⟩), (53, .dat ⟨41, (.st (.pair (.int .u8) (.int .i16))), x1.2, true, true, none⟩)] }
noncomputable def Fz40.B1 {α : Type} (fFz42 : Fz42.A → Option Fz42.B) (p1_0 : (List (Int × Int))) (K0 : (Int × (List (Int × Int))) → Option α) (rec : (Int × (List (Int × Int))) → Option α) (x1 : (Int × (List (Int × Int)))) : Option α :=
  cond (decide (x1.1 < (12 : Int))) (cond (inB x1.1 12) ((fFz42 (List.getD p1_0 (x1.1 : Int).toNat ((0 : Int), (0 : Int)))).bind fun r1001 => cond (!r1001) (cond (inB x1.1 12) (cond (okL (List.length x1.2 + List.length [(List.getD p1_0 (x1.1 : Int).toNat ((0 : Int), (0 : Int)))])) (rec (((IntKind.i64.wrap (x1.1 + (1 : Int))), (x1.2 ++ [(List.getD p1_0 (x1.1 : Int).toNat ((0 : Int), (0 : Int)))])))) none) none) (rec (((IntKind.i64.wrap (x1.1 + (1 : Int))), x1.2)))) none) (K0 x1)
theorem Fz40.step1 {α : Type} (fFz42 : Fz42.A → Option Fz42.B) (fuel : Nat) (cont : Ex → St → Option α) (e0 : TypeId) (p1_0 : (List (Int × Int))) (rec : St → Option α) (x1 : (Int × (List (Int × Int)))) : Fz40.LB1 fFz42 fuel cont rec (Fz40.emb1 e0 p1_0 x1) = Fz40.B1 fFz42 p1_0 (fun x1 => cont (.exit 0) (Fz40.ex1_0 e0 p1_0 x1)) (fun y => rec (Fz40.emb1 e0 p1_0 y)) x1 := by kernel_rfl
theorem Fz40.loop1 {α : Type} (fFz42 : Fz42.A → Option Fz42.B) (fuel : Nat) (cont : Ex → St → Option α) (e0 : TypeId) (p1_0 : (List (Int × Int))) (x1 : (Int × (List (Int × Int)))) : loopN (Fz40.LB1 fFz42 fuel cont) fuel (Fz40.emb1 e0 p1_0 x1) = iter (Fz40.B1 fFz42 p1_0 (fun x1 => cont (.exit 0) (Fz40.ex1_0 e0 p1_0 x1))) fuel x1 := loop_sim (fun rec x => Fz40.step1 fFz42 fuel cont e0 p1_0 rec x) fuel x1
noncomputable def Fz40.pf {α : Type} (fFz42 : Fz42.A → Option Fz42.B) (fuel : Nat) (a0 : (List (Int × Int))) (k : (List (Int × Int)) → Option α) : Option α :=
  iter (Fz40.B1 fFz42 a0 (fun (x1 : (Int × (List (Int × Int)))) => k x1.2)) fuel ((0 : Int), ([] : List (Int × Int)))
theorem Fz40.tail1 {α : Type} (fFz42 : Fz42.A → Option Fz42.B) (K : Res → Option α) (fuel : Nat) (e0 : TypeId) (a0 : (List (Int × Int))) (x1 : (Int × (List (Int × Int)))) : Fz40.C1 fFz42 K fuel (.exit 0) (Fz40.ex1_0 e0 a0 x1) = ((fun (k : (List (Int × Int)) → Option α) => k x1.2) (fun r => K (Fz40.enc 0 r))) := by kernel_rfl
theorem Fz40.red_raw {α : Type} (fFz42 : Fz42.A → Option Fz42.B) (K : Res → Option α) (fuel : Nat) (e0 : TypeId) (a0 : (List (Int × Int))) : run TT small (Fz40.tab fFz42) Try.f71 Fz40.ann [] fuel [.obj true ⟨e0, (.arr 12 (.st (.pair (.int .u8) (.int .i16)))), [a0]⟩] K = loopN (Fz40.LB1 fFz42 fuel (Fz40.C1 fFz42 K fuel)) fuel (Fz40.emb1 e0 a0 ((0 : Int), ([] : List (Int × Int)))) := by kernel_rfl
theorem Fz40.red {α : Type} (fFz42 : Fz42.A → Option Fz42.B) (K : Res → Option α) (fuel : Nat) (e0 : TypeId) (a0 : (List (Int × Int))) : run TT small (Fz40.tab fFz42) Try.f71 Fz40.ann [] fuel [.obj true ⟨e0, (.arr 12 (.st (.pair (.int .u8) (.int .i16)))), [a0]⟩] K = Fz40.pf fFz42 fuel a0 (fun r => K (Fz40.enc 0 r)) := by
  rw [Fz40.red_raw]
  simp only [Fz40.loop1, Fz40.tail1]
  all_goals kernel_rfl
theorem Fz40.sound (fFz42 : Fz42.A → Option Fz42.B) (hFz42 : Fz42.S fFz42) (f : Fz40.A → Option Fz40.B) (hf : ∀ x r, f x = some r → ∃ fuel, ∀ k : Fz40.B → Option Res, Fz40.pf fFz42 fuel x k = k r) : Fz40.S f := by
  refine fn_sound (by kernel_rfl) (ttok _) (tab_sound [(105, Fz42.sig fFz42)] (List.forall_mem_cons.2 ⟨hFz42, fun p hp => nomatch hp⟩)) (fn := Try.f71) (by kernel_rfl) (by decide) (by decide) Fz40.ann [] _ rfl (fun avs r hr => ?_) (by kernel_rfl)
  obtain ⟨x, y, h1, h2, rfl⟩ := mkSig_run hr
  obtain ⟨e0, rfl⟩ := Fz40.dec_eq h1
  obtain ⟨fuel, hk⟩ := hf x y h2
  exact ⟨fuel, (Fz40.red fFz42 some fuel e0 x).trans (hk (fun r => some (Fz40.enc 0 r)))⟩
theorem Fz40.of_cl {fFz42 : Fz42.A → Option Fz42.B} (hFz42 : Fz42.S fFz42) {P : Fz40.A → Prop} {v : Fz40.A → Fz40.B} (hp : ∀ x, P x → ∀ k : Fz40.B → Option Res, Fz40.pf fFz42 BIG x k = k (v x)) : Fz40.S (cl P v) := Fz40.sound _ hFz42 _ (fun x r hr => by obtain ⟨h1, rfl⟩ := cl_some hr; exact ⟨BIG, hp x h1⟩)
theorem Fz40.of_tot {fFz42 : Fz42.A → Option Fz42.B} (hFz42 : Fz42.S fFz42) {v : Fz40.A → Fz40.B} (hp : ∀ x, ∀ k : Fz40.B → Option Res, Fz40.pf fFz42 BIG x k = k (v x)) : Fz40.S (tot v) := Fz40.sound _ hFz42 _ (fun x r hr => by obtain rfl := Option.some.inj hr; exact ⟨BIG, hp x⟩)
/-! 72 spec_l01Pure -/
noncomputable def Fz44.tab (fFz40 : Fz40.A → Option Fz40.B) : FuncId → Option Sig := tabOf [(71, Fz40.sig fFz40)]
noncomputable def Fz44.E (fFz40 : Fz40.A → Option Fz40.B) : Env := ⟨TT, small, Fz44.tab fFz40, 1, 21⟩
def Fz44.ann : Ann := (.two .nil (.two .nil (.two (.two .nil (.one (.loop [3, 4] .nil))) .nil)))
noncomputable def Fz44.emb1 (e0 : TypeId) (p1_0 : (List (Int × Int))) (p1_1 : (List (Int × Int))) (x1 : Int) : St := { slots := mkSlots 21 [(3, .sl 43 [] none), (4, .val (.int .i64) x1)], objs := mkObjs 44 [(0, .dat ⟨e0, (.arr 12 (.st (.pair (.int .u8) (.int .i16)))), [p1_0], false, false, none⟩), (43, .dat ⟨41, (.st (.pair (.int .u8) (.int .i16))), p1_1, true, true, none⟩)] }
noncomputable def Fz44.LB1 {α : Type} (fFz40 : Fz40.A → Option Fz40.B) (fuel : Nat) (cont : Ex → St → Option α) : (St → Option α) → St → Option α := roundV (Fz44.E fFz40) fuel [true, true, false, true, false] (bodyOf Try.f72) Fz44.ann cont
noncomputable def Fz44.C1 {α : Type} (fFz40 : Fz40.A → Option Fz40.B) (K : Res → Option α) (fuel : Nat) : Ex → St → Option α := contAt (Fz44.E fFz40) fuel [true, true, false, true, false] (bodyOf Try.f72) Fz44.ann [] (finK TT 1 [some 0] Try.f72 [] K)
noncomputable def Fz44.ex1_0 (e0 : TypeId) (p1_0 : (List (Int × Int))) (p1_1 : (List (Int × Int))) (x1 : Int) : St := { slots := mkSlots 21 [(2, .val .bool false), (3, .sl 43 [] none), (4, .val (.int .i64) x1), (7, .val (.int .i64) x1), (8, .sl 43 [] none), (9, .val (.int .i64) (((List.length p1_1) : Nat) : Int)), (10, .val .bool ((decide (x1 < (((List.length p1_1) : Nat) : Int))))), (13, .sl 43 [] none), (14, .val (.int .i64) x1), (15, .ptr 43 [.idx (x1 : Int).toNat] false), (16, .val (.st (.pair (.int .u8) (.int .i16))) (List.getD p1_1 (x1 : Int).toNat ((0 : Int), (0 : Int)))), (17, .sl 43 [] none), (18, .ptr 43 [.idx 0] false), (19, .val (.st (.pair (.int .u8) (.int .i16))) (List.getD p1_1 0 ((0 : Int), (0 : Int)))), (20, .val .bool ((!(eqV (.st (.pair (.int .u8) (.int .i16))) (List.getD p1_1 (x1 : Int).toNat ((0 : Int), (0 : Int))) (List.getD p1_1 0 ((0 : Int), (0 : Int)))))))], objs := mkObjs 44 [(0, .dat ⟨e0, (.arr 12 (.st (.pair (.int .u8) (.int .i16)))), [p1_0], false, false, none⟩), (43, .dat ⟨41, (.st (.pair (.int .u8) (.int .i16))), p1_1, true, true, none⟩)] }
noncomputable def Fz44.ex1_1 (e0 : TypeId) (p1_0 : (List (Int × Int))) (p1_1 : (List (Int × Int))) (x1 : Int) : St := { slots := mkSlots 21 [(3, .sl 43 [] none), (4, .val (.int .i64) x1), (7, .val (.int .i64) x1), (8, .sl 43 [] none), (9, .val (.int .i64) (((List.length p1_1) : Nat) : Int)), (10, .val .bool ((decide (x1 < (((List.length p1_1) : Nat) : Int)))))], objs := mkObjs 44 [(0, .dat ⟨e0, (.arr 12 (.st (.pair (.int .u8) (.int .i16)))), [p1_0], false, false, none⟩), (43, .dat ⟨41, (.st (.pair (.int .u8) (.int .i16))), p1_1, true, true, none⟩)] }
noncomputable def Fz44.B1 {α : Type} (p1_0 : (List (Int × Int))) (p1_1 : (List (Int × Int))) (K0 : Int → Option α) (K1 : Int → Option α) (rec : Int → Option α) (x1 : Int) : Option α :=
  cond (decide (x1 < (((List.length p1_1) : Nat) : Int))) (cond (inB x1 (List.length p1_1)) (cond (inB (0 : Int) (List.length p1_1)) (cond (!(eqV (.st (.pair (.int .u8) (.int .i16))) (List.getD p1_1 (x1 : Int).toNat ((0 : Int), (0 : Int))) (List.getD p1_1 0 ((0 : Int), (0 : Int))))) (K0 x1) (rec (IntKind.i64.wrap (x1 + (1 : Int))))) none) none) (K1 x1)
theorem Fz44.step1 {α : Type} (fFz40 : Fz40.A → Option Fz40.B) (fuel : Nat) (cont : Ex → St → Option α) (e0 : TypeId) (p1_0 : (List (Int × Int))) (p1_1 : (List (Int × Int))) (rec : St → Option α) (x1 : Int) : Fz44.LB1 fFz40 fuel cont rec (Fz44.emb1 e0 p1_0 p1_1 x1) = Fz44.B1 p1_0 p1_1 (fun x1 => cont .ret (Fz44.ex1_0 e0 p1_0 p1_1 x1)) (fun x1 => cont (.exit 0) (Fz44.ex1_1 e0 p1_0 p1_1 x1)) (fun y => rec (Fz44.emb1 e0 p1_0 p1_1 y)) x1 := by kernel_rfl
theorem Fz44.loop1 {α : Type} (fFz40 : Fz40.A → Option Fz40.B) (fuel : Nat) (cont : Ex → St → Option α) (e0 : TypeId) (p1_0 : (List (Int × Int))) (p1_1 : (List (Int × Int))) (x1 : Int) : loopN (Fz44.LB1 fFz40 fuel cont) fuel (Fz44.emb1 e0 p1_0 p1_1 x1) = iter (Fz44.B1 p1_0 p1_1 (fun x1 => cont .ret (Fz44.ex1_0 e0 p1_0 p1_1 x1)) (fun x1 => cont (.exit 0) (Fz44.ex1_1 e0 p1_0 p1_1 x1))) fuel x1 := loop_sim (fun rec x => Fz44.step1 fFz40 fuel cont e0 p1_0 p1_1 rec x) fuel x1
noncomputable def Fz44.pf {α : Type} (fFz40 : Fz40.A → Option Fz40.B) (fuel : Nat) (a0 : (List (Int × Int))) (k : Bool → Option α) : Option α :=
  (fFz40 a0).bind fun r1 => iter (Fz44.B1 a0 r1 (fun (x1 : Int) => k false) (fun (x1 : Int) => k true)) fuel (1 : Int)
theorem Fz44.tail1 {α : Type} (fFz40 : Fz40.A → Option Fz40.B) (K : Res → Option α) (fuel : Nat) (e0 : TypeId) (a0 : (List (Int × Int))) (r1 : (List (Int × Int))) (x1 : Int) : Fz44.C1 fFz40 K fuel .ret (Fz44.ex1_0 e0 a0 r1 x1) = ((fun (k : Bool → Option α) => k false) (fun r => K (Fz44.enc 0 r))) := by kernel_rfl
theorem Fz44.tail2 {α : Type} (fFz40 : Fz40.A → Option Fz40.B) (K : Res → Option α) (fuel : Nat) (e0 : TypeId) (a0 : (List (Int × Int))) (r1 : (List (Int × Int))) (x1 : Int) : Fz44.C1 fFz40 K fuel (.exit 0) (Fz44.ex1_1 e0 a0 r1 x1) = ((fun (k : Bool → Option α) => k true) (fun r => K (Fz44.enc 0 r))) := by kernel_rfl
theorem Fz44.red_raw {α : Type} (fFz40 : Fz40.A → Option Fz40.B) (K : Res → Option α) (fuel : Nat) (e0 : TypeId) (a0 : (List (Int × Int))) : run TT small (Fz44.tab fFz40) Try.f72 Fz44.ann [] fuel [.obj true ⟨e0, (.arr 12 (.st (.pair (.int .u8) (.int .i16)))), [a0]⟩] K = (fFz40 a0).bind fun r1 => loopN (Fz44.LB1 fFz40 fuel (Fz44.C1 fFz40 K fuel)) fuel (Fz44.emb1 e0 a0 r1 (1 : Int)) := by kernel_rfl
theorem Fz44.red {α : Type} (fFz40 : Fz40.A → Option Fz40.B) (K : Res → Option α) (fuel : Nat) (e0 : TypeId) (a0 : (List (Int × Int))) : run TT small (Fz44.tab fFz40) Try.f72 Fz44.ann [] fuel [.obj true ⟨e0, (.arr 12 (.st (.pair (.int .u8) (.int .i16)))), [a0]⟩] K = Fz44.pf fFz40 fuel a0 (fun r => K (Fz44.enc 0 r)) := by
  rw [Fz44.red_raw]
  simp only [Fz44.loop1, Fz44.tail1, Fz44.tail2]
  all_goals kernel_rfl
theorem Fz44.sound (fFz40 : Fz40.A → Option Fz40.B) (hFz40 : Fz40.S fFz40) (f : Fz44.A → Option Fz44.B) (hf : ∀ x r, f x = some r → ∃ fuel, ∀ k : Fz44.B → Option Res, Fz44.pf fFz40 fuel x k = k r) : Fz44.S f := by
  refine fn_sound (by kernel_rfl) (ttok _) (tab_sound [(71, Fz40.sig fFz40)] (List.forall_mem_cons.2 ⟨hFz40, fun p hp => nomatch hp⟩)) (fn := Try.f72) (by kernel_rfl) (by decide) (by decide) Fz44.ann [] _ rfl (fun avs r hr => ?_) (by kernel_rfl)
  obtain ⟨x, y, h1, h2, rfl⟩ := mkSig_run hr
  obtain ⟨e0, rfl⟩ := Fz44.dec_eq h1
  obtain ⟨fuel, hk⟩ := hf x y h2
  exact ⟨fuel, (Fz44.red fFz40 some fuel e0 x).trans (hk (fun r => some (Fz44.enc 0 r)))⟩
theorem Fz44.of_cl {fFz40 : Fz40.A → Option Fz40.B} (hFz40 : Fz40.S fFz40) {P : Fz44.A → Prop} {v : Fz44.A → Fz44.B} (hp : ∀ x, P x → ∀ k : Fz44.B → Option Res, Fz44.pf fFz40 BIG x k = k (v x)) : Fz44.S (cl P v) := Fz44.sound _ hFz40 _ (fun x r hr => by obtain ⟨h1, rfl⟩ := cl_some hr; exact ⟨BIG, hp x h1⟩)
theorem Fz44.of_tot {fFz40 : Fz40.A → Option Fz40.B} (hFz40 : Fz40.S fFz40) {v : Fz44.A → Fz44.B} (hp : ∀ x, ∀ k : Fz44.B → Option Res, Fz44.pf fFz40 BIG x k = k (v x)) : Fz44.S (tot v) := Fz44.sound _ hFz40 _ (fun x r hr => by obtain rfl := Option.some.inj hr; exact ⟨BIG, hp x⟩)
/-! 27 spec_MixedIn -/
noncomputable def Fz38.tab (fFz45 : Fz45.A → Option Fz45.B) (fFz44 : Fz44.A → Option Fz44.B) : FuncId → Option Sig := tabOf [(52, Fz45.sig fFz45), (72, Fz44.sig fFz44)]
noncomputable def Fz38.E (fFz45 : Fz45.A → Option Fz45.B) (fFz44 : Fz44.A → Option Fz44.B) : Env := ⟨TT, small, Fz38.tab fFz45 fFz44, 1, 23⟩
def Fz38.ann : Ann := (.two .nil (.two .nil (.two .nil (.two (.two .nil (.one (.loop [0, 4, 5] .nil))) .nil))))
noncomputable def Fz38.emb1 (e0 : TypeId) (p1_0 : (List (List (Int × Int)))) (x1 : (Int × Int)) : St := { slots := mkSlots 23 [(0, .sl 0 [] none), (4, .val (.int .i64) x1.1), (5, .val (.int .i64) x1.2)], objs := mkObjs 47 [(0, .dat ⟨e0, (.arr 12 (.st (.pair (.int .u8) (.int .i16)))), p1_0, false, false, none⟩)] }
noncomputable def Fz38.LB1 {α : Type} (fFz45 : Fz45.A → Option Fz45.B) (fFz44 : Fz44.A → Option Fz44.B) (fuel : Nat) (cont : Ex → St → Option α) : (St → Option α) → St → Option α := roundV (Fz38.E fFz45 fFz44) fuel [true, true, true, false, true, false] (bodyOf Try.f27) Fz38.ann cont
noncomputable def Fz38.C1 {α : Type} (fFz45 : Fz45.A → Option Fz45.B) (fFz44 : Fz44.A → Option Fz44.B) (K : Res → Option α) (fuel : Nat) : Ex → St → Option α := contAt (Fz38.E fFz45 fFz44) fuel [true, true, true, false, true, false] (bodyOf Try.f27) Fz38.ann [] (finK TT 1 [some 0] Try.f27 [] K)
noncomputable def Fz38.ex1_0 (e0 : TypeId) (p1_0 : (List (List (Int × Int)))) (x1 : (Int × Int)) : St := { slots := mkSlots 23 [(0, .sl 0 [] none), (4, .val (.int .i64) x1.1), (5, .val (.int .i64) x1.2), (9, .val (.int .i64) x1.2), (10, .sl 0 [] none), (11, .val (.int .i64) (((List.length p1_0) : Nat) : Int)), (12, .val .bool ((decide (x1.2 < (((List.length p1_0) : Nat) : Int)))))], objs := mkObjs 47 [(0, .dat ⟨e0, (.arr 12 (.st (.pair (.int .u8) (.int .i16)))), p1_0, false, false, none⟩)] }
noncomputable def Fz38.B1 {α : Type} (fFz44 : Fz44.A → Option Fz44.B) (p1_0 : (List (List (Int × Int)))) (K0 : (Int × Int) → Option α) (rec : (Int × Int) → Option α) (x1 : (Int × Int)) : Option α :=
  cond (decide (x1.2 < (((List.length p1_0) : Nat) : Int))) (cond (inB x1.2 (List.length p1_0)) ((fFz44 (List.getD p1_0 (x1.2 : Int).toNat (List.replicate 12 ((0 : Int), (0 : Int))))).bind fun r1001 => cond (!r1001) (rec (((IntKind.i64.wrap (x1.1 + (1 : Int))), (IntKind.i64.wrap (x1.2 + (1 : Int)))))) (rec ((x1.1, (IntKind.i64.wrap (x1.2 + (1 : Int))))))) none) (K0 x1)
theorem Fz38.step1 {α : Type} (fFz45 : Fz45.A → Option Fz45.B) (fFz44 : Fz44.A → Option Fz44.B) (fuel : Nat) (cont : Ex → St → Option α) (e0 : TypeId) (p1_0 : (List (List (Int × Int)))) (rec : St → Option α) (x1 : (Int × Int)) : Fz38.LB1 fFz45 fFz44 fuel cont rec (Fz38.emb1 e0 p1_0 x1) = Fz38.B1 fFz44 p1_0 (fun x1 => cont (.exit 0) (Fz38.ex1_0 e0 p1_0 x1)) (fun y => rec (Fz38.emb1 e0 p1_0 y)) x1 := by kernel_rfl
theorem Fz38.loop1 {α : Type} (fFz45 : Fz45.A → Option Fz45.B) (fFz44 : Fz44.A → Option Fz44.B) (fuel : Nat) (cont : Ex → St → Option α) (e0 : TypeId) (p1_0 : (List (List (Int × Int)))) (x1 : (Int × Int)) : loopN (Fz38.LB1 fFz45 fFz44 fuel cont) fuel (Fz38.emb1 e0 p1_0 x1) = iter (Fz38.B1 fFz44 p1_0 (fun x1 => cont (.exit 0) (Fz38.ex1_0 e0 p1_0 x1))) fuel x1 := loop_sim (fun rec x => Fz38.step1 fFz45 fFz44 fuel cont e0 p1_0 rec x) fuel x1
noncomputable def Fz38.pf {α : Type} (fFz45 : Fz45.A → Option Fz45.B) (fFz44 : Fz44.A → Option Fz44.B) (fuel : Nat) (a0 : (List (List (Int × Int)))) (k : (Int × Int) → Option α) : Option α :=
  (fFz45 a0).bind fun r1 => cond (!r1) (k ((0 : Int), (1 : Int))) (iter (Fz38.B1 fFz44 a0 (fun (x1 : (Int × Int)) => k (x1.1, (0 : Int)))) fuel ((0 : Int), (0 : Int)))
theorem Fz38.tail1 {α : Type} (fFz45 : Fz45.A → Option Fz45.B) (fFz44 : Fz44.A → Option Fz44.B) (K : Res → Option α) (fuel : Nat) (e0 : TypeId) (a0 : (List (List (Int × Int)))) (x1 : (Int × Int)) : Fz38.C1 fFz45 fFz44 K fuel (.exit 0) (Fz38.ex1_0 e0 a0 x1) = ((fun (k : (Int × Int) → Option α) => k (x1.1, (0 : Int))) (fun r => K (Fz38.enc 0 r))) := by kernel_rfl
theorem Fz38.red_raw {α : Type} (fFz45 : Fz45.A → Option Fz45.B) (fFz44 : Fz44.A → Option Fz44.B) (K : Res → Option α) (fuel : Nat) (e0 : TypeId) (a0 : (List (List (Int × Int)))) : run TT small (Fz38.tab fFz45 fFz44) Try.f27 Fz38.ann [] fuel [.obj false ⟨e0, (.arr 12 (.st (.pair (.int .u8) (.int .i16)))), a0⟩] K = (fFz45 a0).bind fun r1 => cond (!r1) (K ⟨[.val (.int .i64) (0 : Int), .val (.int .i64) (1 : Int)], []⟩) (loopN (Fz38.LB1 fFz45 fFz44 fuel (Fz38.C1 fFz45 fFz44 K fuel)) fuel (Fz38.emb1 e0 a0 ((0 : Int), (0 : Int)))) := by kernel_rfl
theorem Fz38.red {α : Type} (fFz45 : Fz45.A → Option Fz45.B) (fFz44 : Fz44.A → Option Fz44.B) (K : Res → Option α) (fuel : Nat) (e0 : TypeId) (a0 : (List (List (Int × Int)))) : run TT small (Fz38.tab fFz45 fFz44) Try.f27 Fz38.ann [] fuel [.obj false ⟨e0, (.arr 12 (.st (.pair (.int .u8) (.int .i16)))), a0⟩] K = Fz38.pf fFz45 fFz44 fuel a0 (fun r => K (Fz38.enc 0 r)) := by
  rw [Fz38.red_raw]
  simp only [Fz38.loop1, Fz38.tail1]
  all_goals kernel_rfl
theorem Fz38.sound (fFz45 : Fz45.A → Option Fz45.B) (fFz44 : Fz44.A → Option Fz44.B) (hFz45 : Fz45.S fFz45) (hFz44 : Fz44.S fFz44) (f : Fz38.A → Option Fz38.B) (hf : ∀ x r, f x = some r → ∃ fuel, ∀ k : Fz38.B → Option Res, Fz38.pf fFz45 fFz44 fuel x k = k r) : Fz38.S f := by
  refine fn_sound (by kernel_rfl) (ttok _) (tab_sound [(52, Fz45.sig fFz45), (72, Fz44.sig fFz44)] (List.forall_mem_cons.2 ⟨hFz45, List.forall_mem_cons.2 ⟨hFz44, fun p hp => nomatch hp⟩⟩)) (fn := Try.f27) (by kernel_rfl) (by decide) (by decide) Fz38.ann [] _ rfl (fun avs r hr => ?_) (by kernel_rfl)
  obtain ⟨x, y, h1, h2, rfl⟩ := mkSig_run hr
  obtain ⟨e0, rfl⟩ := Fz38.dec_eq h1
  obtain ⟨fuel, hk⟩ := hf x y h2
  exact ⟨fuel, (Fz38.red fFz45 fFz44 some fuel e0 x).trans (hk (fun r => some (Fz38.enc 0 r)))⟩
theorem Fz38.of_cl {fFz45 : Fz45.A → Option Fz45.B} {fFz44 : Fz44.A → Option Fz44.B} (hFz45 : Fz45.S fFz45) (hFz44 : Fz44.S fFz44) {P : Fz38.A → Prop} {v : Fz38.A → Fz38.B} (hp : ∀ x, P x → ∀ k : Fz38.B → Option Res, Fz38.pf fFz45 fFz44 BIG x k = k (v x)) : Fz38.S (cl P v) := Fz38.sound _ _ hFz45 hFz44 _ (fun x r hr => by obtain ⟨h1, rfl⟩ := cl_some hr; exact ⟨BIG, hp x h1⟩)
theorem Fz38.of_tot {fFz45 : Fz45.A → Option Fz45.B} {fFz44 : Fz44.A → Option Fz44.B} (hFz45 : Fz45.S fFz45) (hFz44 : Fz44.S fFz44) {v : Fz38.A → Fz38.B} (hp : ∀ x, ∀ k : Fz38.B → Option Res, Fz38.pf fFz45 fFz44 BIG x k = k (v x)) : Fz38.S (tot v) := Fz38.sound _ _ hFz45 hFz44 _ (fun x r hr => by obtain rfl := Option.some.inj hr; exact ⟨BIG, hp x⟩)
/-! 107 impl_within -/
noncomputable def Fz16.tab : FuncId → Option Sig := tabOf []
noncomputable def Fz16.E : Env := ⟨TT, small, Fz16.tab , 0, 15⟩
def Fz16.ann : Ann := .nil
noncomputable def Fz16.pf {α : Type} (fuel : Nat) (a0 : Int) (a1 : Int) (a2 : Int) (k : Bool → Option α) : Option α :=
  cond (decide (a1 ≤ a0)) (k (decide (a0 ≤ a2))) (k false)
theorem Fz16.red {α : Type} (K : Res → Option α) (fuel : Nat) (a0 : Int) (a1 : Int) (a2 : Int) : run TT small Fz16.tab Try.f107 Fz16.ann [] fuel [.val (.int .i64) a0, .val (.int .i64) a1, .val (.int .i64) a2] K = Fz16.pf fuel a0 a1 a2 (fun r => K (Fz16.enc 0 r)) := by kernel_rfl
theorem Fz16.sound (f : Fz16.A → Option Fz16.B) (hf : ∀ x r, f x = some r → ∃ fuel, ∀ k : Fz16.B → Option Res, Fz16.pf fuel x.1 x.2.1 x.2.2 k = k r) : Fz16.S f := by
  refine fn_sound (by kernel_rfl) (ttok _) (tab_sound [] (fun p hp => nomatch hp)) (fn := Try.f107) (by kernel_rfl) (by decide) (by decide) Fz16.ann [] _ rfl (fun avs r hr => ?_) (by kernel_rfl)
  obtain ⟨x, y, h1, h2, rfl⟩ := mkSig_run hr
  obtain rfl := Fz16.dec_eq h1
  obtain ⟨fuel, hk⟩ := hf x y h2
  exact ⟨fuel, (Fz16.red some fuel x.1 x.2.1 x.2.2).trans (hk (fun r => some (Fz16.enc 0 r)))⟩
theorem Fz16.of_cl {P : Fz16.A → Prop} {v : Fz16.A → Fz16.B} (hp : ∀ x, P x → ∀ k : Fz16.B → Option Res, Fz16.pf BIG x.1 x.2.1 x.2.2 k = k (v x)) : Fz16.S (cl P v) := Fz16.sound  _ (fun x r hr => by obtain ⟨h1, rfl⟩ := cl_some hr; exact ⟨BIG, hp x h1⟩)
theorem Fz16.of_tot {v : Fz16.A → Fz16.B} (hp : ∀ x, ∀ k : Fz16.B → Option Res, Fz16.pf BIG x.1 x.2.1 x.2.2 k = k (v x)) : Fz16.S (tot v) := Fz16.sound  _ (fun x r hr => by obtain rfl := Option.some.inj hr; exact ⟨BIG, hp x⟩)
/-! 58 impl_ValidBottle -/
noncomputable def Fz10.tab (fFz16 : Fz16.A → Option Fz16.B) : FuncId → Option Sig := tabOf [(107, Fz16.sig fFz16)]
noncomputable def Fz10.E (fFz16 : Fz16.A → Option Fz16.B) : Env := ⟨TT, small, Fz10.tab fFz16, 0, 13⟩
def Fz10.ann : Ann := .nil
noncomputable def Fz10.pf {α : Type} (fFz16 : Fz16.A → Option Fz16.B) (fuel : Nat) (a0 : (Int × Int)) (k : Bool → Option α) : Option α :=
  (fFz16 ((IntKind.i64.wrap a0.1), (1 : Int), (20 : Int))).bind fun r1 => cond r1 ((fFz16 ((IntKind.i64.wrap a0.2), (1900 : Int), (2099 : Int))).bind fun r2 => k r2) (k false)
theorem Fz10.red {α : Type} (fFz16 : Fz16.A → Option Fz16.B) (K : Res → Option α) (fuel : Nat) (a0 : (Int × Int)) : run TT small (Fz10.tab fFz16) Try.f58 Fz10.ann [] fuel [.val (.st (.pair (.int .u8) (.int .i16))) a0] K = Fz10.pf fFz16 fuel a0 (fun r => K (Fz10.enc 0 r)) := by kernel_rfl
theorem Fz10.sound (fFz16 : Fz16.A → Option Fz16.B) (hFz16 : Fz16.S fFz16) (f : Fz10.A → Option Fz10.B) (hf : ∀ x r, f x = some r → ∃ fuel, ∀ k : Fz10.B → Option Res, Fz10.pf fFz16 fuel x k = k r) : Fz10.S f := by
  refine fn_sound (by kernel_rfl) (ttok _) (tab_sound [(107, Fz16.sig fFz16)] (List.forall_mem_cons.2 ⟨hFz16, fun p hp => nomatch hp⟩)) (fn := Try.f58) (by kernel_rfl) (by decide) (by decide) Fz10.ann [] _ rfl (fun avs r hr => ?_) (by kernel_rfl)
  obtain ⟨x, y, h1, h2, rfl⟩ := mkSig_run hr
  obtain rfl := Fz10.dec_eq h1
  obtain ⟨fuel, hk⟩ := hf x y h2
  exact ⟨fuel, (Fz10.red fFz16 some fuel x).trans (hk (fun r => some (Fz10.enc 0 r)))⟩
theorem Fz10.of_cl {fFz16 : Fz16.A → Option Fz16.B} (hFz16 : Fz16.S fFz16) {P : Fz10.A → Prop} {v : Fz10.A → Fz10.B} (hp : ∀ x, P x → ∀ k : Fz10.B → Option Res, Fz10.pf fFz16 BIG x k = k (v x)) : Fz10.S (cl P v) := Fz10.sound _ hFz16 _ (fun x r hr => by obtain ⟨h1, rfl⟩ := cl_some hr; exact ⟨BIG, hp x h1⟩)
theorem Fz10.of_tot {fFz16 : Fz16.A → Option Fz16.B} (hFz16 : Fz16.S fFz16) {v : Fz10.A → Fz10.B} (hp : ∀ x, ∀ k : Fz10.B → Option Res, Fz10.pf fFz16 BIG x k = k (v x)) : Fz10.S (tot v) := Fz10.sound _ hFz16 _ (fun x r hr => by obtain rfl := Option.some.inj hr; exact ⟨BIG, hp x⟩)
/-! 111 impl_ValidCrate_1 -/
noncomputable def Fz12.tab (fFz10 : Fz10.A → Option Fz10.B) : FuncId → Option Sig := tabOf [(58, Fz10.sig fFz10)]
noncomputable def Fz12.E (fFz10 : Fz10.A → Option Fz10.B) : Env := ⟨TT, small, Fz12.tab fFz10, 0, 11⟩
def Fz12.ann : Ann := .nil
noncomputable def Fz12.pf {α : Type} (fFz10 : Fz10.A → Option Fz10.B) (fuel : Nat) (a0 : (Int × Int)) (k : Bool → Option α) : Option α :=
  cond (!(eqV (.st (.pair (.int .u8) (.int .i16))) a0 ((0 : Int), (0 : Int)))) ((fFz10 a0).bind fun r1 => k (!r1)) (k false)
theorem Fz12.red {α : Type} (fFz10 : Fz10.A → Option Fz10.B) (K : Res → Option α) (fuel : Nat) (a0 : (Int × Int)) : run TT small (Fz12.tab fFz10) Try.f111 Fz12.ann [] fuel [.val (.st (.pair (.int .u8) (.int .i16))) a0] K = Fz12.pf fFz10 fuel a0 (fun r => K (Fz12.enc 0 r)) := by kernel_rfl
theorem Fz12.sound (fFz10 : Fz10.A → Option Fz10.B) (hFz10 : Fz10.S fFz10) (f : Fz12.A → Option Fz12.B) (hf : ∀ x r, f x = some r → ∃ fuel, ∀ k : Fz12.B → Option Res, Fz12.pf fFz10 fuel x k = k r) : Fz12.S f := by
  refine fn_sound (by kernel_rfl) (ttok _) (tab_sound [(58, Fz10.sig fFz10)] (List.forall_mem_cons.2 ⟨hFz10, fun p hp => nomatch hp⟩)) (fn := Try.f111) (by kernel_rfl) (by decide) (by decide) Fz12.ann [] _ rfl (fun avs r hr => ?_) (by kernel_rfl)
  obtain ⟨x, y, h1, h2, rfl⟩ := mkSig_run hr
  obtain rfl := Fz12.dec_eq h1
  obtain ⟨fuel, hk⟩ := hf x y h2
  exact ⟨fuel, (Fz12.red fFz10 some fuel x).trans (hk (fun r => some (Fz12.enc 0 r)))⟩
theorem Fz12.of_cl {fFz10 : Fz10.A → Option Fz10.B} (hFz10 : Fz10.S fFz10) {P : Fz12.A → Prop} {v : Fz12.A → Fz12.B} (hp : ∀ x, P x → ∀ k : Fz12.B → Option Res, Fz12.pf fFz10 BIG x k = k (v x)) : Fz12.S (cl P v) := Fz12.sound _ hFz10 _ (fun x r hr => by obtain ⟨h1, rfl⟩ := cl_some hr; exact ⟨BIG, hp x h1⟩)
theorem Fz12.of_tot {fFz10 : Fz10.A → Option Fz10.B} (hFz10 : Fz10.S fFz10) {v : Fz12.A → Fz12.B} (hp : ∀ x, ∀ k : Fz12.B → Option Res, Fz12.pf fFz10 BIG x k = k (v x)) : Fz12.S (tot v) := Fz12.sound _ hFz10 _ (fun x r hr => by obtain rfl := Option.some.inj hr; exact ⟨BIG, hp x⟩)
/-! 106 slices_IndexFunc_impl_Bottle_impl_Bottle__impl_ValidCrate_1 -/
noncomputable def Fz33.tab (fFz12 : Fz12.A → Option Fz12.B) : FuncId → Option Sig := tabOf [(111, Fz12.sig fFz12)]
noncomputable def Fz33.E (fFz12 : Fz12.A → Option Fz12.B) : Env := ⟨TT, small, Fz33.tab fFz12, 1, 19⟩
def Fz33.ann : Ann := (.two .nil (.two (.two .nil (.one (.loop [0, 1, 7, 8] .nil))) .nil))
noncomputable def Fz33.emb1 (e0 : TypeId) (p1_0 : Int) (p1_1 : (List (Int × Int))) (x1 : Int) : St := { slots := mkSlots 19 [(0, .sl 0 [] none), (1, .fn 111 []), (7, .val (.int .i64) p1_0), (8, .val (.int .i64) x1)], objs := mkObjs 39 [(0, .dat ⟨e0, (.st (.pair (.int .u8) (.int .i16))), p1_1, false, false, none⟩)] }
noncomputable def Fz33.LB1 {α : Type} (fFz12 : Fz12.A → Option Fz12.B) (fuel : Nat) (cont : Ex → St → Option α) : (St → Option α) → St → Option α := roundV (Fz33.E fFz12) fuel [true, false, true, false] (bodyOf Try.f106) Fz33.ann cont
noncomputable def Fz33.C1 {α : Type} (fFz12 : Fz12.A → Option Fz12.B) (K : Res → Option α) (fuel : Nat) : Ex → St → Option α := contAt (Fz33.E fFz12) fuel [true, false, true, false] (bodyOf Try.f106) Fz33.ann [] (finK TT 1 [some 0, none] Try.f106 [] K)
noncomputable def Fz33.ex1_0 (e0 : TypeId) (p1_0 : Int) (p1_1 : (List (Int × Int))) (x1 : Int) (r1001 : Bool) : St := { slots := mkSlots 19 [(0, .sl 0 [] none), (1, .fn 111 []), (4, .val (.int .i64) x1), (5, .val (.int .i64) x1), (7, .val (.int .i64) p1_0), (8, .val (.int .i64) x1), (9, .val .bool (decide (x1 < p1_0))), (10, .val (.int .i64) x1), (11, .fn 111 []), (12, .sl 0 [] none), (13, .val (.int .i64) x1), (14, .ptr 0 [.idx (x1 : Int).toNat] false), (15, .val (.st (.pair (.int .u8) (.int .i16))) (List.getD p1_1 (x1 : Int).toNat ((0 : Int), (0 : Int)))), (16, .val .bool r1001), (17, .val (.int .i64) x1)], objs := mkObjs 39 [(0, .dat ⟨e0, (.st (.pair (.int .u8) (.int .i16))), p1_1, false, false, none⟩)] }
noncomputable def Fz33.ex1_1 (e0 : TypeId) (p1_0 : Int) (p1_1 : (List (Int × Int))) (x1 : Int) : St := { slots := mkSlots 19 [(0, .sl 0 [] none), (1, .fn 111 []), (7, .val (.int .i64) p1_0), (8, .val (.int .i64) x1), (9, .val .bool (decide (x1 < p1_0)))], objs := mkObjs 39 [(0, .dat ⟨e0, (.st (.pair (.int .u8) (.int .i16))), p1_1, false, false, none⟩)] }
noncomputable def Fz33.B1 {α : Type} (fFz12 : Fz12.A → Option Fz12.B) (p1_0 : Int) (p1_1 : (List (Int × Int))) (K0 : Int → Bool → Option α) (K1 : Int → Option α) (rec : Int → Option α) (x1 : Int) : Option α :=
  cond (decide (x1 < p1_0)) (cond (inB x1 (List.length p1_1)) ((fFz12 (List.getD p1_1 (x1 : Int).toNat ((0 : Int), (0 : Int)))).bind fun r1001 => cond r1001 (K0 x1 r1001) (rec (IntKind.i64.wrap (x1 + (1 : Int))))) none) (K1 x1)
theorem Fz33.step1 {α : Type} (fFz12 : Fz12.A → Option Fz12.B) (fuel : Nat) (cont : Ex → St → Option α) (e0 : TypeId) (p1_0 : Int) (p1_1 : (List (Int × Int))) (rec : St → Option α) (x1 : Int) : Fz33.LB1 fFz12 fuel cont rec (Fz33.emb1 e0 p1_0 p1_1 x1) = Fz33.B1 fFz12 p1_0 p1_1 (fun x1 r1001 => cont .ret (Fz33.ex1_0 e0 p1_0 p1_1 x1 r1001)) (fun x1 => cont (.exit 0) (Fz33.ex1_1 e0 p1_0 p1_1 x1)) (fun y => rec (Fz33.emb1 e0 p1_0 p1_1 y)) x1 := by kernel_rfl
theorem Fz33.loop1 {α : Type} (fFz12 : Fz12.A → Option Fz12.B) (fuel : Nat) (cont : Ex → St → Option α) (e0 : TypeId) (p1_0 : Int) (p1_1 : (List (Int × Int))) (x1 : Int) : loopN (Fz33.LB1 fFz12 fuel cont) fuel (Fz33.emb1 e0 p1_0 p1_1 x1) = iter (Fz33.B1 fFz12 p1_0 p1_1 (fun x1 r1001 => cont .ret (Fz33.ex1_0 e0 p1_0 p1_1 x1 r1001)) (fun x1 => cont (.exit 0) (Fz33.ex1_1 e0 p1_0 p1_1 x1))) fuel x1 := loop_sim (fun rec x => Fz33.step1 fFz12 fuel cont e0 p1_0 p1_1 rec x) fuel x1
noncomputable def Fz33.pf {α : Type} (fFz12 : Fz12.A → Option Fz12.B) (fuel : Nat) (a0 : (List (Int × Int))) (k : Int → Option α) : Option α :=
  iter (Fz33.B1 fFz12 (((List.length a0) : Nat) : Int) a0 (fun (x1 : Int) (r1001 : Bool) => k x1) (fun (x1 : Int) => k (-1 : Int))) fuel (0 : Int)
theorem Fz33.tail1 {α : Type} (fFz12 : Fz12.A → Option Fz12.B) (K : Res → Option α) (fuel : Nat) (e0 : TypeId) (a0 : (List (Int × Int))) (x1 : Int) (r1001 : Bool) : Fz33.C1 fFz12 K fuel .ret (Fz33.ex1_0 e0 (((List.length a0) : Nat) : Int) a0 x1 r1001) = ((fun (k : Int → Option α) => k x1) (fun r => K (Fz33.enc 0 r))) := by kernel_rfl
theorem Fz33.tail2 {α : Type} (fFz12 : Fz12.A → Option Fz12.B) (K : Res → Option α) (fuel : Nat) (e0 : TypeId) (a0 : (List (Int × Int))) (x1 : Int) : Fz33.C1 fFz12 K fuel (.exit 0) (Fz33.ex1_1 e0 (((List.length a0) : Nat) : Int) a0 x1) = ((fun (k : Int → Option α) => k (-1 : Int)) (fun r => K (Fz33.enc 0 r))) := by kernel_rfl
theorem Fz33.red_raw {α : Type} (fFz12 : Fz12.A → Option Fz12.B) (K : Res → Option α) (fuel : Nat) (e0 : TypeId) (a0 : (List (Int × Int))) : run TT small (Fz33.tab fFz12) Try.f106 Fz33.ann [] fuel [.obj false ⟨e0, (.st (.pair (.int .u8) (.int .i16))), a0⟩, .fn 111 []] K = loopN (Fz33.LB1 fFz12 fuel (Fz33.C1 fFz12 K fuel)) fuel (Fz33.emb1 e0 (((List.length a0) : Nat) : Int) a0 (0 : Int)) := by kernel_rfl
theorem Fz33.red {α : Type} (fFz12 : Fz12.A → Option Fz12.B) (K : Res → Option α) (fuel : Nat) (e0 : TypeId) (a0 : (List (Int × Int))) : run TT small (Fz33.tab fFz12) Try.f106 Fz33.ann [] fuel [.obj false ⟨e0, (.st (.pair (.int .u8) (.int .i16))), a0⟩, .fn 111 []] K = Fz33.pf fFz12 fuel a0 (fun r => K (Fz33.enc 0 r)) := by
  rw [Fz33.red_raw]
  simp only [Fz33.loop1, Fz33.tail1, Fz33.tail2]
  all_goals kernel_rfl
theorem Fz33.sound (fFz12 : Fz12.A → Option Fz12.B) (hFz12 : Fz12.S fFz12) (f : Fz33.A → Option Fz33.B) (hf : ∀ x r, f x = some r → ∃ fuel, ∀ k : Fz33.B → Option Res, Fz33.pf fFz12 fuel x k = k r) : Fz33.S f := by
  refine fn_sound (by kernel_rfl) (ttok _) (tab_sound [(111, Fz12.sig fFz12)] (List.forall_mem_cons.2 ⟨hFz12, fun p hp => nomatch hp⟩)) (fn := Try.f106) (by kernel_rfl) (by decide) (by decide) Fz33.ann [] _ rfl (fun avs r hr => ?_) (by kernel_rfl)
  obtain ⟨x, y, h1, h2, rfl⟩ := mkSig_run hr
  obtain ⟨e0, rfl⟩ := Fz33.dec_eq h1
  obtain ⟨fuel, hk⟩ := hf x y h2
  exact ⟨fuel, (Fz33.red fFz12 some fuel e0 x).trans (hk (fun r => some (Fz33.enc 0 r)))⟩
theorem Fz33.of_cl {fFz12 : Fz12.A → Option Fz12.B} (hFz12 : Fz12.S fFz12) {P : Fz33.A → Prop} {v : Fz33.A → Fz33.B} (hp : ∀ x, P x → ∀ k : Fz33.B → Option Res, Fz33.pf fFz12 BIG x k = k (v x)) : Fz33.S (cl P v) := Fz33.sound _ hFz12 _ (fun x r hr => by obtain ⟨h1, rfl⟩ := cl_some hr; exact ⟨BIG, hp x h1⟩)
theorem Fz33.of_tot {fFz12 : Fz12.A → Option Fz12.B} (hFz12 : Fz12.S fFz12) {v : Fz33.A → Fz33.B} (hp : ∀ x, ∀ k : Fz33.B → Option Res, Fz33.pf fFz12 BIG x k = k (v x)) : Fz33.S (tot v) := Fz33.sound _ hFz12 _ (fun x r hr => by obtain rfl := Option.some.inj hr; exact ⟨BIG, hp x⟩)
/-! 56 slices_ContainsFunc_impl_Bottle_impl_Bottle__impl_ValidCrate_1 -/
noncomputable def Fz29.tab (fFz33 : Fz33.A → Option Fz33.B) : FuncId → Option Sig := tabOf [(106, Fz33.sig fFz33)]
noncomputable def Fz29.E (fFz33 : Fz33.A → Option Fz33.B) : Env := ⟨TT, small, Fz29.tab fFz33, 1, 9⟩
def Fz29.ann : Ann := .nil
noncomputable def Fz29.pf {α : Type} (fFz33 : Fz33.A → Option Fz33.B) (fuel : Nat) (a0 : (List (Int × Int))) (k : Bool → Option α) : Option α :=
  (fFz33 a0).bind fun r1 => k (decide (r1 ≥ (0 : Int)))
theorem Fz29.red {α : Type} (fFz33 : Fz33.A → Option Fz33.B) (K : Res → Option α) (fuel : Nat) (e0 : TypeId) (a0 : (List (Int × Int))) : run TT small (Fz29.tab fFz33) Try.f56 Fz29.ann [] fuel [.obj false ⟨e0, (.st (.pair (.int .u8) (.int .i16))), a0⟩, .fn 111 []] K = Fz29.pf fFz33 fuel a0 (fun r => K (Fz29.enc 0 r)) := by kernel_rfl
theorem Fz29.sound (fFz33 : Fz33.A → Option Fz33.B) (hFz33 : Fz33.S fFz33) (f : Fz29.A → Option Fz29.B) (hf : ∀ x r, f x = some r → ∃ fuel, ∀ k : Fz29.B → Option Res, Fz29.pf fFz33 fuel x k = k r) : Fz29.S f := by
  refine fn_sound (by kernel_rfl) (ttok _) (tab_sound [(106, Fz33.sig fFz33)] (List.forall_mem_cons.2 ⟨hFz33, fun p hp => nomatch hp⟩)) (fn := Try.f56) (by kernel_rfl) (by decide) (by decide) Fz29.ann [] _ rfl (fun avs r hr => ?_) (by kernel_rfl)
  obtain ⟨x, y, h1, h2, rfl⟩ := mkSig_run hr
  obtain ⟨e0, rfl⟩ := Fz29.dec_eq h1
  obtain ⟨fuel, hk⟩ := hf x y h2
  exact ⟨fuel, (Fz29.red fFz33 some fuel e0 x).trans (hk (fun r => some (Fz29.enc 0 r)))⟩
theorem Fz29.of_cl {fFz33 : Fz33.A → Option Fz33.B} (hFz33 : Fz33.S fFz33) {P : Fz29.A → Prop} {v : Fz29.A → Fz29.B} (hp : ∀ x, P x → ∀ k : Fz29.B → Option Res, Fz29.pf fFz33 BIG x k = k (v x)) : Fz29.S (cl P v) := Fz29.sound _ hFz33 _ (fun x r hr => by obtain ⟨h1, rfl⟩ := cl_some hr; exact ⟨BIG, hp x h1⟩)
theorem Fz29.of_tot {fFz33 : Fz33.A → Option Fz33.B} (hFz33 : Fz33.S fFz33) {v : Fz29.A → Fz29.B} (hp : ∀ x, ∀ k : Fz29.B → Option Res, Fz29.pf fFz33 BIG x k = k (v x)) : Fz29.S (tot v) := Fz29.sound _ hFz33 _ (fun x r hr => by obtain rfl := Option.some.inj hr; exact ⟨BIG, hp x⟩)
/-! 66 impl_ValidCrate -/
noncomputable def Fz11.tab (fFz29 : Fz29.A → Option Fz29.B) : FuncId → Option Sig := tabOf [(56, Fz29.sig fFz29)]
noncomputable def Fz11.E (fFz29 : Fz29.A → Option Fz29.B) : Env := ⟨TT, small, Fz11.tab fFz29, 0, 6⟩
def Fz11.ann : Ann := .nil
noncomputable def Fz11.pf {α : Type} (fFz29 : Fz29.A → Option Fz29.B) (fuel : Nat) (a0 : (List (Int × Int))) (k : Bool → Option α) : Option α :=
  (fFz29 a0).bind fun r1 => k (!r1)
theorem Fz11.red {α : Type} (fFz29 : Fz29.A → Option Fz29.B) (K : Res → Option α) (fuel : Nat) (a0 : (List (Int × Int))) : run TT small (Fz11.tab fFz29) Try.f66 Fz11.ann [] fuel [.val (.arr 12 (.st (.pair (.int .u8) (.int .i16)))) a0] K = Fz11.pf fFz29 fuel a0 (fun r => K (Fz11.enc 0 r)) := by kernel_rfl
theorem Fz11.sound (fFz29 : Fz29.A → Option Fz29.B) (hFz29 : Fz29.S fFz29) (f : Fz11.A → Option Fz11.B) (hf : ∀ x r, f x = some r → ∃ fuel, ∀ k : Fz11.B → Option Res, Fz11.pf fFz29 fuel x k = k r) : Fz11.S f := by
  refine fn_sound (by kernel_rfl) (ttok _) (tab_sound [(56, Fz29.sig fFz29)] (List.forall_mem_cons.2 ⟨hFz29, fun p hp => nomatch hp⟩)) (fn := Try.f66) (by kernel_rfl) (by decide) (by decide) Fz11.ann [] _ rfl (fun avs r hr => ?_) (by kernel_rfl)
  obtain ⟨x, y, h1, h2, rfl⟩ := mkSig_run hr
  obtain rfl := Fz11.dec_eq h1
  obtain ⟨fuel, hk⟩ := hf x y h2
  exact ⟨fuel, (Fz11.red fFz29 some fuel x).trans (hk (fun r => some (Fz11.enc 0 r)))⟩
theorem Fz11.of_cl {fFz29 : Fz29.A → Option Fz29.B} (hFz29 : Fz29.S fFz29) {P : Fz11.A → Prop} {v : Fz11.A → Fz11.B} (hp : ∀ x, P x → ∀ k : Fz11.B → Option Res, Fz11.pf fFz29 BIG x k = k (v x)) : Fz11.S (cl P v) := Fz11.sound _ hFz29 _ (fun x r hr => by obtain ⟨h1, rfl⟩ := cl_some hr; exact ⟨BIG, hp x h1⟩)
theorem Fz11.of_tot {fFz29 : Fz29.A → Option Fz29.B} (hFz29 : Fz29.S fFz29) {v : Fz11.A → Fz11.B} (hp : ∀ x, ∀ k : Fz11.B → Option Res, Fz11.pf fFz29 BIG x k = k (v x)) : Fz11.S (tot v) := Fz11.sound _ hFz29 _ (fun x r hr => by obtain rfl := Option.some.inj hr; exact ⟨BIG, hp x⟩)
/-! 109 impl_ValidStack_1 -/
noncomputable def Fz14.tab (fFz11 : Fz11.A → Option Fz11.B) : FuncId → Option Sig := tabOf [(66, Fz11.sig fFz11)]
noncomputable def Fz14.E (fFz11 : Fz11.A → Option Fz11.B) : Env := ⟨TT, small, Fz14.tab fFz11, 0, 6⟩
def Fz14.ann : Ann := .nil
noncomputable def Fz14.pf {α : Type} (fFz11 : Fz11.A → Option Fz11.B) (fuel : Nat) (a0 : (List (Int × Int))) (k : Bool → Option α) : Option α :=
  (fFz11 a0).bind fun r1 => k (!r1)
theorem Fz14.red {α : Type} (fFz11 : Fz11.A → Option Fz11.B) (K : Res → Option α) (fuel : Nat) (a0 : (List (Int × Int))) : run TT small (Fz14.tab fFz11) Try.f109 Fz14.ann [] fuel [.val (.arr 12 (.st (.pair (.int .u8) (.int .i16)))) a0] K = Fz14.pf fFz11 fuel a0 (fun r => K (Fz14.enc 0 r)) := by kernel_rfl
theorem Fz14.sound (fFz11 : Fz11.A → Option Fz11.B) (hFz11 : Fz11.S fFz11) (f : Fz14.A → Option Fz14.B) (hf : ∀ x r, f x = some r → ∃ fuel, ∀ k : Fz14.B → Option Res, Fz14.pf fFz11 fuel x k = k r) : Fz14.S f := by
  refine fn_sound (by kernel_rfl) (ttok _) (tab_sound [(66, Fz11.sig fFz11)] (List.forall_mem_cons.2 ⟨hFz11, fun p hp => nomatch hp⟩)) (fn := Try.f109) (by kernel_rfl) (by decide) (by decide) Fz14.ann [] _ rfl (fun avs r hr => ?_) (by kernel_rfl)
  obtain ⟨x, y, h1, h2, rfl⟩ := mkSig_run hr
  obtain rfl := Fz14.dec_eq h1
  obtain ⟨fuel, hk⟩ := hf x y h2
  exact ⟨fuel, (Fz14.red fFz11 some fuel x).trans (hk (fun r => some (Fz14.enc 0 r)))⟩
theorem Fz14.of_cl {fFz11 : Fz11.A → Option Fz11.B} (hFz11 : Fz11.S fFz11) {P : Fz14.A → Prop} {v : Fz14.A → Fz14.B} (hp : ∀ x, P x → ∀ k : Fz14.B → Option Res, Fz14.pf fFz11 BIG x k = k (v x)) : Fz14.S (cl P v) := Fz14.sound _ hFz11 _ (fun x r hr => by obtain ⟨h1, rfl⟩ := cl_some hr; exact ⟨BIG, hp x h1⟩)
theorem Fz14.of_tot {fFz11 : Fz11.A → Option Fz11.B} (hFz11 : Fz11.S fFz11) {v : Fz14.A → Fz14.B} (hp : ∀ x, ∀ k : Fz14.B → Option Res, Fz14.pf fFz11 BIG x k = k (v x)) : Fz14.S (tot v) := Fz14.sound _ hFz11 _ (fun x r hr => by obtain rfl := Option.some.inj hr; exact ⟨BIG, hp x⟩)
/-! 129 slices_IndexFunc_impl_Crate_impl_Crate__impl_ValidStack_1 -/
noncomputable def Fz34.tab (fFz14 : Fz14.A → Option Fz14.B) : FuncId → Option Sig := tabOf [(109, Fz14.sig fFz14)]
noncomputable def Fz34.E (fFz14 : Fz14.A → Option Fz14.B) : Env := ⟨TT, small, Fz34.tab fFz14, 1, 19⟩
def Fz34.ann : Ann := (.two .nil (.two (.two .nil (.one (.loop [0, 1, 7, 8] .nil))) .nil))
noncomputable def Fz34.emb1 (e0 : TypeId) (p1_0 : Int) (p1_1 : (List (List (Int × Int)))) (x1 : Int) : St := { slots := mkSlots 19 [(0, .sl 0 [] none), (1, .fn 109 []), (7, .val (.int .i64) p1_0), (8, .val (.int .i64) x1)], objs := mkObjs 39 [(0, .dat ⟨e0, (.arr 12 (.st (.pair (.int .u8) (.int .i16)))), p1_1, false, false, none⟩)] }
noncomputable def Fz34.LB1 {α : Type} (fFz14 : Fz14.A → Option Fz14.B) (fuel : Nat) (cont : Ex → St → Option α) : (St → Option α) → St → Option α := roundV (Fz34.E fFz14) fuel [true, false, true, false] (bodyOf Try.f129) Fz34.ann cont
noncomputable def Fz34.C1 {α : Type} (fFz14 : Fz14.A → Option Fz14.B) (K : Res → Option α) (fuel : Nat) : Ex → St → Option α := contAt (Fz34.E fFz14) fuel [true, false, true, false] (bodyOf Try.f129) Fz34.ann [] (finK TT 1 [some 0, none] Try.f129 [] K)
noncomputable def Fz34.ex1_0 (e0 : TypeId) (p1_0 : Int) (p1_1 : (List (List (Int × Int)))) (x1 : Int) (r1001 : Bool) : St := { slots := mkSlots 19 [(0, .sl 0 [] none), (1, .fn 109 []), (4, .val (.int .i64) x1), (5, .val (.int .i64) x1), (7, .val (.int .i64) p1_0), (8, .val (.int .i64) x1), (9, .val .bool (decide (x1 < p1_0))), (10, .val (.int .i64) x1), (11, .fn 109 []), (12, .sl 0 [] none), (13, .val (.int .i64) x1), (14, .ptr 0 [.idx (x1 : Int).toNat] false), (15, .val (.arr 12 (.st (.pair (.int .u8) (.int .i16)))) ((List.getD p1_1 (x1 : Int).toNat (List.replicate 12 ((0 : Int), (0 : Int)))))), (16, .val .bool r1001), (17, .val (.int .i64) x1)], objs := mkObjs 39 [(0, .dat ⟨e0, (.arr 12 (.st (.pair (.int .u8) (.int .i16)))), p1_1, false, false, none⟩)] }
noncomputable def Fz34.ex1_1 (e0 : TypeId) (p1_0 : Int) (p1_1 : (List (List (Int × Int)))) (x1 : Int) : St := { slots := mkSlots 19 [(0, .sl 0 [] none), (1, .fn 109 []), (7, .val (.int .i64) p1_0), (8, .val (.int .i64) x1), (9, .val .bool (decide (x1 < p1_0)))], objs := mkObjs 39 [(0, .dat ⟨e0, (.arr 12 (.st (.pair (.int .u8) (.int .i16)))), p1_1, false, false, none⟩)] }
noncomputable def Fz34.B1 {α : Type} (fFz14 : Fz14.A → Option Fz14.B) (p1_0 : Int) (p1_1 : (List (List (Int × Int)))) (K0 : Int → Bool → Option α) (K1 : Int → Option α) (rec : Int → Option α) (x1 : Int) : Option α :=
  cond (decide (x1 < p1_0)) (cond (inB x1 (List.length p1_1)) ((fFz14 (List.getD p1_1 (x1 : Int).toNat (List.replicate 12 ((0 : Int), (0 : Int))))).bind fun r1001 => cond r1001 (K0 x1 r1001) (rec (IntKind.i64.wrap (x1 + (1 : Int))))) none) (K1 x1)
theorem Fz34.step1 {α : Type} (fFz14 : Fz14.A → Option Fz14.B) (fuel : Nat) (cont : Ex → St → Option α) (e0 : TypeId) (p1_0 : Int) (p1_1 : (List (List (Int × Int)))) (rec : St → Option α) (x1 : Int) : Fz34.LB1 fFz14 fuel cont rec (Fz34.emb1 e0 p1_0 p1_1 x1) = Fz34.B1 fFz14 p1_0 p1_1 (fun x1 r1001 => cont .ret (Fz34.ex1_0 e0 p1_0 p1_1 x1 r1001)) (fun x1 => cont (.exit 0) (Fz34.ex1_1 e0 p1_0 p1_1 x1)) (fun y => rec (Fz34.emb1 e0 p1_0 p1_1 y)) x1 := by kernel_rfl
theorem Fz34.loop1 {α : Type} (fFz14 : Fz14.A → Option Fz14.B) (fuel : Nat) (cont : Ex → St → Option α) (e0 : TypeId) (p1_0 : Int) (p1_1 : (List (List (Int × Int)))) (x1 : Int) : loopN (Fz34.LB1 fFz14 fuel cont) fuel (Fz34.emb1 e0 p1_0 p1_1 x1) = iter (Fz34.B1 fFz14 p1_0 p1_1 (fun x1 r1001 => cont .ret (Fz34.ex1_0 e0 p1_0 p1_1 x1 r1001)) (fun x1 => cont (.exit 0) (Fz34.ex1_1 e0 p1_0 p1_1 x1))) fuel x1 := loop_sim (fun rec x => Fz34.step1 fFz14 fuel cont e0 p1_0 p1_1 rec x) fuel x1
noncomputable def Fz34.pf {α : Type} (fFz14 : Fz14.A → Option Fz14.B) (fuel : Nat) (a0 : (List (List (Int × Int)))) (k : Int → Option α) : Option α :=
  iter (Fz34.B1 fFz14 (((List.length a0) : Nat) : Int) a0 (fun (x1 : Int) (r1001 : Bool) => k x1) (fun (x1 : Int) => k (-1 : Int))) fuel (0 : Int)
theorem Fz34.tail1 {α : Type} (fFz14 : Fz14.A → Option Fz14.B) (K : Res → Option α) (fuel : Nat) (e0 : TypeId) (a0 : (List (List (Int × Int)))) (x1 : Int) (r1001 : Bool) : Fz34.C1 fFz14 K fuel .ret (Fz34.ex1_0 e0 (((List.length a0) : Nat) : Int) a0 x1 r1001) = ((fun (k : Int → Option α) => k x1) (fun r => K (Fz34.enc 0 r))) := by kernel_rfl
theorem Fz34.tail2 {α : Type} (fFz14 : Fz14.A → Option Fz14.B) (K : Res → Option α) (fuel : Nat) (e0 : TypeId) (a0 : (List (List (Int × Int)))) (x1 : Int) : Fz34.C1 fFz14 K fuel (.exit 0) (Fz34.ex1_1 e0 (((List.length a0) : Nat) : Int) a0 x1) = ((fun (k : Int → Option α) => k (-1 : Int)) (fun r => K (Fz34.enc 0 r))) := by kernel_rfl
theorem Fz34.red_raw {α : Type} (fFz14 : Fz14.A → Option Fz14.B) (K : Res → Option α) (fuel : Nat) (e0 : TypeId) (a0 : (List (List (Int × Int)))) : run TT small (Fz34.tab fFz14) Try.f129 Fz34.ann [] fuel [.obj false ⟨e0, (.arr 12 (.st (.pair (.int .u8) (.int .i16)))), a0⟩, .fn 109 []] K = loopN (Fz34.LB1 fFz14 fuel (Fz34.C1 fFz14 K fuel)) fuel (Fz34.emb1 e0 (((List.length a0) : Nat) : Int) a0 (0 : Int)) := by kernel_rfl
theorem Fz34.red {α : Type} (fFz14 : Fz14.A → Option Fz14.B) (K : Res → Option α) (fuel : Nat) (e0 : TypeId) (a0 : (List (List (Int × Int)))) : run TT small (Fz34.tab fFz14) Try.f129 Fz34.ann [] fuel [.obj false ⟨e0, (.arr 12 (.st (.pair (.int .u8) (.int .i16)))), a0⟩, .fn 109 []] K = Fz34.pf fFz14 fuel a0 (fun r => K (Fz34.enc 0 r)) := by
  rw [Fz34.red_raw]
  simp only [Fz34.loop1, Fz34.tail1, Fz34.tail2]
  all_goals kernel_rfl
theorem Fz34.sound (fFz14 : Fz14.A → Option Fz14.B) (hFz14 : Fz14.S fFz14) (f : Fz34.A → Option Fz34.B) (hf : ∀ x r, f x = some r → ∃ fuel, ∀ k : Fz34.B → Option Res, Fz34.pf fFz14 fuel x k = k r) : Fz34.S f := by
  refine fn_sound (by kernel_rfl) (ttok _) (tab_sound [(109, Fz14.sig fFz14)] (List.forall_mem_cons.2 ⟨hFz14, fun p hp => nomatch hp⟩)) (fn := Try.f129) (by kernel_rfl) (by decide) (by decide) Fz34.ann [] _ rfl (fun avs r hr => ?_) (by kernel_rfl)
  obtain ⟨x, y, h1, h2, rfl⟩ := mkSig_run hr
  obtain ⟨e0, rfl⟩ := Fz34.dec_eq h1
  obtain ⟨fuel, hk⟩ := hf x y h2
  exact ⟨fuel, (Fz34.red fFz14 some fuel e0 x).trans (hk (fun r => some (Fz34.enc 0 r)))⟩
theorem Fz34.of_cl {fFz14 : Fz14.A → Option Fz14.B} (hFz14 : Fz14.S fFz14) {P : Fz34.A → Prop} {v : Fz34.A → Fz34.B} (hp : ∀ x, P x → ∀ k : Fz34.B → Option Res, Fz34.pf fFz14 BIG x k = k (v x)) : Fz34.S (cl P v) := Fz34.sound _ hFz14 _ (fun x r hr => by obtain ⟨h1, rfl⟩ := cl_some hr; exact ⟨BIG, hp x h1⟩)
theorem Fz34.of_tot {fFz14 : Fz14.A → Option Fz14.B} (hFz14 : Fz14.S fFz14) {v : Fz34.A → Fz34.B} (hp : ∀ x, ∀ k : Fz34.B → Option Res, Fz34.pf fFz14 BIG x k = k (v x)) : Fz34.S (tot v) := Fz34.sound _ hFz14 _ (fun x r hr => by obtain rfl := Option.some.inj hr; exact ⟨BIG, hp x⟩)
/-! 108 slices_ContainsFunc_impl_Crate_impl_Crate__impl_ValidStack_1 -/
noncomputable def Fz30.tab (fFz34 : Fz34.A → Option Fz34.B) : FuncId → Option Sig := tabOf [(129, Fz34.sig fFz34)]
noncomputable def Fz30.E (fFz34 : Fz34.A → Option Fz34.B) : Env := ⟨TT, small, Fz30.tab fFz34, 1, 9⟩
def Fz30.ann : Ann := .nil
noncomputable def Fz30.pf {α : Type} (fFz34 : Fz34.A → Option Fz34.B) (fuel : Nat) (a0 : (List (List (Int × Int)))) (k : Bool → Option α) : Option α :=
  (fFz34 a0).bind fun r1 => k (decide (r1 ≥ (0 : Int)))
theorem Fz30.red {α : Type} (fFz34 : Fz34.A → Option Fz34.B) (K : Res → Option α) (fuel : Nat) (e0 : TypeId) (a0 : (List (List (Int × Int)))) : run TT small (Fz30.tab fFz34) Try.f108 Fz30.ann [] fuel [.obj false ⟨e0, (.arr 12 (.st (.pair (.int .u8) (.int .i16)))), a0⟩, .fn 109 []] K = Fz30.pf fFz34 fuel a0 (fun r => K (Fz30.enc 0 r)) := by kernel_rfl
theorem Fz30.sound (fFz34 : Fz34.A → Option Fz34.B) (hFz34 : Fz34.S fFz34) (f : Fz30.A → Option Fz30.B) (hf : ∀ x r, f x = some r → ∃ fuel, ∀ k : Fz30.B → Option Res, Fz30.pf fFz34 fuel x k = k r) : Fz30.S f := by
  refine fn_sound (by kernel_rfl) (ttok _) (tab_sound [(129, Fz34.sig fFz34)] (List.forall_mem_cons.2 ⟨hFz34, fun p hp => nomatch hp⟩)) (fn := Try.f108) (by kernel_rfl) (by decide) (by decide) Fz30.ann [] _ rfl (fun avs r hr => ?_) (by kernel_rfl)
  obtain ⟨x, y, h1, h2, rfl⟩ := mkSig_run hr
  obtain ⟨e0, rfl⟩ := Fz30.dec_eq h1
  obtain ⟨fuel, hk⟩ := hf x y h2
  exact ⟨fuel, (Fz30.red fFz34 some fuel e0 x).trans (hk (fun r => some (Fz30.enc 0 r)))⟩
theorem Fz30.of_cl {fFz34 : Fz34.A → Option Fz34.B} (hFz34 : Fz34.S fFz34) {P : Fz30.A → Prop} {v : Fz30.A → Fz30.B} (hp : ∀ x, P x → ∀ k : Fz30.B → Option Res, Fz30.pf fFz34 BIG x k = k (v x)) : Fz30.S (cl P v) := Fz30.sound _ hFz34 _ (fun x r hr => by obtain ⟨h1, rfl⟩ := cl_some hr; exact ⟨BIG, hp x h1⟩)
theorem Fz30.of_tot {fFz34 : Fz34.A → Option Fz34.B} (hFz34 : Fz34.S fFz34) {v : Fz30.A → Fz30.B} (hp : ∀ x, ∀ k : Fz30.B → Option Res, Fz30.pf fFz34 BIG x k = k (v x)) : Fz30.S (tot v) := Fz30.sound _ hFz34 _ (fun x r hr => by obtain rfl := Option.some.inj hr; exact ⟨BIG, hp x⟩)
end Go.Proofs.Ytjajlmaldeoobaa.G
