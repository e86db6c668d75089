import Derived.Test.YtjajlmaldeoobaaSg
namespace Go.Proofs.Ytjajlmaldeoobaa.G
open Go Go.Proofs
set_option linter.unusedVariables false
set_option linter.unusedSimpArgs false
set_option maxRecDepth 100000
noncomputable def Fz27.tab : FuncId → Option Sig := tabOf []
noncomputable def Fz27.E : Env := ⟨TT, small, Fz27.tab , 1, 12⟩
def Fz27.ann : Ann := .nil
noncomputable def Fz27.pf {α : Type} (fuel : Nat) (a0 : (List (List Zb))) (a1 : Int) (k : Int → Option α) : Option α :=
  cond (decide ((IntKind.i64.wrap (a1 - (((List.length a0) : Nat) : Int))) < (0 : Int))) (k (-1 : Int)) (k (IntKind.i64.wrap (a1 - (((List.length a0) : Nat) : Int))))
theorem Fz27.red {α : Type} (K : Res → Option α) (fuel : Nat) (e0 : TypeId) (a0 : (List (List Zb))) (a1 : Int) : run TT small Fz27.tab Try.f13 Fz27.ann [] fuel [.obj false ⟨e0, (.arr 12 (.st (.pair (.int .u8) (.int .i16)))), a0⟩, .val (.int .i64) a1] K = Fz27.pf fuel a0 a1 (fun r => K (Fz27.enc 0 r)) := by kernel_rfl
theorem Fz27.sound (f : Fz27.A → Option Fz27.B) (hf : ∀ x r, f x = some r → ∃ fuel, ∀ k : Fz27.B → Option Res, Fz27.pf fuel x.1 x.2 k = k r) : Fz27.S f := by
  refine fn_sound (by kernel_rfl) (ttok _) (tab_sound [] (fun p hp => nomatch hp)) (fn := Try.f13) (by kernel_rfl) (by decide) (by decide) Fz27.ann [] _ rfl (fun avs r hr => ?_) (by kernel_rfl)
  obtain ⟨x, y, h1, h2, rfl⟩ := mkSig_run hr
  obtain ⟨e0, rfl⟩ := Fz27.dec_eq h1
  obtain ⟨fuel, hk⟩ := hf x y h2
  exact ⟨fuel, (Fz27.red some fuel e0 x.1 x.2).trans (hk (fun r => some (Fz27.enc 0 r)))⟩
theorem Fz27.of_cl {P : Fz27.A → Prop} {v : Fz27.A → Fz27.B} (hp : ∀ x, P x → ∀ k : Fz27.B → Option Res, Fz27.pf BIG x.1 x.2 k = k (v x)) : Fz27.S (cl P v) := Fz27.sound  _ (fun x r hr => by obtain ⟨h1, rfl⟩ := cl_some hr; exact ⟨BIG, hp x h1⟩)
noncomputable def Fz28.tab : FuncId → Option Sig := tabOf []
noncomputable def Fz28.E : Env := ⟨TT, small, Fz28.tab , 0, 11⟩
def Fz28.ann : Ann := .nil
noncomputable def Fz28.pf {α : Type} (fuel : Nat) (a0 : Zb) (k : Zb → Option α) : Option α :=
  k (a0.1, a0.2)
theorem Fz28.red {α : Type} (K : Res → Option α) (fuel : Nat) (a0 : Zb) : run TT small Fz28.tab Try.f55 Fz28.ann [] fuel [.val (.st (.pair (.int .u8) (.int .i16))) a0] K = Fz28.pf fuel a0 (fun r => K (Fz28.enc 0 r)) := by kernel_rfl
theorem Fz28.sound (f : Fz28.A → Option Fz28.B) (hf : ∀ x r, f x = some r → ∃ fuel, ∀ k : Fz28.B → Option Res, Fz28.pf fuel x k = k r) : Fz28.S f := by
  refine fn_sound (by kernel_rfl) (ttok _) (tab_sound [] (fun p hp => nomatch hp)) (fn := Try.f55) (by kernel_rfl) (by decide) (by decide) Fz28.ann [] _ rfl (fun avs r hr => ?_) (by kernel_rfl)
  obtain ⟨x, y, h1, h2, rfl⟩ := mkSig_run hr
  obtain rfl := Fz28.dec_eq h1
  obtain ⟨fuel, hk⟩ := hf x y h2
  exact ⟨fuel, (Fz28.red some fuel x).trans (hk (fun r => some (Fz28.enc 0 r)))⟩
theorem Fz28.of_tot {v : Fz28.A → Fz28.B} (hp : ∀ x, ∀ k : Fz28.B → Option Res, Fz28.pf BIG x k = k (v x)) : Fz28.S (tot v) := Fz28.sound  _ (fun x r hr => by obtain rfl := Option.some.inj hr; exact ⟨BIG, hp x⟩)
noncomputable def Fz29.tab (fFz28 : Fz28.A → Option Fz28.B) : FuncId → Option Sig := tabOf [(55, Fz28.sig fFz28)]
noncomputable def Fz29.E (fFz28 : Fz28.A → Option Fz28.B) : Env := ⟨TT, small, Fz29.tab fFz28, 0, 16⟩
def Fz29.ann : Ann := (.two .nil (.two .nil (.two (.two .nil (.one (.loop [1, 2, 3, 4] .nil))) .nil)))
noncomputable def Fz29.emb1 (p1_0 : (List Zb)) (p1_1 : (List Zb)) (x1 : (Int × (List Zb))) : St := { slots := mkSlots 16 [(1, .ptr 32 [.idx 0] false), (2, .ptr 33 [.idx 0] false), (3, .ptr 34 [.idx 0] false), (4, .val (.int .i64) x1.1)], objs := mkObjs 35 [(32, .dat ⟨38, (.arr 12 (.st (.pair (.int .u8) (.int .i16)))), [p1_0], true, true, none⟩), (33, .dat ⟨43, (.arr 12 (.st (.pair (.int .u8) (.int .i16)))), [p1_1], true, true, none⟩), (34, .dat ⟨43, (.arr 12 (.st (.pair (.int .u8) (.int .i16)))), [x1.2], true, true, none⟩)] }
noncomputable def Fz29.LB1 {α : Type} (fFz28 : Fz28.A → Option Fz28.B) (fuel : Nat) (cont : Ex → St → Option α) : (St → Option α) → St → Option α := roundV (Fz29.E fFz28) fuel [true, true, false, true, false] (bodyOf Try.f22) Fz29.ann cont
noncomputable def Fz29.C1 {α : Type} (fFz28 : Fz28.A → Option Fz28.B) (K : Res → Option α) (fuel : Nat) : Ex → St → Option α := contAt (Fz29.E fFz28) fuel [true, true, false, true, false] (bodyOf Try.f22) Fz29.ann [] (finK TT 0 [none] Try.f22 [] K)
noncomputable def Fz29.ex1_0 (p1_0 : (List Zb)) (p1_1 : (List Zb)) (x1 : (Int × (List Zb))) : St := { slots := mkSlots 16 [(1, .ptr 32 [.idx 0] false), (2, .ptr 33 [.idx 0] false), (3, .ptr 34 [.idx 0] false), (4, .val (.int .i64) x1.1), (5, .val (.int .i64) x1.1), (6, .val .bool (decide (x1.1 < (12 : Int))))], objs := mkObjs 35 [(32, .dat ⟨38, (.arr 12 (.st (.pair (.int .u8) (.int .i16)))), [p1_0], true, true, none⟩), (33, .dat ⟨43, (.arr 12 (.st (.pair (.int .u8) (.int .i16)))), [p1_1], true, true, none⟩), (34, .dat ⟨43, (.arr 12 (.st (.pair (.int .u8) (.int .i16)))), [x1.2], true, true, none⟩)] }
noncomputable def Fz29.B1 {α : Type} (fFz28 : Fz28.A → Option Fz28.B) (p1_0 : (List Zb)) (p1_1 : (List Zb)) (K0 : (Int × (List Zb)) → Option α) (rec : (Int × (List Zb)) → Option α) (x1 : (Int × (List Zb))) : Option α :=
  cond (decide (x1.1 < (12 : Int))) (cond (inB x1.1 12) ((fFz28 (List.getD p1_0 (x1.1 : Int).toNat ((0 : Int), (0 : Int)))).bind fun r1001 => cond (inB x1.1 12) (rec (((IntKind.i64.wrap (x1.1 + (1 : Int))), (List.set x1.2 (x1.1 : Int).toNat r1001)))) none) none) (K0 x1)
theorem Fz29.step1 {α : Type} (fFz28 : Fz28.A → Option Fz28.B) (fuel : Nat) (cont : Ex → St → Option α) (p1_0 : (List Zb)) (p1_1 : (List Zb)) (rec : St → Option α) (x1 : (Int × (List Zb))) : Fz29.LB1 fFz28 fuel cont rec (Fz29.emb1 p1_0 p1_1 x1) = Fz29.B1 fFz28 p1_0 p1_1 (fun x1 => cont (.exit 0) (Fz29.ex1_0 p1_0 p1_1 x1)) (fun y => rec (Fz29.emb1 p1_0 p1_1 y)) x1 := by kernel_rfl
theorem Fz29.loop1 {α : Type} (fFz28 : Fz28.A → Option Fz28.B) (fuel : Nat) (cont : Ex → St → Option α) (p1_0 : (List Zb)) (p1_1 : (List Zb)) (x1 : (Int × (List Zb))) : loopN (Fz29.LB1 fFz28 fuel cont) fuel (Fz29.emb1 p1_0 p1_1 x1) = iter (Fz29.B1 fFz28 p1_0 p1_1 (fun x1 => cont (.exit 0) (Fz29.ex1_0 p1_0 p1_1 x1))) fuel x1 := loop_sim (fun rec x => Fz29.step1 fFz28 fuel cont p1_0 p1_1 rec x) fuel x1
noncomputable def Fz29.pf {α : Type} (fFz28 : Fz28.A → Option Fz28.B) (fuel : Nat) (a0 : (List Zb)) (k : (List Zb) → Option α) : Option α :=
  iter (Fz29.B1 fFz28 a0 (List.replicate 12 ((0 : Int), (0 : Int))) (fun (x1 : (Int × (List Zb))) => k x1.2)) fuel (((0 : Int), (List.replicate 12 ((0 : Int), (0 : Int)))))
theorem Fz29.tail1 {α : Type} (fFz28 : Fz28.A → Option Fz28.B) (K : Res → Option α) (fuel : Nat) (a0 : (List Zb)) (x1 : (Int × (List Zb))) : Fz29.C1 fFz28 K fuel (.exit 0) (Fz29.ex1_0 a0 (List.replicate 12 ((0 : Int), (0 : Int))) x1) = ((fun (k : (List Zb) → Option α) => k x1.2) (fun r => K (Fz29.enc 0 r))) := by kernel_rfl
theorem Fz29.red_raw {α : Type} (fFz28 : Fz28.A → Option Fz28.B) (K : Res → Option α) (fuel : Nat) (a0 : (List Zb)) : run TT small (Fz29.tab fFz28) Try.f22 Fz29.ann [] fuel [.val (.arr 12 (.st (.pair (.int .u8) (.int .i16)))) a0] K = loopN (Fz29.LB1 fFz28 fuel (Fz29.C1 fFz28 K fuel)) fuel (Fz29.emb1 a0 (List.replicate 12 ((0 : Int), (0 : Int))) (((0 : Int), (List.replicate 12 ((0 : Int), (0 : Int)))))) := by kernel_rfl
theorem Fz29.red {α : Type} (fFz28 : Fz28.A → Option Fz28.B) (K : Res → Option α) (fuel : Nat) (a0 : (List Zb)) : run TT small (Fz29.tab fFz28) Try.f22 Fz29.ann [] fuel [.val (.arr 12 (.st (.pair (.int .u8) (.int .i16)))) a0] K = Fz29.pf fFz28 fuel a0 (fun r => K (Fz29.enc 0 r)) := by
  rw [Fz29.red_raw]
  simp only [Fz29.loop1, Fz29.tail1]
  all_goals kernel_rfl
theorem Fz29.sound (fFz28 : Fz28.A → Option Fz28.B) (hFz28 : Fz28.S fFz28) (f : Fz29.A → Option Fz29.B) (hf : ∀ x r, f x = some r → ∃ fuel, ∀ k : Fz29.B → Option Res, Fz29.pf fFz28 fuel x k = k r) : Fz29.S f := by
  refine fn_sound (by kernel_rfl) (ttok _) (tab_sound [(55, Fz28.sig fFz28)] (List.forall_mem_cons.2 ⟨hFz28, fun p hp => nomatch hp⟩)) (fn := Try.f22) (by kernel_rfl) (by decide) (by decide) Fz29.ann [] _ rfl (fun avs r hr => ?_) (by kernel_rfl)
  obtain ⟨x, y, h1, h2, rfl⟩ := mkSig_run hr
  obtain rfl := Fz29.dec_eq h1
  obtain ⟨fuel, hk⟩ := hf x y h2
  exact ⟨fuel, (Fz29.red fFz28 some fuel x).trans (hk (fun r => some (Fz29.enc 0 r)))⟩
theorem Fz29.of_cl {fFz28 : Fz28.A → Option Fz28.B} (hFz28 : Fz28.S fFz28) {P : Fz29.A → Prop} {v : Fz29.A → Fz29.B} (hp : ∀ x, P x → ∀ k : Fz29.B → Option Res, Fz29.pf fFz28 BIG x k = k (v x)) : Fz29.S (cl P v) := Fz29.sound _ hFz28 _ (fun x r hr => by obtain ⟨h1, rfl⟩ := cl_some hr; exact ⟨BIG, hp x h1⟩)
noncomputable def Fz30.tab (fFz29 : Fz29.A → Option Fz29.B) : FuncId → Option Sig := tabOf [(22, Fz29.sig fFz29)]
noncomputable def Fz30.E (fFz29 : Fz29.A → Option Fz29.B) : Env := ⟨TT, small, Fz30.tab fFz29, 1, 23⟩
def Fz30.ann : Ann := (.two .nil (.two .nil (.two (.two .nil (.one (.loop [0, 3, 4] .nil))) .nil)))
noncomputable def Fz30.emb1 (e0 : TypeId) (p1_0 : (List (List Zb))) (x1 : (Int × (List (List Zb)))) : St := { slots := mkSlots 23 [(0, .sl 0 [] none), (3, .sl 47 [] none), (4, .val (.int .i64) x1.1)], objs := mkObjs 48 [(0, .dat ⟨e0, (.arr 12 (.st (.pair (.int .u8) (.int .i16)))), p1_0, false, false, none⟩), (47, .dat ⟨43, (.arr 12 (.st (.pair (.int .u8) (.int .i16)))), x1.2, true, true, none⟩)] }
noncomputable def Fz30.LB1 {α : Type} (fFz29 : Fz29.A → Option Fz29.B) (fuel : Nat) (cont : Ex → St → Option α) : (St → Option α) → St → Option α := roundV (Fz30.E fFz29) fuel [true, true, false, true, false] (bodyOf Try.f16) Fz30.ann cont
noncomputable def Fz30.C1 {α : Type} (fFz29 : Fz29.A → Option Fz29.B) (K : Res → Option α) (fuel : Nat) : Ex → St → Option α := contAt (Fz30.E fFz29) fuel [true, true, false, true, false] (bodyOf Try.f16) Fz30.ann [] (finK TT 1 [some 0] Try.f16 [] K)
noncomputable def Fz30.ex1_0 (e0 : TypeId) (p1_0 : (List (List Zb))) (x1 : (Int × (List (List Zb)))) : St := { slots := mkSlots 23 [(0, .sl 0 [] none), (3, .sl 47 [] none), (4, .val (.int .i64) x1.1), (8, .val (.int .i64) x1.1), (9, .sl 0 [] none), (10, .val (.int .i64) (((List.length p1_0) : Nat) : Int)), (11, .val .bool ((decide (x1.1 < (((List.length p1_0) : Nat) : Int)))))], objs := mkObjs 48 [(0, .dat ⟨e0, (.arr 12 (.st (.pair (.int .u8) (.int .i16)))), p1_0, false, false, none⟩), (47, .dat ⟨43, (.arr 12 (.st (.pair (.int .u8) (.int .i16)))), x1.2, true, true, none⟩)] }
noncomputable def Fz30.B1 {α : Type} (fFz29 : Fz29.A → Option Fz29.B) (p1_0 : (List (List Zb))) (K0 : (Int × (List (List Zb))) → Option α) (rec : (Int × (List (List Zb))) → Option α) (x1 : (Int × (List (List Zb)))) : Option α :=
  cond (decide (x1.1 < (((List.length p1_0) : Nat) : Int))) (cond (inB x1.1 (List.length p1_0)) ((fFz29 (List.getD p1_0 (x1.1 : Int).toNat (List.replicate 12 ((0 : Int), (0 : Int))))).bind fun r1001 => cond (inB x1.1 (List.length x1.2)) (rec (((IntKind.i64.wrap (x1.1 + (1 : Int))), (List.set x1.2 (x1.1 : Int).toNat r1001)))) none) none) (K0 x1)
theorem Fz30.step1 {α : Type} (fFz29 : Fz29.A → Option Fz29.B) (fuel : Nat) (cont : Ex → St → Option α) (e0 : TypeId) (p1_0 : (List (List Zb))) (rec : St → Option α) (x1 : (Int × (List (List Zb)))) : Fz30.LB1 fFz29 fuel cont rec (Fz30.emb1 e0 p1_0 x1) = Fz30.B1 fFz29 p1_0 (fun x1 => cont (.exit 0) (Fz30.ex1_0 e0 p1_0 x1)) (fun y => rec (Fz30.emb1 e0 p1_0 y)) x1 := by kernel_rfl
theorem Fz30.loop1 {α : Type} (fFz29 : Fz29.A → Option Fz29.B) (fuel : Nat) (cont : Ex → St → Option α) (e0 : TypeId) (p1_0 : (List (List Zb))) (x1 : (Int × (List (List Zb)))) : loopN (Fz30.LB1 fFz29 fuel cont) fuel (Fz30.emb1 e0 p1_0 x1) = iter (Fz30.B1 fFz29 p1_0 (fun x1 => cont (.exit 0) (Fz30.ex1_0 e0 p1_0 x1))) fuel x1 := loop_sim (fun rec x => Fz30.step1 fFz29 fuel cont e0 p1_0 rec x) fuel x1
noncomputable def Fz30.pf {α : Type} (fFz29 : Fz29.A → Option Fz29.B) (fuel : Nat) (a0 : (List (List Zb))) (k : (List (List Zb)) → Option α) : Option α :=
  cond (inW (((List.length a0) : Nat) : Int) (((List.length a0) : Nat) : Int) LIM) (iter (Fz30.B1 fFz29 a0 (fun (x1 : (Int × (List (List Zb)))) => k x1.2)) fuel (((0 : Int), (List.replicate (((List.length a0) : Nat) : Int).toNat (List.replicate 12 ((0 : Int), (0 : Int))))))) none
theorem Fz30.tail1 {α : Type} (fFz29 : Fz29.A → Option Fz29.B) (K : Res → Option α) (fuel : Nat) (e0 : TypeId) (a0 : (List (List Zb))) (x1 : (Int × (List (List Zb)))) : Fz30.C1 fFz29 K fuel (.exit 0) (Fz30.ex1_0 e0 a0 x1) = ((fun (k : (List (List Zb)) → Option α) => k x1.2) (fun r => K (Fz30.enc 0 r))) := by kernel_rfl
theorem Fz30.red_raw {α : Type} (fFz29 : Fz29.A → Option Fz29.B) (K : Res → Option α) (fuel : Nat) (e0 : TypeId) (a0 : (List (List Zb))) : run TT small (Fz30.tab fFz29) Try.f16 Fz30.ann [] fuel [.obj false ⟨e0, (.arr 12 (.st (.pair (.int .u8) (.int .i16)))), a0⟩] K = cond (inW (((List.length a0) : Nat) : Int) (((List.length a0) : Nat) : Int) LIM) (loopN (Fz30.LB1 fFz29 fuel (Fz30.C1 fFz29 K fuel)) fuel (Fz30.emb1 e0 a0 (((0 : Int), (List.replicate (((List.length a0) : Nat) : Int).toNat (List.replicate 12 ((0 : Int), (0 : Int)))))))) none := by kernel_rfl
theorem Fz30.red {α : Type} (fFz29 : Fz29.A → Option Fz29.B) (K : Res → Option α) (fuel : Nat) (e0 : TypeId) (a0 : (List (List Zb))) : run TT small (Fz30.tab fFz29) Try.f16 Fz30.ann [] fuel [.obj false ⟨e0, (.arr 12 (.st (.pair (.int .u8) (.int .i16)))), a0⟩] K = Fz30.pf fFz29 fuel a0 (fun r => K (Fz30.enc 0 r)) := by
  rw [Fz30.red_raw]
  simp only [Fz30.loop1, Fz30.tail1]
  all_goals kernel_rfl
theorem Fz30.sound (fFz29 : Fz29.A → Option Fz29.B) (hFz29 : Fz29.S fFz29) (f : Fz30.A → Option Fz30.B) (hf : ∀ x r, f x = some r → ∃ fuel, ∀ k : Fz30.B → Option Res, Fz30.pf fFz29 fuel x k = k r) : Fz30.S f := by
  refine fn_sound (by kernel_rfl) (ttok _) (tab_sound [(22, Fz29.sig fFz29)] (List.forall_mem_cons.2 ⟨hFz29, fun p hp => nomatch hp⟩)) (fn := Try.f16) (by kernel_rfl) (by decide) (by decide) Fz30.ann [] _ rfl (fun avs r hr => ?_) (by kernel_rfl)
  obtain ⟨x, y, h1, h2, rfl⟩ := mkSig_run hr
  obtain ⟨e0, rfl⟩ := Fz30.dec_eq h1
  obtain ⟨fuel, hk⟩ := hf x y h2
  exact ⟨fuel, (Fz30.red fFz29 some fuel e0 x).trans (hk (fun r => some (Fz30.enc 0 r)))⟩
theorem Fz30.of_cl {fFz29 : Fz29.A → Option Fz29.B} (hFz29 : Fz29.S fFz29) {P : Fz30.A → Prop} {v : Fz30.A → Fz30.B} (hp : ∀ x, P x → ∀ k : Fz30.B → Option Res, Fz30.pf fFz29 BIG x k = k (v x)) : Fz30.S (cl P v) := Fz30.sound _ hFz29 _ (fun x r hr => by obtain ⟨h1, rfl⟩ := cl_some hr; exact ⟨BIG, hp x h1⟩)
noncomputable def Fz33.tab : FuncId → Option Sig := tabOf []
noncomputable def Fz33.E : Env := ⟨TT, small, Fz33.tab , 1, 8⟩
def Fz33.ann : Ann := .nil
noncomputable def Fz33.pf {α : Type} (fuel : Nat) (a0 : (List Zb)) (k : (List Zb) → Option α) : Option α :=
  cond (List.isEmpty a0) (both (k ([] : List Zb)) (cond (okL (List.length ([] : List Zb) + List.length a0)) (k (([] : List Zb) ++ a0)) none)) (cond (okL (List.length ([] : List Zb) + List.length a0)) (k (([] : List Zb) ++ a0)) none)
theorem Fz33.red {α : Type} (K : Res → Option α) (fuel : Nat) (e0 : TypeId) (a0 : (List Zb)) : run TT small Fz33.tab Try.f95 Fz33.ann [] fuel [.obj false ⟨e0, (.st (.pair (.int .u8) (.int .i16))), a0⟩] K = Fz33.pf fuel a0 (fun r => K (Fz33.enc 0 r)) := by kernel_rfl
theorem Fz33.sound (f : Fz33.A → Option Fz33.B) (hf : ∀ x r, f x = some r → ∃ fuel, ∀ k : Fz33.B → Option Res, Fz33.pf fuel x k = k r) : Fz33.S f := by
  refine fn_sound (by kernel_rfl) (ttok _) (tab_sound [] (fun p hp => nomatch hp)) (fn := Try.f95) (by kernel_rfl) (by decide) (by decide) Fz33.ann [] _ rfl (fun avs r hr => ?_) (by kernel_rfl)
  obtain ⟨x, y, h1, h2, rfl⟩ := mkSig_run hr
  obtain ⟨e0, rfl⟩ := Fz33.dec_eq h1
  obtain ⟨fuel, hk⟩ := hf x y h2
  exact ⟨fuel, (Fz33.red some fuel e0 x).trans (hk (fun r => some (Fz33.enc 0 r)))⟩
theorem Fz33.of_cl {P : Fz33.A → Prop} {v : Fz33.A → Fz33.B} (hp : ∀ x, P x → ∀ k : Fz33.B → Option Res, Fz33.pf BIG x k = k (v x)) : Fz33.S (cl P v) := Fz33.sound  _ (fun x r hr => by obtain ⟨h1, rfl⟩ := cl_some hr; exact ⟨BIG, hp x h1⟩)
noncomputable def Fz8.tab : FuncId → Option Sig := tabOf []
noncomputable def Fz8.E : Env := ⟨TT, small, Fz8.tab , 0, 6⟩
def Fz8.ann : Ann := .nil
noncomputable def Fz8.pf {α : Type} (fuel : Nat) (a0 : Zb) (k : Bool → Option α) : Option α :=
  k (eqV (.st (.pair (.int .u8) (.int .i16))) a0 ((0 : Int), (0 : Int)))
theorem Fz8.red {α : Type} (K : Res → Option α) (fuel : Nat) (a0 : Zb) : run TT small Fz8.tab Try.f110 Fz8.ann [] fuel [.val (.st (.pair (.int .u8) (.int .i16))) a0] K = Fz8.pf fuel a0 (fun r => K (Fz8.enc 0 r)) := by kernel_rfl
theorem Fz8.sound (f : Fz8.A → Option Fz8.B) (hf : ∀ x r, f x = some r → ∃ fuel, ∀ k : Fz8.B → Option Res, Fz8.pf fuel x k = k r) : Fz8.S f := by
  refine fn_sound (by kernel_rfl) (ttok _) (tab_sound [] (fun p hp => nomatch hp)) (fn := Try.f110) (by kernel_rfl) (by decide) (by decide) Fz8.ann [] _ rfl (fun avs r hr => ?_) (by kernel_rfl)
  obtain ⟨x, y, h1, h2, rfl⟩ := mkSig_run hr
  obtain rfl := Fz8.dec_eq h1
  obtain ⟨fuel, hk⟩ := hf x y h2
  exact ⟨fuel, (Fz8.red some fuel x).trans (hk (fun r => some (Fz8.enc 0 r)))⟩
theorem Fz8.of_tot {v : Fz8.A → Fz8.B} (hp : ∀ x, ∀ k : Fz8.B → Option Res, Fz8.pf BIG x k = k (v x)) : Fz8.S (tot v) := Fz8.sound  _ (fun x r hr => by obtain rfl := Option.some.inj hr; exact ⟨BIG, hp x⟩)
noncomputable def Fz40.tab (fFz8 : Fz8.A → Option Fz8.B) : FuncId → Option Sig := tabOf [(110, Fz8.sig fFz8)]
noncomputable def Fz40.E (fFz8 : Fz8.A → Option Fz8.B) : Env := ⟨TT, small, Fz40.tab fFz8, 1, 19⟩
def Fz40.ann : Ann := (.two .nil (.two (.two .nil (.one (.loop [0, 1, 7, 8] .nil))) .nil))
noncomputable def Fz40.emb1 (e0 : TypeId) (p1_0 : Int) (p1_1 : (List Zb)) (x1 : Int) : St := { slots := mkSlots 19 [(0, .sl 0 [] none), (1, .fn 110 []), (7, .val (.int .i64) p1_0), (8, .val (.int .i64) x1)], objs := mkObjs 39 [(0, .dat ⟨e0, (.st (.pair (.int .u8) (.int .i16))), p1_1, false, false, none⟩)] }
noncomputable def Fz40.LB1 {α : Type} (fFz8 : Fz8.A → Option Fz8.B) (fuel : Nat) (cont : Ex → St → Option α) : (St → Option α) → St → Option α := roundV (Fz40.E fFz8) fuel [true, false, true, false] (bodyOf Try.f106) Fz40.ann cont
noncomputable def Fz40.C1 {α : Type} (fFz8 : Fz8.A → Option Fz8.B) (K : Res → Option α) (fuel : Nat) : Ex → St → Option α := contAt (Fz40.E fFz8) fuel [true, false, true, false] (bodyOf Try.f106) Fz40.ann [] (finK TT 1 [some 0, none] Try.f106 [] K)
noncomputable def Fz40.ex1_0 (e0 : TypeId) (p1_0 : Int) (p1_1 : (List Zb)) (x1 : Int) (r1001 : Bool) : St := { slots := mkSlots 19 [(0, .sl 0 [] none), (1, .fn 110 []), (4, .val (.int .i64) x1), (5, .val (.int .i64) x1), (7, .val (.int .i64) p1_0), (8, .val (.int .i64) x1), (9, .val .bool (decide (x1 < p1_0))), (10, .val (.int .i64) x1), (11, .fn 110 []), (12, .sl 0 [] none), (13, .val (.int .i64) x1), (14, .ptr 0 [.idx (x1 : Int).toNat] false), (15, .val (.st (.pair (.int .u8) (.int .i16))) (List.getD p1_1 (x1 : Int).toNat ((0 : Int), (0 : Int)))), (16, .val .bool r1001), (17, .val (.int .i64) x1)], objs := mkObjs 39 [(0, .dat ⟨e0, (.st (.pair (.int .u8) (.int .i16))), p1_1, false, false, none⟩)] }
noncomputable def Fz40.ex1_1 (e0 : TypeId) (p1_0 : Int) (p1_1 : (List Zb)) (x1 : Int) : St := { slots := mkSlots 19 [(0, .sl 0 [] none), (1, .fn 110 []), (7, .val (.int .i64) p1_0), (8, .val (.int .i64) x1), (9, .val .bool (decide (x1 < p1_0)))], objs := mkObjs 39 [(0, .dat ⟨e0, (.st (.pair (.int .u8) (.int .i16))), p1_1, false, false, none⟩)] }
noncomputable def Fz40.B1 {α : Type} (fFz8 : Fz8.A → Option Fz8.B) (p1_0 : Int) (p1_1 : (List Zb)) (K0 : Int → Bool → Option α) (K1 : Int → Option α) (rec : Int → Option α) (x1 : Int) : Option α :=
  cond (decide (x1 < p1_0)) (cond (inB x1 (List.length p1_1)) ((fFz8 (List.getD p1_1 (x1 : Int).toNat ((0 : Int), (0 : Int)))).bind fun r1001 => cond r1001 (K0 x1 r1001) (rec (IntKind.i64.wrap (x1 + (1 : Int))))) none) (K1 x1)
theorem Fz40.step1 {α : Type} (fFz8 : Fz8.A → Option Fz8.B) (fuel : Nat) (cont : Ex → St → Option α) (e0 : TypeId) (p1_0 : Int) (p1_1 : (List Zb)) (rec : St → Option α) (x1 : Int) : Fz40.LB1 fFz8 fuel cont rec (Fz40.emb1 e0 p1_0 p1_1 x1) = Fz40.B1 fFz8 p1_0 p1_1 (fun x1 r1001 => cont .ret (Fz40.ex1_0 e0 p1_0 p1_1 x1 r1001)) (fun x1 => cont (.exit 0) (Fz40.ex1_1 e0 p1_0 p1_1 x1)) (fun y => rec (Fz40.emb1 e0 p1_0 p1_1 y)) x1 := by kernel_rfl
theorem Fz40.loop1 {α : Type} (fFz8 : Fz8.A → Option Fz8.B) (fuel : Nat) (cont : Ex → St → Option α) (e0 : TypeId) (p1_0 : Int) (p1_1 : (List Zb)) (x1 : Int) : loopN (Fz40.LB1 fFz8 fuel cont) fuel (Fz40.emb1 e0 p1_0 p1_1 x1) = iter (Fz40.B1 fFz8 p1_0 p1_1 (fun x1 r1001 => cont .ret (Fz40.ex1_0 e0 p1_0 p1_1 x1 r1001)) (fun x1 => cont (.exit 0) (Fz40.ex1_1 e0 p1_0 p1_1 x1))) fuel x1 := loop_sim (fun rec x => Fz40.step1 fFz8 fuel cont e0 p1_0 p1_1 rec x) fuel x1
noncomputable def Fz40.pf {α : Type} (fFz8 : Fz8.A → Option Fz8.B) (fuel : Nat) (a0 : (List Zb)) (k : Int → Option α) : Option α :=
  iter (Fz40.B1 fFz8 (((List.length a0) : Nat) : Int) a0 (fun (x1 : Int) (r1001 : Bool) => k x1) (fun (x1 : Int) => k (-1 : Int))) fuel (0 : Int)
theorem Fz40.tail1 {α : Type} (fFz8 : Fz8.A → Option Fz8.B) (K : Res → Option α) (fuel : Nat) (e0 : TypeId) (a0 : (List Zb)) (x1 : Int) (r1001 : Bool) : Fz40.C1 fFz8 K fuel .ret (Fz40.ex1_0 e0 (((List.length a0) : Nat) : Int) a0 x1 r1001) = ((fun (k : Int → Option α) => k x1) (fun r => K (Fz40.enc 0 r))) := by kernel_rfl
theorem Fz40.tail2 {α : Type} (fFz8 : Fz8.A → Option Fz8.B) (K : Res → Option α) (fuel : Nat) (e0 : TypeId) (a0 : (List Zb)) (x1 : Int) : Fz40.C1 fFz8 K fuel (.exit 0) (Fz40.ex1_1 e0 (((List.length a0) : Nat) : Int) a0 x1) = ((fun (k : Int → Option α) => k (-1 : Int)) (fun r => K (Fz40.enc 0 r))) := by kernel_rfl
theorem Fz40.red_raw {α : Type} (fFz8 : Fz8.A → Option Fz8.B) (K : Res → Option α) (fuel : Nat) (e0 : TypeId) (a0 : (List Zb)) : run TT small (Fz40.tab fFz8) Try.f106 Fz40.ann [] fuel [.obj false ⟨e0, (.st (.pair (.int .u8) (.int .i16))), a0⟩, .fn 110 []] K = loopN (Fz40.LB1 fFz8 fuel (Fz40.C1 fFz8 K fuel)) fuel (Fz40.emb1 e0 (((List.length a0) : Nat) : Int) a0 (0 : Int)) := by kernel_rfl
theorem Fz40.red {α : Type} (fFz8 : Fz8.A → Option Fz8.B) (K : Res → Option α) (fuel : Nat) (e0 : TypeId) (a0 : (List Zb)) : run TT small (Fz40.tab fFz8) Try.f106 Fz40.ann [] fuel [.obj false ⟨e0, (.st (.pair (.int .u8) (.int .i16))), a0⟩, .fn 110 []] K = Fz40.pf fFz8 fuel a0 (fun r => K (Fz40.enc 0 r)) := by
  rw [Fz40.red_raw]
  simp only [Fz40.loop1, Fz40.tail1, Fz40.tail2]
  all_goals kernel_rfl
theorem Fz40.sound (fFz8 : Fz8.A → Option Fz8.B) (hFz8 : Fz8.S fFz8) (f : Fz40.A → Option Fz40.B) (hf : ∀ x r, f x = some r → ∃ fuel, ∀ k : Fz40.B → Option Res, Fz40.pf fFz8 fuel x k = k r) : Fz40.S f := by
  refine fn_sound (by kernel_rfl) (ttok _) (tab_sound [(110, Fz8.sig fFz8)] (List.forall_mem_cons.2 ⟨hFz8, fun p hp => nomatch hp⟩)) (fn := Try.f106) (by kernel_rfl) (by decide) (by decide) Fz40.ann [] _ rfl (fun avs r hr => ?_) (by kernel_rfl)
  obtain ⟨x, y, h1, h2, rfl⟩ := mkSig_run hr
  obtain ⟨e0, rfl⟩ := Fz40.dec_eq h1
  obtain ⟨fuel, hk⟩ := hf x y h2
  exact ⟨fuel, (Fz40.red fFz8 some fuel e0 x).trans (hk (fun r => some (Fz40.enc 0 r)))⟩
theorem Fz40.of_cl {fFz8 : Fz8.A → Option Fz8.B} (hFz8 : Fz8.S fFz8) {P : Fz40.A → Prop} {v : Fz40.A → Fz40.B} (hp : ∀ x, P x → ∀ k : Fz40.B → Option Res, Fz40.pf fFz8 BIG x k = k (v x)) : Fz40.S (cl P v) := Fz40.sound _ hFz8 _ (fun x r hr => by obtain ⟨h1, rfl⟩ := cl_some hr; exact ⟨BIG, hp x h1⟩)
noncomputable def Fz38.tab (fFz40 : Fz40.A → Option Fz40.B) (fFz8 : Fz8.A → Option Fz8.B) : FuncId → Option Sig := tabOf [(106, Fz40.sig fFz40), (110, Fz8.sig fFz8)]
noncomputable def Fz38.E (fFz40 : Fz40.A → Option Fz40.B) (fFz8 : Fz8.A → Option Fz8.B) : Env := ⟨TT, small, Fz38.tab fFz40 fFz8, 1, 42⟩
def Fz38.ann : Ann := (.two .nil (.two .nil (.two .nil (.two (.two .nil (.one (.loop [0, 1, 5, 6] .nil))) .nil))))
noncomputable def Fz38.emb1 (e0 : TypeId) (x1 : (Int × Int × (List Zb))) : St := { slots := mkSlots 42 [(0, .sl 0 [] none), (1, .fn 110 []), (5, .val (.int .i64) x1.1), (6, .val (.int .i64) x1.2.1)], objs := mkObjs 85 [(0, .dat ⟨e0, (.st (.pair (.int .u8) (.int .i16))), x1.2.2, true, false, none⟩)] }
noncomputable def Fz38.LB1 {α : Type} (fFz40 : Fz40.A → Option Fz40.B) (fFz8 : Fz8.A → Option Fz8.B) (fuel : Nat) (cont : Ex → St → Option α) : (St → Option α) → St → Option α := roundV (Fz38.E fFz40 fFz8) fuel [true, true, true, false, true, false] (bodyOf Try.f94) Fz38.ann cont
noncomputable def Fz38.C1 {α : Type} (fFz40 : Fz40.A → Option Fz40.B) (fFz8 : Fz8.A → Option Fz8.B) (K : Res → Option α) (fuel : Nat) : Ex → St → Option α := contAt (Fz38.E fFz40 fFz8) fuel [true, true, true, false, true, false] (bodyOf Try.f94) Fz38.ann [] (finK TT 1 [some 0, none] Try.f94 [0] K)
noncomputable def Fz38.ex1_0 (e0 : TypeId) (x1 : (Int × Int × (List Zb))) : St := { slots := mkSlots 42 [(0, .sl 0 [] none), (1, .fn 110 []), (5, .val (.int .i64) x1.1), (6, .val (.int .i64) x1.2.1), (16, .val (.int .i64) x1.2.1), (17, .sl 0 [] none), (18, .val (.int .i64) (((List.length x1.2.2) : Nat) : Int)), (19, .val .bool ((decide (x1.2.1 < (((List.length x1.2.2) : Nat) : Int)))))], objs := mkObjs 85 [(0, .dat ⟨e0, (.st (.pair (.int .u8) (.int .i16))), x1.2.2, true, false, none⟩)] }
noncomputable def Fz38.B1 {α : Type} (fFz8 : Fz8.A → Option Fz8.B) (K0 : (Int × Int × (List Zb)) → Option α) (rec : (Int × Int × (List Zb)) → Option α) (x1 : (Int × Int × (List Zb))) : Option α :=
  cond (decide (x1.2.1 < (((List.length x1.2.2) : Nat) : Int))) (cond (inB x1.2.1 (List.length x1.2.2)) ((fFz8 (List.getD x1.2.2 (x1.2.1 : Int).toNat ((0 : Int), (0 : Int)))).bind fun r1001 => cond (!r1001) (cond (inB x1.1 (List.length x1.2.2)) (rec (((IntKind.i64.wrap (x1.1 + (1 : Int))), (IntKind.i64.wrap (x1.2.1 + (1 : Int))), (List.set x1.2.2 (x1.1 : Int).toNat (List.getD x1.2.2 (x1.2.1 : Int).toNat ((0 : Int), (0 : Int))))))) none) (rec ((x1.1, (IntKind.i64.wrap (x1.2.1 + (1 : Int))), x1.2.2)))) none) (K0 x1)
theorem Fz38.step1 {α : Type} (fFz40 : Fz40.A → Option Fz40.B) (fFz8 : Fz8.A → Option Fz8.B) (fuel : Nat) (cont : Ex → St → Option α) (e0 : TypeId) (rec : St → Option α) (x1 : (Int × Int × (List Zb))) : Fz38.LB1 fFz40 fFz8 fuel cont rec (Fz38.emb1 e0 x1) = Fz38.B1 fFz8 (fun x1 => cont (.exit 0) (Fz38.ex1_0 e0 x1)) (fun y => rec (Fz38.emb1 e0 y)) x1 := by kernel_rfl
theorem Fz38.loop1 {α : Type} (fFz40 : Fz40.A → Option Fz40.B) (fFz8 : Fz8.A → Option Fz8.B) (fuel : Nat) (cont : Ex → St → Option α) (e0 : TypeId) (x1 : (Int × Int × (List Zb))) : loopN (Fz38.LB1 fFz40 fFz8 fuel cont) fuel (Fz38.emb1 e0 x1) = iter (Fz38.B1 fFz8 (fun x1 => cont (.exit 0) (Fz38.ex1_0 e0 x1))) fuel x1 := loop_sim (fun rec x => Fz38.step1 fFz40 fFz8 fuel cont e0 rec x) fuel x1
noncomputable def Fz38.pf {α : Type} (fFz40 : Fz40.A → Option Fz40.B) (fFz8 : Fz8.A → Option Fz8.B) (fuel : Nat) (a0 : (List Zb)) (k : ((Option (Nat × Nat)) × (List Zb)) → Option α) : Option α :=
  (fFz40 a0).bind fun r1 => cond (r1 == (-1 : Int)) (k ((none : Option (Nat × Nat)), a0)) (iter (Fz38.B1 fFz8 (fun (x1 : (Int × Int × (List Zb))) => cond (inW x1.1 (((List.length x1.2.2) : Nat) : Int) (List.length x1.2.2)) (cond (inW (0 : Int) x1.1 (List.length (overL x1.2.2 (x1.1 : Int).toNat (List.replicate ((((List.length x1.2.2) : Nat) : Int) - x1.1).toNat ((0 : Int), (0 : Int)))))) (k ((some (0, (x1.1 - (0 : Int)).toNat)), (overL x1.2.2 (x1.1 : Int).toNat (List.replicate ((((List.length x1.2.2) : Nat) : Int) - x1.1).toNat ((0 : Int), (0 : Int)))))) none) none)) fuel ((r1, (IntKind.i64.wrap (r1 + (1 : Int))), a0)))
theorem Fz38.tail1 {α : Type} (fFz40 : Fz40.A → Option Fz40.B) (fFz8 : Fz8.A → Option Fz8.B) (K : Res → Option α) (fuel : Nat) (e0 : TypeId) (x1 : (Int × Int × (List Zb))) : Fz38.C1 fFz40 fFz8 K fuel (.exit 0) (Fz38.ex1_0 e0 x1) = ((fun (k : ((Option (Nat × Nat)) × (List Zb)) → Option α) => cond (inW x1.1 (((List.length x1.2.2) : Nat) : Int) (List.length x1.2.2)) (cond (inW (0 : Int) x1.1 (List.length (overL x1.2.2 (x1.1 : Int).toNat (List.replicate ((((List.length x1.2.2) : Nat) : Int) - x1.1).toNat ((0 : Int), (0 : Int)))))) (k ((some (0, (x1.1 - (0 : Int)).toNat)), (overL x1.2.2 (x1.1 : Int).toNat (List.replicate ((((List.length x1.2.2) : Nat) : Int) - x1.1).toNat ((0 : Int), (0 : Int)))))) none) none) (fun r => K (Fz38.enc e0 r))) := by kernel_rfl
theorem Fz38.red_raw {α : Type} (fFz40 : Fz40.A → Option Fz40.B) (fFz8 : Fz8.A → Option Fz8.B) (K : Res → Option α) (fuel : Nat) (e0 : TypeId) (a0 : (List Zb)) : run TT small (Fz38.tab fFz40 fFz8) Try.f94 Fz38.ann [0] fuel [.obj false ⟨e0, (.st (.pair (.int .u8) (.int .i16))), a0⟩, .fn 110 []] K = (fFz40 a0).bind fun r1 => cond (r1 == (-1 : Int)) (K ⟨[.al 0 (none : Option (Nat × Nat))], [⟨e0, (.st (.pair (.int .u8) (.int .i16))), a0⟩]⟩) (loopN (Fz38.LB1 fFz40 fFz8 fuel (Fz38.C1 fFz40 fFz8 K fuel)) fuel (Fz38.emb1 e0 ((r1, (IntKind.i64.wrap (r1 + (1 : Int))), a0)))) := by kernel_rfl
theorem Fz38.red {α : Type} (fFz40 : Fz40.A → Option Fz40.B) (fFz8 : Fz8.A → Option Fz8.B) (K : Res → Option α) (fuel : Nat) (e0 : TypeId) (a0 : (List Zb)) : run TT small (Fz38.tab fFz40 fFz8) Try.f94 Fz38.ann [0] fuel [.obj false ⟨e0, (.st (.pair (.int .u8) (.int .i16))), a0⟩, .fn 110 []] K = Fz38.pf fFz40 fFz8 fuel a0 (fun r => K (Fz38.enc e0 r)) := by
  rw [Fz38.red_raw]
  simp only [Fz38.loop1, Fz38.tail1]
  all_goals kernel_rfl
theorem Fz38.sound (fFz40 : Fz40.A → Option Fz40.B) (fFz8 : Fz8.A → Option Fz8.B) (hFz40 : Fz40.S fFz40) (hFz8 : Fz8.S fFz8) (f : Fz38.A → Option Fz38.B) (hf : ∀ x r, f x = some r → ∃ fuel, ∀ k : Fz38.B → Option Res, Fz38.pf fFz40 fFz8 fuel x k = k r) : Fz38.S f := by
  refine fn_sound (by kernel_rfl) (ttok _) (tab_sound [(106, Fz40.sig fFz40), (110, Fz8.sig fFz8)] (List.forall_mem_cons.2 ⟨hFz40, List.forall_mem_cons.2 ⟨hFz8, fun p hp => nomatch hp⟩⟩)) (fn := Try.f94) (by kernel_rfl) (by decide) (by decide) Fz38.ann [0] _ rfl (fun avs r hr => ?_) (by kernel_rfl)
  obtain ⟨x, y, h1, h2, rfl⟩ := mkSig_run hr
  obtain ⟨e0, rfl⟩ := Fz38.dec_eq h1
  obtain ⟨fuel, hk⟩ := hf x y h2
  exact ⟨fuel, (Fz38.red fFz40 fFz8 some fuel e0 x).trans (hk (fun r => some (Fz38.enc e0 r)))⟩
theorem Fz38.of_cl {fFz40 : Fz40.A → Option Fz40.B} {fFz8 : Fz8.A → Option Fz8.B} (hFz40 : Fz40.S fFz40) (hFz8 : Fz8.S fFz8) {P : Fz38.A → Prop} {v : Fz38.A → Fz38.B} (hp : ∀ x, P x → ∀ k : Fz38.B → Option Res, Fz38.pf fFz40 fFz8 BIG x k = k (v x)) : Fz38.S (cl P v) := Fz38.sound _ _ hFz40 hFz8 _ (fun x r hr => by obtain ⟨h1, rfl⟩ := cl_some hr; exact ⟨BIG, hp x h1⟩)
noncomputable def Fz7.tab (fFz33 : Fz33.A → Option Fz33.B) (fFz38 : Fz38.A → Option Fz38.B) : FuncId → Option Sig := tabOf [(95, Fz33.sig fFz33), (94, Fz38.sig fFz38)]
noncomputable def Fz7.E (fFz33 : Fz33.A → Option Fz33.B) (fFz38 : Fz38.A → Option Fz38.B) : Env := ⟨TT, small, Fz7.tab fFz33 fFz38, 0, 6⟩
def Fz7.ann : Ann := .nil
noncomputable def Fz7.pf {α : Type} (fFz33 : Fz33.A → Option Fz33.B) (fFz38 : Fz38.A → Option Fz38.B) (fuel : Nat) (a0 : (List Zb)) (k : (List Zb) → Option α) : Option α :=
  (fFz33 a0).bind fun r1 => (fFz38 r1).bind fun r2 => k (Win.cut r2.1 r2.2)
theorem Fz7.red {α : Type} (fFz33 : Fz33.A → Option Fz33.B) (fFz38 : Fz38.A → Option Fz38.B) (K : Res → Option α) (fuel : Nat) (a0 : (List Zb)) : run TT small (Fz7.tab fFz33 fFz38) Try.f61 Fz7.ann [] fuel [.val (.arr 12 (.st (.pair (.int .u8) (.int .i16)))) a0] K = Fz7.pf fFz33 fFz38 fuel a0 (fun r => K (Fz7.enc 0 r)) := by kernel_rfl
theorem Fz7.sound (fFz33 : Fz33.A → Option Fz33.B) (fFz38 : Fz38.A → Option Fz38.B) (hFz33 : Fz33.S fFz33) (hFz38 : Fz38.S fFz38) (f : Fz7.A → Option Fz7.B) (hf : ∀ x r, f x = some r → ∃ fuel, ∀ k : Fz7.B → Option Res, Fz7.pf fFz33 fFz38 fuel x k = k r) : Fz7.S f := by
  refine fn_sound (by kernel_rfl) (ttok _) (tab_sound [(95, Fz33.sig fFz33), (94, Fz38.sig fFz38)] (List.forall_mem_cons.2 ⟨hFz33, List.forall_mem_cons.2 ⟨hFz38, fun p hp => nomatch hp⟩⟩)) (fn := Try.f61) (by kernel_rfl) (by decide) (by decide) Fz7.ann [] _ rfl (fun avs r hr => ?_) (by kernel_rfl)
  obtain ⟨x, y, h1, h2, rfl⟩ := mkSig_run hr
  obtain rfl := Fz7.dec_eq h1
  obtain ⟨fuel, hk⟩ := hf x y h2
  exact ⟨fuel, (Fz7.red fFz33 fFz38 some fuel x).trans (hk (fun r => some (Fz7.enc 0 r)))⟩
theorem Fz7.of_cl {fFz33 : Fz33.A → Option Fz33.B} {fFz38 : Fz38.A → Option Fz38.B} (hFz33 : Fz33.S fFz33) (hFz38 : Fz38.S fFz38) {P : Fz7.A → Prop} {v : Fz7.A → Fz7.B} (hp : ∀ x, P x → ∀ k : Fz7.B → Option Res, Fz7.pf fFz33 fFz38 BIG x k = k (v x)) : Fz7.S (cl P v) := Fz7.sound _ _ hFz33 hFz38 _ (fun x r hr => by obtain ⟨h1, rfl⟩ := cl_some hr; exact ⟨BIG, hp x h1⟩)
noncomputable def Fz14.tab (fFz7 : Fz7.A → Option Fz7.B) (fFz44 : Fz44.A → Option Fz44.B) : FuncId → Option Sig := tabOf [(61, Fz7.sig fFz7), (112, Fz44.sig fFz44)]
noncomputable def Fz14.E (fFz7 : Fz7.A → Option Fz7.B) (fFz44 : Fz44.A → Option Fz44.B) : Env := ⟨TT, small, Fz14.tab fFz7 fFz44, 1, 21⟩
def Fz14.ann : Ann := (.two .nil (.two .nil (.two (.two .nil (.one (.loop [3, 7, 8, 9] .nil))) .nil)))
noncomputable def Fz14.emb1 (e0 : TypeId) (p1_0 : Int) (p1_1 : (List (List Zb))) (x1 : (Int × (List Zb))) : St := { slots := mkSlots 21 [(3, .sl 43 [] none), (7, .sl 0 [] none), (8, .val (.int .i64) p1_0), (9, .val (.int .i64) x1.1)], objs := mkObjs 44 [(0, .dat ⟨e0, (.arr 12 (.st (.pair (.int .u8) (.int .i16)))), p1_1, false, false, none⟩), (43, .dat ⟨41, (.st (.pair (.int .u8) (.int .i16))), x1.2, true, true, none⟩)] }
noncomputable def Fz14.LB1 {α : Type} (fFz7 : Fz7.A → Option Fz7.B) (fFz44 : Fz44.A → Option Fz44.B) (fuel : Nat) (cont : Ex → St → Option α) : (St → Option α) → St → Option α := roundV (Fz14.E fFz7 fFz44) fuel [true, true, false, true, false] (bodyOf Try.f76) Fz14.ann cont
noncomputable def Fz14.C1 {α : Type} (fFz7 : Fz7.A → Option Fz7.B) (fFz44 : Fz44.A → Option Fz44.B) (K : Res → Option α) (fuel : Nat) : Ex → St → Option α := contAt (Fz14.E fFz7 fFz44) fuel [true, true, false, true, false] (bodyOf Try.f76) Fz14.ann [] (finK TT 1 [some 0] Try.f76 [] K)
noncomputable def Fz14.ex1_0 (e0 : TypeId) (p1_0 : Int) (p1_1 : (List (List Zb))) (x1 : (Int × (List Zb))) : St := { slots := mkSlots 21 [(3, .sl 43 [] none), (7, .sl 0 [] none), (8, .val (.int .i64) p1_0), (9, .val (.int .i64) x1.1), (10, .val .bool (decide (x1.1 < p1_0)))], objs := mkObjs 44 [(0, .dat ⟨e0, (.arr 12 (.st (.pair (.int .u8) (.int .i16)))), p1_1, false, false, none⟩), (43, .dat ⟨41, (.st (.pair (.int .u8) (.int .i16))), x1.2, true, true, none⟩)] }
noncomputable def Fz14.B1 {α : Type} (fFz7 : Fz7.A → Option Fz7.B) (p1_0 : Int) (p1_1 : (List (List Zb))) (K0 : (Int × (List Zb)) → Option α) (rec : (Int × (List Zb)) → Option α) (x1 : (Int × (List Zb))) : Option α :=
  cond (decide (x1.1 < p1_0)) (cond (inB x1.1 (List.length p1_1)) ((fFz7 (List.getD p1_1 (x1.1 : Int).toNat (List.replicate 12 ((0 : Int), (0 : Int))))).bind fun r1001 => cond (okL (List.length x1.2 + List.length r1001)) (rec (((IntKind.i64.wrap (x1.1 + (1 : Int))), (x1.2 ++ r1001)))) none) none) (K0 x1)
theorem Fz14.step1 {α : Type} (fFz7 : Fz7.A → Option Fz7.B) (fFz44 : Fz44.A → Option Fz44.B) (fuel : Nat) (cont : Ex → St → Option α) (e0 : TypeId) (p1_0 : Int) (p1_1 : (List (List Zb))) (rec : St → Option α) (x1 : (Int × (List Zb))) : Fz14.LB1 fFz7 fFz44 fuel cont rec (Fz14.emb1 e0 p1_0 p1_1 x1) = Fz14.B1 fFz7 p1_0 p1_1 (fun x1 => cont (.exit 0) (Fz14.ex1_0 e0 p1_0 p1_1 x1)) (fun y => rec (Fz14.emb1 e0 p1_0 p1_1 y)) x1 := by kernel_rfl
theorem Fz14.loop1 {α : Type} (fFz7 : Fz7.A → Option Fz7.B) (fFz44 : Fz44.A → Option Fz44.B) (fuel : Nat) (cont : Ex → St → Option α) (e0 : TypeId) (p1_0 : Int) (p1_1 : (List (List Zb))) (x1 : (Int × (List Zb))) : loopN (Fz14.LB1 fFz7 fFz44 fuel cont) fuel (Fz14.emb1 e0 p1_0 p1_1 x1) = iter (Fz14.B1 fFz7 p1_0 p1_1 (fun x1 => cont (.exit 0) (Fz14.ex1_0 e0 p1_0 p1_1 x1))) fuel x1 := loop_sim (fun rec x => Fz14.step1 fFz7 fFz44 fuel cont e0 p1_0 p1_1 rec x) fuel x1
noncomputable def Fz14.pf {α : Type} (fFz7 : Fz7.A → Option Fz7.B) (fFz44 : Fz44.A → Option Fz44.B) (fuel : Nat) (a0 : (List (List Zb))) (k : (List Zb) → Option α) : Option α :=
  iter (Fz14.B1 fFz7 (((List.length a0) : Nat) : Int) a0 (fun (x1 : (Int × (List Zb))) => (fFz44 x1.2).bind fun r1 => k r1)) fuel ((0 : Int), ([] : List Zb))
theorem Fz14.tail1 {α : Type} (fFz7 : Fz7.A → Option Fz7.B) (fFz44 : Fz44.A → Option Fz44.B) (K : Res → Option α) (fuel : Nat) (e0 : TypeId) (a0 : (List (List Zb))) (x1 : (Int × (List Zb))) : Fz14.C1 fFz7 fFz44 K fuel (.exit 0) (Fz14.ex1_0 e0 (((List.length a0) : Nat) : Int) a0 x1) = ((fun (k : (List Zb) → Option α) => (fFz44 x1.2).bind fun r1 => k r1) (fun r => K (Fz14.enc 0 r))) := by kernel_rfl
theorem Fz14.red_raw {α : Type} (fFz7 : Fz7.A → Option Fz7.B) (fFz44 : Fz44.A → Option Fz44.B) (K : Res → Option α) (fuel : Nat) (e0 : TypeId) (a0 : (List (List Zb))) : run TT small (Fz14.tab fFz7 fFz44) Try.f76 Fz14.ann [] fuel [.obj false ⟨e0, (.arr 12 (.st (.pair (.int .u8) (.int .i16)))), a0⟩] K = loopN (Fz14.LB1 fFz7 fFz44 fuel (Fz14.C1 fFz7 fFz44 K fuel)) fuel (Fz14.emb1 e0 (((List.length a0) : Nat) : Int) a0 ((0 : Int), ([] : List Zb))) := by kernel_rfl
theorem Fz14.red {α : Type} (fFz7 : Fz7.A → Option Fz7.B) (fFz44 : Fz44.A → Option Fz44.B) (K : Res → Option α) (fuel : Nat) (e0 : TypeId) (a0 : (List (List Zb))) : run TT small (Fz14.tab fFz7 fFz44) Try.f76 Fz14.ann [] fuel [.obj false ⟨e0, (.arr 12 (.st (.pair (.int .u8) (.int .i16)))), a0⟩] K = Fz14.pf fFz7 fFz44 fuel a0 (fun r => K (Fz14.enc 0 r)) := by
  rw [Fz14.red_raw]
  simp only [Fz14.loop1, Fz14.tail1]
  all_goals kernel_rfl
theorem Fz14.sound (fFz7 : Fz7.A → Option Fz7.B) (fFz44 : Fz44.A → Option Fz44.B) (hFz7 : Fz7.S fFz7) (hFz44 : Fz44.S fFz44) (f : Fz14.A → Option Fz14.B) (hf : ∀ x r, f x = some r → ∃ fuel, ∀ k : Fz14.B → Option Res, Fz14.pf fFz7 fFz44 fuel x k = k r) : Fz14.S f := by
  refine fn_sound (by kernel_rfl) (ttok _) (tab_sound [(61, Fz7.sig fFz7), (112, Fz44.sig fFz44)] (List.forall_mem_cons.2 ⟨hFz7, List.forall_mem_cons.2 ⟨hFz44, fun p hp => nomatch hp⟩⟩)) (fn := Try.f76) (by kernel_rfl) (by decide) (by decide) Fz14.ann [] _ rfl (fun avs r hr => ?_) (by kernel_rfl)
  obtain ⟨x, y, h1, h2, rfl⟩ := mkSig_run hr
  obtain ⟨e0, rfl⟩ := Fz14.dec_eq h1
  obtain ⟨fuel, hk⟩ := hf x y h2
  exact ⟨fuel, (Fz14.red fFz7 fFz44 some fuel e0 x).trans (hk (fun r => some (Fz14.enc 0 r)))⟩
theorem Fz14.of_cl {fFz7 : Fz7.A → Option Fz7.B} {fFz44 : Fz44.A → Option Fz44.B} (hFz7 : Fz7.S fFz7) (hFz44 : Fz44.S fFz44) {P : Fz14.A → Prop} {v : Fz14.A → Fz14.B} (hp : ∀ x, P x → ∀ k : Fz14.B → Option Res, Fz14.pf fFz7 fFz44 BIG x k = k (v x)) : Fz14.S (cl P v) := Fz14.sound _ _ hFz7 hFz44 _ (fun x r hr => by obtain ⟨h1, rfl⟩ := cl_some hr; exact ⟨BIG, hp x h1⟩)
noncomputable def Fz34.tab : FuncId → Option Sig := tabOf []
noncomputable def Fz34.E : Env := ⟨TT, small, Fz34.tab , 1, 61⟩
def Fz34.ann : Ann := (.two .nil (.two .nil (.two (.two .nil (.one (.loop [0, 3] (.two .nil (.two (.one (.two .nil (.two (.two .nil (.two (.two .nil (.one (.loop [0, 3, 4, 5] .nil))) .nil)) .nil))) .nil))))) .nil)))
noncomputable def Fz34.emb2 (e0 : TypeId) (p2_0 : Nat) (p2_1 : Nat) (x2 : (Int × Int × (List Zb))) : St := { slots := mkSlots 61 [(0, .sl 0 [] none), (3, .val (.int .i64) x2.1), (4, .sl 0 [] (some (p2_0, p2_1))), (5, .val (.int .i64) x2.2.1)], objs := mkObjs 123 [(0, .dat ⟨e0, (.st (.pair (.int .u8) (.int .i16))), x2.2.2, true, false, none⟩)] }
noncomputable def Fz34.LB2 {α : Type} (fuel : Nat) (cont : Ex → St → Option α) : (St → Option α) → St → Option α := roundV Fz34.E fuel [true, true, false, true, false, false, true, false, false, true, false, true, false, true, false] (bodyOf Try.f92) Fz34.ann cont
noncomputable def Fz34.C2 {α : Type} (fuel : Nat) (cont : Ex → St → Option α) (rec : St → Option α) : Ex → St → Option α := contAt Fz34.E fuel [true, false, false, true, false, true, false, true, false] (codeAt [true, true, false, true, false, false] (bodyOf Try.f92)) (annAt [true, true, false, true, false, false] Fz34.ann) [] (loopK Fz34.E (annAt [true, true, false, true, false] Fz34.ann).live rec cont)
noncomputable def Fz34.ex2_0 (e0 : TypeId) (p2_0 : Nat) (p2_1 : Nat) (x2 : (Int × Int × (List Zb))) : St := { slots := mkSlots 61 [(0, .sl 0 [] none), (3, .val (.int .i64) x2.1), (4, .sl 0 [] (some (p2_0, p2_1))), (5, .val (.int .i64) x2.2.1), (29, .val (.int .i64) x2.2.1), (30, .sl 0 [] (some (p2_0, p2_1))), (31, .val (.int .i64) ((p2_1 : Nat) : Int)), (32, .val .bool ((decide (x2.2.1 < ((p2_1 : Nat) : Int)))))], objs := mkObjs 123 [(0, .dat ⟨e0, (.st (.pair (.int .u8) (.int .i16))), x2.2.2, true, false, none⟩)] }
noncomputable def Fz34.B2 {α : Type} (p2_0 : Nat) (p2_1 : Nat) (K0 : (Int × Int × (List Zb)) → Option α) (rec : (Int × Int × (List Zb)) → Option α) (x2 : (Int × Int × (List Zb))) : Option α :=
  cond (decide (x2.2.1 < ((p2_1 : Nat) : Int))) (cond (inB x2.2.1 p2_1) (cond (inB (IntKind.i64.wrap (x2.2.1 - (1 : Int))) p2_1) (cond (!(eqV (.st (.pair (.int .u8) (.int .i16))) (List.getD x2.2.2 (p2_0 + (x2.2.1 : Int).toNat) ((0 : Int), (0 : Int))) (List.getD x2.2.2 (p2_0 + (IntKind.i64.wrap (x2.2.1 - (1 : Int))).toNat) ((0 : Int), (0 : Int))))) (cond (inB x2.2.1 p2_1) (cond (inB x2.1 (List.length x2.2.2)) (rec (((IntKind.i64.wrap (x2.1 + (1 : Int))), (IntKind.i64.wrap (x2.2.1 + (1 : Int))), (List.set x2.2.2 (x2.1 : Int).toNat (List.getD x2.2.2 (p2_0 + (x2.2.1 : Int).toNat) ((0 : Int), (0 : Int))))))) none) none) (rec ((x2.1, (IntKind.i64.wrap (x2.2.1 + (1 : Int))), x2.2.2)))) none) none) (K0 x2)
theorem Fz34.step2 {α : Type} (fuel : Nat) (cont : Ex → St → Option α) (e0 : TypeId) (p2_0 : Nat) (p2_1 : Nat) (rec : St → Option α) (x2 : (Int × Int × (List Zb))) : Fz34.LB2 fuel cont rec (Fz34.emb2 e0 p2_0 p2_1 x2) = Fz34.B2 p2_0 p2_1 (fun x2 => cont (.exit 2) (Fz34.ex2_0 e0 p2_0 p2_1 x2)) (fun y => rec (Fz34.emb2 e0 p2_0 p2_1 y)) x2 := by kernel_rfl
theorem Fz34.loop2 {α : Type} (fuel : Nat) (cont : Ex → St → Option α) (e0 : TypeId) (p2_0 : Nat) (p2_1 : Nat) (x2 : (Int × Int × (List Zb))) : loopN (Fz34.LB2 fuel cont) fuel (Fz34.emb2 e0 p2_0 p2_1 x2) = iter (Fz34.B2 p2_0 p2_1 (fun x2 => cont (.exit 2) (Fz34.ex2_0 e0 p2_0 p2_1 x2))) fuel x2 := loop_sim (fun rec x => Fz34.step2 fuel cont e0 p2_0 p2_1 rec x) fuel x2
noncomputable def Fz34.emb1 (e0 : TypeId) (p1_0 : (List Zb)) (x1 : Int) : St := { slots := mkSlots 61 [(0, .sl 0 [] none), (3, .val (.int .i64) x1)], objs := mkObjs 123 [(0, .dat ⟨e0, (.st (.pair (.int .u8) (.int .i16))), p1_0, true, false, none⟩)] }
noncomputable def Fz34.LB1 {α : Type} (fuel : Nat) (cont : Ex → St → Option α) : (St → Option α) → St → Option α := roundV Fz34.E fuel [true, true, false, true, false] (bodyOf Try.f92) Fz34.ann cont
noncomputable def Fz34.C1 {α : Type} (K : Res → Option α) (fuel : Nat) : Ex → St → Option α := contAt Fz34.E fuel [true, true, false, true, false] (bodyOf Try.f92) Fz34.ann [] (finK TT 1 [some 0] Try.f92 [0] K)
noncomputable def Fz34.ex1_0 (e0 : TypeId) (p1_0 : (List Zb)) (x1 : Int) (x2 : (Int × Int × (List Zb))) : St := { slots := mkSlots 61 [(0, .sl 0 [] none), (2, .sl 0 [] (some (0, (x2.1 - (0 : Int)).toNat))), (3, .val (.int .i64) x2.1), (4, .sl 0 [] (some ((x1 : Int).toNat, ((((List.length p1_0) : Nat) : Int) - x1).toNat))), (5, .val (.int .i64) x2.2.1), (29, .val (.int .i64) x2.2.1), (30, .sl 0 [] (some ((x1 : Int).toNat, ((((List.length p1_0) : Nat) : Int) - x1).toNat))), (31, .val (.int .i64) (((((((List.length p1_0) : Nat) : Int) - x1).toNat : Nat) : Int))), (32, .val .bool ((decide (x2.2.1 < ((((((List.length p1_0) : Nat) : Int) - x1).toNat : Nat) : Int))))), (54, .sl 0 [] none), (55, .val (.int .i64) x2.1), (56, .sl 0 [] (some ((x2.1 : Int).toNat, ((((List.length x2.2.2) : Nat) : Int) - x2.1).toNat))), (57, .sl 0 [] none), (58, .val (.int .i64) x2.1), (59, .sl 0 [] (some (0, (x2.1 - (0 : Int)).toNat)))], objs := mkObjs 123 [(0, .dat ⟨e0, (.st (.pair (.int .u8) (.int .i16))), (overL x2.2.2 (x2.1 : Int).toNat (List.replicate ((((List.length x2.2.2) : Nat) : Int) - x2.1).toNat ((0 : Int), (0 : Int)))), true, false, none⟩)] }
noncomputable def Fz34.ex1_1 (e0 : TypeId) (p1_0 : (List Zb)) (x1 : Int) : St := { slots := mkSlots 61 [(0, .sl 0 [] none), (3, .val (.int .i64) x1), (10, .val (.int .i64) x1), (11, .sl 0 [] none), (12, .val (.int .i64) (((List.length p1_0) : Nat) : Int)), (13, .val .bool ((decide (x1 < (((List.length p1_0) : Nat) : Int)))))], objs := mkObjs 123 [(0, .dat ⟨e0, (.st (.pair (.int .u8) (.int .i16))), p1_0, true, false, none⟩)] }
noncomputable def Fz34.B1 {α : Type} (fuel : Nat) (p1_0 : (List Zb)) (K0 : Int → (Int × Int × (List Zb)) → Option α) (K1 : Int → Option α) (rec : Int → Option α) (x1 : Int) : Option α :=
  cond (decide (x1 < (((List.length p1_0) : Nat) : Int))) (cond (inB x1 (List.length p1_0)) (cond (inB (IntKind.i64.wrap (x1 - (1 : Int))) (List.length p1_0)) (cond (eqV (.st (.pair (.int .u8) (.int .i16))) (List.getD p1_0 (x1 : Int).toNat ((0 : Int), (0 : Int))) (List.getD p1_0 (IntKind.i64.wrap (x1 - (1 : Int))).toNat ((0 : Int), (0 : Int)))) (cond (inW x1 (((List.length p1_0) : Nat) : Int) (List.length p1_0)) (iter (Fz34.B2 ((x1 : Int).toNat) (((((List.length p1_0) : Nat) : Int) - x1).toNat) (fun (x2 : (Int × Int × (List Zb))) => cond (inW x2.1 (((List.length x2.2.2) : Nat) : Int) (List.length x2.2.2)) (cond (inW (0 : Int) x2.1 (List.length (overL x2.2.2 (x2.1 : Int).toNat (List.replicate ((((List.length x2.2.2) : Nat) : Int) - x2.1).toNat ((0 : Int), (0 : Int)))))) (K0 x1 x2) none) none)) fuel (x1, (1 : Int), p1_0)) none) (rec (IntKind.i64.wrap (x1 + (1 : Int))))) none) none) (K1 x1)
theorem Fz34.tail1 {α : Type} (cont : Ex → St → Option α) (rec : St → Option α) (fuel : Nat) (e0 : TypeId) (p1_0 : (List Zb)) (x1 : Int) (x2 : (Int × Int × (List Zb))) : Fz34.C2 fuel cont rec (.exit 2) (Fz34.ex2_0 e0 ((x1 : Int).toNat) (((((List.length p1_0) : Nat) : Int) - x1).toNat) x2) = ((fun (K0 : Int → (Int × Int × (List Zb)) → Option α) => cond (inW x2.1 (((List.length x2.2.2) : Nat) : Int) (List.length x2.2.2)) (cond (inW (0 : Int) x2.1 (List.length (overL x2.2.2 (x2.1 : Int).toNat (List.replicate ((((List.length x2.2.2) : Nat) : Int) - x2.1).toNat ((0 : Int), (0 : Int)))))) (K0 x1 x2) none) none) (fun x1 x2 => cont .ret (Fz34.ex1_0 e0 p1_0 x1 x2))) := by kernel_rfl
theorem Fz34.step1_raw {α : Type} (fuel : Nat) (cont : Ex → St → Option α) (e0 : TypeId) (p1_0 : (List Zb)) (rec : St → Option α) (x1 : Int) : Fz34.LB1 fuel cont rec (Fz34.emb1 e0 p1_0 x1) = cond (decide (x1 < (((List.length p1_0) : Nat) : Int))) (cond (inB x1 (List.length p1_0)) (cond (inB (IntKind.i64.wrap (x1 - (1 : Int))) (List.length p1_0)) (cond (eqV (.st (.pair (.int .u8) (.int .i16))) (List.getD p1_0 (x1 : Int).toNat ((0 : Int), (0 : Int))) (List.getD p1_0 (IntKind.i64.wrap (x1 - (1 : Int))).toNat ((0 : Int), (0 : Int)))) (cond (inW x1 (((List.length p1_0) : Nat) : Int) (List.length p1_0)) (loopN (Fz34.LB2 fuel (Fz34.C2 fuel cont rec)) fuel (Fz34.emb2 e0 ((x1 : Int).toNat) (((((List.length p1_0) : Nat) : Int) - x1).toNat) (x1, (1 : Int), p1_0))) none) (rec (Fz34.emb1 e0 p1_0 (IntKind.i64.wrap (x1 + (1 : Int)))))) none) none) (cont (.exit 0) (Fz34.ex1_1 e0 p1_0 x1)) := by kernel_rfl
theorem Fz34.step1 {α : Type} (fuel : Nat) (cont : Ex → St → Option α) (e0 : TypeId) (p1_0 : (List Zb)) (rec : St → Option α) (x1 : Int) : Fz34.LB1 fuel cont rec (Fz34.emb1 e0 p1_0 x1) = Fz34.B1 fuel p1_0 (fun x1 x2 => cont .ret (Fz34.ex1_0 e0 p1_0 x1 x2)) (fun x1 => cont (.exit 0) (Fz34.ex1_1 e0 p1_0 x1)) (fun y => rec (Fz34.emb1 e0 p1_0 y)) x1 := by
  rw [Fz34.step1_raw]
  simp only [Fz34.loop2, Fz34.tail1]
  all_goals kernel_rfl
theorem Fz34.loop1 {α : Type} (fuel : Nat) (cont : Ex → St → Option α) (e0 : TypeId) (p1_0 : (List Zb)) (x1 : Int) : loopN (Fz34.LB1 fuel cont) fuel (Fz34.emb1 e0 p1_0 x1) = iter (Fz34.B1 fuel p1_0 (fun x1 x2 => cont .ret (Fz34.ex1_0 e0 p1_0 x1 x2)) (fun x1 => cont (.exit 0) (Fz34.ex1_1 e0 p1_0 x1))) fuel x1 := loop_sim (fun rec x => Fz34.step1 fuel cont e0 p1_0 rec x) fuel x1
noncomputable def Fz34.pf {α : Type} (fuel : Nat) (a0 : (List Zb)) (k : ((Option (Nat × Nat)) × (List Zb)) → Option α) : Option α :=
  cond (decide ((((List.length a0) : Nat) : Int) < (2 : Int))) (k ((none : Option (Nat × Nat)), a0)) (iter (Fz34.B1 fuel a0 (fun (x1 : Int) (x2 : (Int × Int × (List Zb))) => k ((some (0, (x2.1 - (0 : Int)).toNat)), (overL x2.2.2 (x2.1 : Int).toNat (List.replicate ((((List.length x2.2.2) : Nat) : Int) - x2.1).toNat ((0 : Int), (0 : Int)))))) (fun (x1 : Int) => k ((none : Option (Nat × Nat)), a0))) fuel (1 : Int))
theorem Fz34.tail2 {α : Type} (K : Res → Option α) (fuel : Nat) (e0 : TypeId) (a0 : (List Zb)) (x1 : Int) (x2 : (Int × Int × (List Zb))) : Fz34.C1 K fuel .ret (Fz34.ex1_0 e0 a0 x1 x2) = ((fun (k : ((Option (Nat × Nat)) × (List Zb)) → Option α) => k ((some (0, (x2.1 - (0 : Int)).toNat)), (overL x2.2.2 (x2.1 : Int).toNat (List.replicate ((((List.length x2.2.2) : Nat) : Int) - x2.1).toNat ((0 : Int), (0 : Int)))))) (fun r => K (Fz34.enc e0 r))) := by kernel_rfl
theorem Fz34.tail3 {α : Type} (K : Res → Option α) (fuel : Nat) (e0 : TypeId) (a0 : (List Zb)) (x1 : Int) : Fz34.C1 K fuel (.exit 0) (Fz34.ex1_1 e0 a0 x1) = ((fun (k : ((Option (Nat × Nat)) × (List Zb)) → Option α) => k ((none : Option (Nat × Nat)), a0)) (fun r => K (Fz34.enc e0 r))) := by kernel_rfl
theorem Fz34.red_raw {α : Type} (K : Res → Option α) (fuel : Nat) (e0 : TypeId) (a0 : (List Zb)) : run TT small Fz34.tab Try.f92 Fz34.ann [0] fuel [.obj false ⟨e0, (.st (.pair (.int .u8) (.int .i16))), a0⟩] K = cond (decide ((((List.length a0) : Nat) : Int) < (2 : Int))) (K ⟨[.al 0 (none : Option (Nat × Nat))], [⟨e0, (.st (.pair (.int .u8) (.int .i16))), a0⟩]⟩) (loopN (Fz34.LB1 fuel (Fz34.C1 K fuel)) fuel (Fz34.emb1 e0 a0 (1 : Int))) := by kernel_rfl
theorem Fz34.red {α : Type} (K : Res → Option α) (fuel : Nat) (e0 : TypeId) (a0 : (List Zb)) : run TT small Fz34.tab Try.f92 Fz34.ann [0] fuel [.obj false ⟨e0, (.st (.pair (.int .u8) (.int .i16))), a0⟩] K = Fz34.pf fuel a0 (fun r => K (Fz34.enc e0 r)) := by
  rw [Fz34.red_raw]
  simp only [Fz34.loop1, Fz34.tail2, Fz34.tail3]
  all_goals kernel_rfl
theorem Fz34.sound (f : Fz34.A → Option Fz34.B) (hf : ∀ x r, f x = some r → ∃ fuel, ∀ k : Fz34.B → Option Res, Fz34.pf fuel x k = k r) : Fz34.S f := by
  refine fn_sound (by kernel_rfl) (ttok _) (tab_sound [] (fun p hp => nomatch hp)) (fn := Try.f92) (by kernel_rfl) (by decide) (by decide) Fz34.ann [0] _ rfl (fun avs r hr => ?_) (by kernel_rfl)
  obtain ⟨x, y, h1, h2, rfl⟩ := mkSig_run hr
  obtain ⟨e0, rfl⟩ := Fz34.dec_eq h1
  obtain ⟨fuel, hk⟩ := hf x y h2
  exact ⟨fuel, (Fz34.red some fuel e0 x).trans (hk (fun r => some (Fz34.enc e0 r)))⟩
theorem Fz34.of_cl {P : Fz34.A → Prop} {v : Fz34.A → Fz34.B} (hp : ∀ x, P x → ∀ k : Fz34.B → Option Res, Fz34.pf BIG x k = k (v x)) : Fz34.S (cl P v) := Fz34.sound  _ (fun x r hr => by obtain ⟨h1, rfl⟩ := cl_some hr; exact ⟨BIG, hp x h1⟩)
noncomputable def Fz18.tab : FuncId → Option Sig := tabOf []
noncomputable def Fz18.E : Env := ⟨TT, small, Fz18.tab , 0, 15⟩
def Fz18.ann : Ann := .nil
noncomputable def Fz18.pf {α : Type} (fuel : Nat) (a0 : Int) (a1 : Int) (a2 : Int) (k : Bool → Option α) : Option α :=
  cond (decide (a1 ≤ a0)) (k (decide (a0 ≤ a2))) (k false)
theorem Fz18.red {α : Type} (K : Res → Option α) (fuel : Nat) (a0 : Int) (a1 : Int) (a2 : Int) : run TT small Fz18.tab Try.f107 Fz18.ann [] fuel [.val (.int .i64) a0, .val (.int .i64) a1, .val (.int .i64) a2] K = Fz18.pf fuel a0 a1 a2 (fun r => K (Fz18.enc 0 r)) := by kernel_rfl
theorem Fz18.sound (f : Fz18.A → Option Fz18.B) (hf : ∀ x r, f x = some r → ∃ fuel, ∀ k : Fz18.B → Option Res, Fz18.pf fuel x.1 x.2.1 x.2.2 k = k r) : Fz18.S f := by
  refine fn_sound (by kernel_rfl) (ttok _) (tab_sound [] (fun p hp => nomatch hp)) (fn := Try.f107) (by kernel_rfl) (by decide) (by decide) Fz18.ann [] _ rfl (fun avs r hr => ?_) (by kernel_rfl)
  obtain ⟨x, y, h1, h2, rfl⟩ := mkSig_run hr
  obtain rfl := Fz18.dec_eq h1
  obtain ⟨fuel, hk⟩ := hf x y h2
  exact ⟨fuel, (Fz18.red some fuel x.1 x.2.1 x.2.2).trans (hk (fun r => some (Fz18.enc 0 r)))⟩
theorem Fz18.of_tot {v : Fz18.A → Fz18.B} (hp : ∀ x, ∀ k : Fz18.B → Option Res, Fz18.pf BIG x.1 x.2.1 x.2.2 k = k (v x)) : Fz18.S (tot v) := Fz18.sound  _ (fun x r hr => by obtain rfl := Option.some.inj hr; exact ⟨BIG, hp x⟩)
noncomputable def Fz9.tab (fFz18 : Fz18.A → Option Fz18.B) : FuncId → Option Sig := tabOf [(107, Fz18.sig fFz18)]
noncomputable def Fz9.E (fFz18 : Fz18.A → Option Fz18.B) : Env := ⟨TT, small, Fz9.tab fFz18, 0, 13⟩
def Fz9.ann : Ann := .nil
noncomputable def Fz9.pf {α : Type} (fFz18 : Fz18.A → Option Fz18.B) (fuel : Nat) (a0 : Zb) (k : Bool → Option α) : Option α :=
  (fFz18 ((IntKind.i64.wrap a0.1), (1 : Int), (20 : Int))).bind fun r1 => cond r1 ((fFz18 ((IntKind.i64.wrap a0.2), (1900 : Int), (2099 : Int))).bind fun r2 => k r2) (k false)
theorem Fz9.red {α : Type} (fFz18 : Fz18.A → Option Fz18.B) (K : Res → Option α) (fuel : Nat) (a0 : Zb) : run TT small (Fz9.tab fFz18) Try.f58 Fz9.ann [] fuel [.val (.st (.pair (.int .u8) (.int .i16))) a0] K = Fz9.pf fFz18 fuel a0 (fun r => K (Fz9.enc 0 r)) := by kernel_rfl
theorem Fz9.sound (fFz18 : Fz18.A → Option Fz18.B) (hFz18 : Fz18.S fFz18) (f : Fz9.A → Option Fz9.B) (hf : ∀ x r, f x = some r → ∃ fuel, ∀ k : Fz9.B → Option Res, Fz9.pf fFz18 fuel x k = k r) : Fz9.S f := by
  refine fn_sound (by kernel_rfl) (ttok _) (tab_sound [(107, Fz18.sig fFz18)] (List.forall_mem_cons.2 ⟨hFz18, fun p hp => nomatch hp⟩)) (fn := Try.f58) (by kernel_rfl) (by decide) (by decide) Fz9.ann [] _ rfl (fun avs r hr => ?_) (by kernel_rfl)
  obtain ⟨x, y, h1, h2, rfl⟩ := mkSig_run hr
  obtain rfl := Fz9.dec_eq h1
  obtain ⟨fuel, hk⟩ := hf x y h2
  exact ⟨fuel, (Fz9.red fFz18 some fuel x).trans (hk (fun r => some (Fz9.enc 0 r)))⟩
theorem Fz9.of_cl {fFz18 : Fz18.A → Option Fz18.B} (hFz18 : Fz18.S fFz18) {P : Fz9.A → Prop} {v : Fz9.A → Fz9.B} (hp : ∀ x, P x → ∀ k : Fz9.B → Option Res, Fz9.pf fFz18 BIG x k = k (v x)) : Fz9.S (cl P v) := Fz9.sound _ hFz18 _ (fun x r hr => by obtain ⟨h1, rfl⟩ := cl_some hr; exact ⟨BIG, hp x h1⟩)
noncomputable def Fz11.tab (fFz9 : Fz9.A → Option Fz9.B) : FuncId → Option Sig := tabOf [(58, Fz9.sig fFz9)]
noncomputable def Fz11.E (fFz9 : Fz9.A → Option Fz9.B) : Env := ⟨TT, small, Fz11.tab fFz9, 0, 11⟩
def Fz11.ann : Ann := .nil
noncomputable def Fz11.pf {α : Type} (fFz9 : Fz9.A → Option Fz9.B) (fuel : Nat) (a0 : Zb) (k : Bool → Option α) : Option α :=
  cond (!(eqV (.st (.pair (.int .u8) (.int .i16))) a0 ((0 : Int), (0 : Int)))) ((fFz9 a0).bind fun r1 => k (!r1)) (k false)
theorem Fz11.red {α : Type} (fFz9 : Fz9.A → Option Fz9.B) (K : Res → Option α) (fuel : Nat) (a0 : Zb) : run TT small (Fz11.tab fFz9) Try.f111 Fz11.ann [] fuel [.val (.st (.pair (.int .u8) (.int .i16))) a0] K = Fz11.pf fFz9 fuel a0 (fun r => K (Fz11.enc 0 r)) := by kernel_rfl
theorem Fz11.sound (fFz9 : Fz9.A → Option Fz9.B) (hFz9 : Fz9.S fFz9) (f : Fz11.A → Option Fz11.B) (hf : ∀ x r, f x = some r → ∃ fuel, ∀ k : Fz11.B → Option Res, Fz11.pf fFz9 fuel x k = k r) : Fz11.S f := by
  refine fn_sound (by kernel_rfl) (ttok _) (tab_sound [(58, Fz9.sig fFz9)] (List.forall_mem_cons.2 ⟨hFz9, fun p hp => nomatch hp⟩)) (fn := Try.f111) (by kernel_rfl) (by decide) (by decide) Fz11.ann [] _ rfl (fun avs r hr => ?_) (by kernel_rfl)
  obtain ⟨x, y, h1, h2, rfl⟩ := mkSig_run hr
  obtain rfl := Fz11.dec_eq h1
  obtain ⟨fuel, hk⟩ := hf x y h2
  exact ⟨fuel, (Fz11.red fFz9 some fuel x).trans (hk (fun r => some (Fz11.enc 0 r)))⟩
theorem Fz11.of_cl {fFz9 : Fz9.A → Option Fz9.B} (hFz9 : Fz9.S fFz9) {P : Fz11.A → Prop} {v : Fz11.A → Fz11.B} (hp : ∀ x, P x → ∀ k : Fz11.B → Option Res, Fz11.pf fFz9 BIG x k = k (v x)) : Fz11.S (cl P v) := Fz11.sound _ hFz9 _ (fun x r hr => by obtain ⟨h1, rfl⟩ := cl_some hr; exact ⟨BIG, hp x h1⟩)
noncomputable def Fz41.tab (fFz11 : Fz11.A → Option Fz11.B) : FuncId → Option Sig := tabOf [(111, Fz11.sig fFz11)]
noncomputable def Fz41.E (fFz11 : Fz11.A → Option Fz11.B) : Env := ⟨TT, small, Fz41.tab fFz11, 1, 19⟩
def Fz41.ann : Ann := (.two .nil (.two (.two .nil (.one (.loop [0, 1, 7, 8] .nil))) .nil))
noncomputable def Fz41.emb1 (e0 : TypeId) (p1_0 : Int) (p1_1 : (List Zb)) (x1 : Int) : St := { slots := mkSlots 19 [(0, .sl 0 [] none), (1, .fn 111 []), (7, .val (.int .i64) p1_0), (8, .val (.int .i64) x1)], objs := mkObjs 39 [(0, .dat ⟨e0, (.st (.pair (.int .u8) (.int .i16))), p1_1, false, false, none⟩)] }
noncomputable def Fz41.LB1 {α : Type} (fFz11 : Fz11.A → Option Fz11.B) (fuel : Nat) (cont : Ex → St → Option α) : (St → Option α) → St → Option α := roundV (Fz41.E fFz11) fuel [true, false, true, false] (bodyOf Try.f106) Fz41.ann cont
noncomputable def Fz41.C1 {α : Type} (fFz11 : Fz11.A → Option Fz11.B) (K : Res → Option α) (fuel : Nat) : Ex → St → Option α := contAt (Fz41.E fFz11) fuel [true, false, true, false] (bodyOf Try.f106) Fz41.ann [] (finK TT 1 [some 0, none] Try.f106 [] K)
noncomputable def Fz41.ex1_0 (e0 : TypeId) (p1_0 : Int) (p1_1 : (List Zb)) (x1 : Int) (r1001 : Bool) : St := { slots := mkSlots 19 [(0, .sl 0 [] none), (1, .fn 111 []), (4, .val (.int .i64) x1), (5, .val (.int .i64) x1), (7, .val (.int .i64) p1_0), (8, .val (.int .i64) x1), (9, .val .bool (decide (x1 < p1_0))), (10, .val (.int .i64) x1), (11, .fn 111 []), (12, .sl 0 [] none), (13, .val (.int .i64) x1), (14, .ptr 0 [.idx (x1 : Int).toNat] false), (15, .val (.st (.pair (.int .u8) (.int .i16))) (List.getD p1_1 (x1 : Int).toNat ((0 : Int), (0 : Int)))), (16, .val .bool r1001), (17, .val (.int .i64) x1)], objs := mkObjs 39 [(0, .dat ⟨e0, (.st (.pair (.int .u8) (.int .i16))), p1_1, false, false, none⟩)] }
noncomputable def Fz41.ex1_1 (e0 : TypeId) (p1_0 : Int) (p1_1 : (List Zb)) (x1 : Int) : St := { slots := mkSlots 19 [(0, .sl 0 [] none), (1, .fn 111 []), (7, .val (.int .i64) p1_0), (8, .val (.int .i64) x1), (9, .val .bool (decide (x1 < p1_0)))], objs := mkObjs 39 [(0, .dat ⟨e0, (.st (.pair (.int .u8) (.int .i16))), p1_1, false, false, none⟩)] }
noncomputable def Fz41.B1 {α : Type} (fFz11 : Fz11.A → Option Fz11.B) (p1_0 : Int) (p1_1 : (List Zb)) (K0 : Int → Bool → Option α) (K1 : Int → Option α) (rec : Int → Option α) (x1 : Int) : Option α :=
  cond (decide (x1 < p1_0)) (cond (inB x1 (List.length p1_1)) ((fFz11 (List.getD p1_1 (x1 : Int).toNat ((0 : Int), (0 : Int)))).bind fun r1001 => cond r1001 (K0 x1 r1001) (rec (IntKind.i64.wrap (x1 + (1 : Int))))) none) (K1 x1)
theorem Fz41.step1 {α : Type} (fFz11 : Fz11.A → Option Fz11.B) (fuel : Nat) (cont : Ex → St → Option α) (e0 : TypeId) (p1_0 : Int) (p1_1 : (List Zb)) (rec : St → Option α) (x1 : Int) : Fz41.LB1 fFz11 fuel cont rec (Fz41.emb1 e0 p1_0 p1_1 x1) = Fz41.B1 fFz11 p1_0 p1_1 (fun x1 r1001 => cont .ret (Fz41.ex1_0 e0 p1_0 p1_1 x1 r1001)) (fun x1 => cont (.exit 0) (Fz41.ex1_1 e0 p1_0 p1_1 x1)) (fun y => rec (Fz41.emb1 e0 p1_0 p1_1 y)) x1 := by kernel_rfl
theorem Fz41.loop1 {α : Type} (fFz11 : Fz11.A → Option Fz11.B) (fuel : Nat) (cont : Ex → St → Option α) (e0 : TypeId) (p1_0 : Int) (p1_1 : (List Zb)) (x1 : Int) : loopN (Fz41.LB1 fFz11 fuel cont) fuel (Fz41.emb1 e0 p1_0 p1_1 x1) = iter (Fz41.B1 fFz11 p1_0 p1_1 (fun x1 r1001 => cont .ret (Fz41.ex1_0 e0 p1_0 p1_1 x1 r1001)) (fun x1 => cont (.exit 0) (Fz41.ex1_1 e0 p1_0 p1_1 x1))) fuel x1 := loop_sim (fun rec x => Fz41.step1 fFz11 fuel cont e0 p1_0 p1_1 rec x) fuel x1
noncomputable def Fz41.pf {α : Type} (fFz11 : Fz11.A → Option Fz11.B) (fuel : Nat) (a0 : (List Zb)) (k : Int → Option α) : Option α :=
  iter (Fz41.B1 fFz11 (((List.length a0) : Nat) : Int) a0 (fun (x1 : Int) (r1001 : Bool) => k x1) (fun (x1 : Int) => k (-1 : Int))) fuel (0 : Int)
theorem Fz41.tail1 {α : Type} (fFz11 : Fz11.A → Option Fz11.B) (K : Res → Option α) (fuel : Nat) (e0 : TypeId) (a0 : (List Zb)) (x1 : Int) (r1001 : Bool) : Fz41.C1 fFz11 K fuel .ret (Fz41.ex1_0 e0 (((List.length a0) : Nat) : Int) a0 x1 r1001) = ((fun (k : Int → Option α) => k x1) (fun r => K (Fz41.enc 0 r))) := by kernel_rfl
theorem Fz41.tail2 {α : Type} (fFz11 : Fz11.A → Option Fz11.B) (K : Res → Option α) (fuel : Nat) (e0 : TypeId) (a0 : (List Zb)) (x1 : Int) : Fz41.C1 fFz11 K fuel (.exit 0) (Fz41.ex1_1 e0 (((List.length a0) : Nat) : Int) a0 x1) = ((fun (k : Int → Option α) => k (-1 : Int)) (fun r => K (Fz41.enc 0 r))) := by kernel_rfl
theorem Fz41.red_raw {α : Type} (fFz11 : Fz11.A → Option Fz11.B) (K : Res → Option α) (fuel : Nat) (e0 : TypeId) (a0 : (List Zb)) : run TT small (Fz41.tab fFz11) Try.f106 Fz41.ann [] fuel [.obj false ⟨e0, (.st (.pair (.int .u8) (.int .i16))), a0⟩, .fn 111 []] K = loopN (Fz41.LB1 fFz11 fuel (Fz41.C1 fFz11 K fuel)) fuel (Fz41.emb1 e0 (((List.length a0) : Nat) : Int) a0 (0 : Int)) := by kernel_rfl
theorem Fz41.red {α : Type} (fFz11 : Fz11.A → Option Fz11.B) (K : Res → Option α) (fuel : Nat) (e0 : TypeId) (a0 : (List Zb)) : run TT small (Fz41.tab fFz11) Try.f106 Fz41.ann [] fuel [.obj false ⟨e0, (.st (.pair (.int .u8) (.int .i16))), a0⟩, .fn 111 []] K = Fz41.pf fFz11 fuel a0 (fun r => K (Fz41.enc 0 r)) := by
  rw [Fz41.red_raw]
  simp only [Fz41.loop1, Fz41.tail1, Fz41.tail2]
  all_goals kernel_rfl
theorem Fz41.sound (fFz11 : Fz11.A → Option Fz11.B) (hFz11 : Fz11.S fFz11) (f : Fz41.A → Option Fz41.B) (hf : ∀ x r, f x = some r → ∃ fuel, ∀ k : Fz41.B → Option Res, Fz41.pf fFz11 fuel x k = k r) : Fz41.S f := by
  refine fn_sound (by kernel_rfl) (ttok _) (tab_sound [(111, Fz11.sig fFz11)] (List.forall_mem_cons.2 ⟨hFz11, fun p hp => nomatch hp⟩)) (fn := Try.f106) (by kernel_rfl) (by decide) (by decide) Fz41.ann [] _ rfl (fun avs r hr => ?_) (by kernel_rfl)
  obtain ⟨x, y, h1, h2, rfl⟩ := mkSig_run hr
  obtain ⟨e0, rfl⟩ := Fz41.dec_eq h1
  obtain ⟨fuel, hk⟩ := hf x y h2
  exact ⟨fuel, (Fz41.red fFz11 some fuel e0 x).trans (hk (fun r => some (Fz41.enc 0 r)))⟩
theorem Fz41.of_cl {fFz11 : Fz11.A → Option Fz11.B} (hFz11 : Fz11.S fFz11) {P : Fz41.A → Prop} {v : Fz41.A → Fz41.B} (hp : ∀ x, P x → ∀ k : Fz41.B → Option Res, Fz41.pf fFz11 BIG x k = k (v x)) : Fz41.S (cl P v) := Fz41.sound _ hFz11 _ (fun x r hr => by obtain ⟨h1, rfl⟩ := cl_some hr; exact ⟨BIG, hp x h1⟩)
noncomputable def Fz35.tab (fFz41 : Fz41.A → Option Fz41.B) : FuncId → Option Sig := tabOf [(106, Fz41.sig fFz41)]
noncomputable def Fz35.E (fFz41 : Fz41.A → Option Fz41.B) : Env := ⟨TT, small, Fz35.tab fFz41, 1, 9⟩
def Fz35.ann : Ann := .nil
noncomputable def Fz35.pf {α : Type} (fFz41 : Fz41.A → Option Fz41.B) (fuel : Nat) (a0 : (List Zb)) (k : Bool → Option α) : Option α :=
  (fFz41 a0).bind fun r1 => k (decide (r1 ≥ (0 : Int)))
theorem Fz35.red {α : Type} (fFz41 : Fz41.A → Option Fz41.B) (K : Res → Option α) (fuel : Nat) (e0 : TypeId) (a0 : (List Zb)) : run TT small (Fz35.tab fFz41) Try.f56 Fz35.ann [] fuel [.obj false ⟨e0, (.st (.pair (.int .u8) (.int .i16))), a0⟩, .fn 111 []] K = Fz35.pf fFz41 fuel a0 (fun r => K (Fz35.enc 0 r)) := by kernel_rfl
theorem Fz35.sound (fFz41 : Fz41.A → Option Fz41.B) (hFz41 : Fz41.S fFz41) (f : Fz35.A → Option Fz35.B) (hf : ∀ x r, f x = some r → ∃ fuel, ∀ k : Fz35.B → Option Res, Fz35.pf fFz41 fuel x k = k r) : Fz35.S f := by
  refine fn_sound (by kernel_rfl) (ttok _) (tab_sound [(106, Fz41.sig fFz41)] (List.forall_mem_cons.2 ⟨hFz41, fun p hp => nomatch hp⟩)) (fn := Try.f56) (by kernel_rfl) (by decide) (by decide) Fz35.ann [] _ rfl (fun avs r hr => ?_) (by kernel_rfl)
  obtain ⟨x, y, h1, h2, rfl⟩ := mkSig_run hr
  obtain ⟨e0, rfl⟩ := Fz35.dec_eq h1
  obtain ⟨fuel, hk⟩ := hf x y h2
  exact ⟨fuel, (Fz35.red fFz41 some fuel e0 x).trans (hk (fun r => some (Fz35.enc 0 r)))⟩
theorem Fz35.of_cl {fFz41 : Fz41.A → Option Fz41.B} (hFz41 : Fz41.S fFz41) {P : Fz35.A → Prop} {v : Fz35.A → Fz35.B} (hp : ∀ x, P x → ∀ k : Fz35.B → Option Res, Fz35.pf fFz41 BIG x k = k (v x)) : Fz35.S (cl P v) := Fz35.sound _ hFz41 _ (fun x r hr => by obtain ⟨h1, rfl⟩ := cl_some hr; exact ⟨BIG, hp x h1⟩)
end Go.Proofs.Ytjajlmaldeoobaa.G
