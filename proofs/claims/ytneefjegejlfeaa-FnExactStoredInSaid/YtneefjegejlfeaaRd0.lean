import Derived.Test.YtneefjegejlfeaaSg
namespace Go.Proofs.Ytneefjegejlfeaa.G
open Go Go.Proofs
set_option linter.unusedVariables false
set_option linter.unusedSimpArgs false
set_option maxRecDepth 100000
/-! 47 laws_szStoredS -/
noncomputable def Fz13.tab : FuncId → Option Sig := tabOf []
noncomputable def Fz13.E : Env := ⟨TT, small, Fz13.tab , 1, 12⟩
def Fz13.ann : Ann := .nil
noncomputable def Fz13.pf {α : Type} (fuel : Nat) (a0 : (List ((Int × Int) × Int))) (a1 : Int) (k : Int → Option α) : Option α :=
  cond (decide ((IntKind.i64.wrap (a1 - (((List.length a0) : Nat) : Int))) < (0 : Int))) (k (-1 : Int)) (k (IntKind.i64.wrap (a1 - (((List.length a0) : Nat) : Int))))
theorem Fz13.red {α : Type} (K : Res → Option α) (fuel : Nat) (e0 : TypeId) (a0 : (List ((Int × Int) × Int))) (a1 : Int) : run TT small Fz13.tab Try.f47 Fz13.ann [] fuel [.obj false ⟨e0, (.st (.pair (.st (.pair (.int .u8) (.int .i16))) (.int .i16))), a0⟩, .val (.int .i64) a1] K = Fz13.pf fuel a0 a1 (fun r => K (Fz13.enc 0 r)) := by kernel_rfl
theorem Fz13.sound (f : Fz13.A → Option Fz13.B) (hf : ∀ x r, f x = some r → ∃ fuel, ∀ k : Fz13.B → Option Res, Fz13.pf fuel x.1 x.2 k = k r) : Fz13.S f := by
  refine fn_sound (by kernel_rfl) (ttok _) (tab_sound [] (fun p hp => nomatch hp)) (fn := Try.f47) (by kernel_rfl) (by decide) (by decide) Fz13.ann [] _ rfl (fun avs r hr => ?_) (by kernel_rfl)
  obtain ⟨x, y, h1, h2, rfl⟩ := mkSig_run hr
  obtain ⟨e0, rfl⟩ := Fz13.dec_eq h1
  obtain ⟨fuel, hk⟩ := hf x y h2
  exact ⟨fuel, (Fz13.red some fuel e0 x.1 x.2).trans (hk (fun r => some (Fz13.enc 0 r)))⟩
theorem Fz13.of_cl {P : Fz13.A → Prop} {v : Fz13.A → Fz13.B} (hp : ∀ x, P x → ∀ k : Fz13.B → Option Res, Fz13.pf BIG x.1 x.2 k = k (v x)) : Fz13.S (cl P v) := Fz13.sound  _ (fun x r hr => by obtain ⟨h1, rfl⟩ := cl_some hr; exact ⟨BIG, hp x h1⟩)
theorem Fz13.of_tot {v : Fz13.A → Fz13.B} (hp : ∀ x, ∀ k : Fz13.B → Option Res, Fz13.pf BIG x.1 x.2 k = k (v x)) : Fz13.S (tot v) := Fz13.sound  _ (fun x r hr => by obtain rfl := Option.some.inj hr; exact ⟨BIG, hp x⟩)
/-! 15 laws_szRack -/
noncomputable def Fz12.tab (fFz13 : Fz13.A → Option Fz13.B) : FuncId → Option Sig := tabOf [(47, Fz13.sig fFz13)]
noncomputable def Fz12.E (fFz13 : Fz13.A → Option Fz13.B) : Env := ⟨TT, small, Fz12.tab fFz13, 1, 27⟩
def Fz12.ann : Ann := (.two .nil (.two .nil (.two .nil (.two (.two .nil (.one (.loop [0, 1, 5] .nil))) .nil))))
noncomputable def Fz12.emb1 (e0 : TypeId) (p1_0 : (List (List ((Int × Int) × Int)))) (x1 : (Int × Int)) : St := { slots := mkSlots 27 [(0, .sl 0 [] none), (1, .val (.int .i64) x1.1), (5, .val (.int .i64) x1.2)], objs := mkObjs 55 [(0, .dat ⟨e0, (.row 44 (.st (.pair (.st (.pair (.int .u8) (.int .i16))) (.int .i16)))), p1_0, false, false, none⟩)] }
noncomputable def Fz12.LB1 {α : Type} (fFz13 : Fz13.A → Option Fz13.B) (fuel : Nat) (cont : Ex → St → Option α) : (St → Option α) → St → Option α := roundV (Fz12.E fFz13) fuel [true, true, true, false, true, false] (bodyOf Try.f15) Fz12.ann cont
noncomputable def Fz12.C1 {α : Type} (fFz13 : Fz13.A → Option Fz13.B) (K : Res → Option α) (fuel : Nat) : Ex → St → Option α := contAt (Fz12.E fFz13) fuel [true, true, true, false, true, false] (bodyOf Try.f15) Fz12.ann [] (finK TT 1 [some 0, none] Try.f15 [] K)
noncomputable def Fz12.ex1_0 (e0 : TypeId) (p1_0 : (List (List ((Int × Int) × Int)))) (x1 : (Int × Int)) (r1001 : Int) : St := { slots := mkSlots 27 [(0, .sl 0 [] none), (1, .val (.int .i64) r1001), (4, .val (.int .i64) (-1 : Int)), (5, .val (.int .i64) x1.2), (12, .val (.int .i64) x1.2), (13, .sl 0 [] none), (14, .val (.int .i64) (((List.length p1_0) : Nat) : Int)), (15, .val .bool ((decide (x1.2 < (((List.length p1_0) : Nat) : Int))))), (18, .sl 0 [] none), (19, .val (.int .i64) x1.2), (20, .ptr 0 [.idx (x1.2 : Int).toNat] false), (21, .sl 0 [.idx (x1.2 : Int).toNat] none), (22, .val (.int .i64) x1.1), (23, .val (.int .i64) r1001), (24, .val (.int .i64) r1001), (25, .val .bool (decide (r1001 < (0 : Int))))], objs := mkObjs 55 [(0, .dat ⟨e0, (.row 44 (.st (.pair (.st (.pair (.int .u8) (.int .i16))) (.int .i16)))), p1_0, false, false, none⟩)] }
noncomputable def Fz12.ex1_1 (e0 : TypeId) (p1_0 : (List (List ((Int × Int) × Int)))) (x1 : (Int × Int)) : St := { slots := mkSlots 27 [(0, .sl 0 [] none), (1, .val (.int .i64) x1.1), (5, .val (.int .i64) x1.2), (12, .val (.int .i64) x1.2), (13, .sl 0 [] none), (14, .val (.int .i64) (((List.length p1_0) : Nat) : Int)), (15, .val .bool ((decide (x1.2 < (((List.length p1_0) : Nat) : Int)))))], objs := mkObjs 55 [(0, .dat ⟨e0, (.row 44 (.st (.pair (.st (.pair (.int .u8) (.int .i16))) (.int .i16)))), p1_0, false, false, none⟩)] }
noncomputable def Fz12.B1 {α : Type} (fFz13 : Fz13.A → Option Fz13.B) (p1_0 : (List (List ((Int × Int) × Int)))) (K0 : (Int × Int) → Int → Option α) (K1 : (Int × Int) → Option α) (rec : (Int × Int) → Option α) (x1 : (Int × Int)) : Option α :=
  cond (decide (x1.2 < (((List.length p1_0) : Nat) : Int))) (cond (inB x1.2 (List.length p1_0)) ((fFz13 ((List.getD p1_0 (x1.2 : Int).toNat ([] : List ((Int × Int) × Int))), x1.1)).bind fun r1001 => cond (decide (r1001 < (0 : Int))) (K0 x1 r1001) (rec ((r1001, (IntKind.i64.wrap (x1.2 + (1 : Int))))))) none) (K1 x1)
theorem Fz12.step1 {α : Type} (fFz13 : Fz13.A → Option Fz13.B) (fuel : Nat) (cont : Ex → St → Option α) (e0 : TypeId) (p1_0 : (List (List ((Int × Int) × Int)))) (rec : St → Option α) (x1 : (Int × Int)) : Fz12.LB1 fFz13 fuel cont rec (Fz12.emb1 e0 p1_0 x1) = Fz12.B1 fFz13 p1_0 (fun x1 r1001 => cont .ret (Fz12.ex1_0 e0 p1_0 x1 r1001)) (fun x1 => cont (.exit 0) (Fz12.ex1_1 e0 p1_0 x1)) (fun y => rec (Fz12.emb1 e0 p1_0 y)) x1 := by kernel_rfl
theorem Fz12.loop1 {α : Type} (fFz13 : Fz13.A → Option Fz13.B) (fuel : Nat) (cont : Ex → St → Option α) (e0 : TypeId) (p1_0 : (List (List ((Int × Int) × Int)))) (x1 : (Int × Int)) : loopN (Fz12.LB1 fFz13 fuel cont) fuel (Fz12.emb1 e0 p1_0 x1) = iter (Fz12.B1 fFz13 p1_0 (fun x1 r1001 => cont .ret (Fz12.ex1_0 e0 p1_0 x1 r1001)) (fun x1 => cont (.exit 0) (Fz12.ex1_1 e0 p1_0 x1))) fuel x1 := loop_sim (fun rec x => Fz12.step1 fFz13 fuel cont e0 p1_0 rec x) fuel x1
noncomputable def Fz12.pf {α : Type} (fFz13 : Fz13.A → Option Fz13.B) (fuel : Nat) (a0 : (List (List ((Int × Int) × Int)))) (a1 : Int) (k : Int → Option α) : Option α :=
  cond (decide ((IntKind.i64.wrap (a1 - (((List.length a0) : Nat) : Int))) < (0 : Int))) (k (-1 : Int)) (iter (Fz12.B1 fFz13 a0 (fun (x1 : (Int × Int)) (r1001 : Int) => k (-1 : Int)) (fun (x1 : (Int × Int)) => k x1.1)) fuel (((IntKind.i64.wrap (a1 - (((List.length a0) : Nat) : Int))), (0 : Int))))
theorem Fz12.tail1 {α : Type} (fFz13 : Fz13.A → Option Fz13.B) (K : Res → Option α) (fuel : Nat) (e0 : TypeId) (a0 : (List (List ((Int × Int) × Int)))) (x1 : (Int × Int)) (r1001 : Int) : Fz12.C1 fFz13 K fuel .ret (Fz12.ex1_0 e0 a0 x1 r1001) = ((fun (k : Int → Option α) => k (-1 : Int)) (fun r => K (Fz12.enc 0 r))) := by kernel_rfl
theorem Fz12.tail2 {α : Type} (fFz13 : Fz13.A → Option Fz13.B) (K : Res → Option α) (fuel : Nat) (e0 : TypeId) (a0 : (List (List ((Int × Int) × Int)))) (x1 : (Int × Int)) : Fz12.C1 fFz13 K fuel (.exit 0) (Fz12.ex1_1 e0 a0 x1) = ((fun (k : Int → Option α) => k x1.1) (fun r => K (Fz12.enc 0 r))) := by kernel_rfl
theorem Fz12.red_raw {α : Type} (fFz13 : Fz13.A → Option Fz13.B) (K : Res → Option α) (fuel : Nat) (e0 : TypeId) (a0 : (List (List ((Int × Int) × Int)))) (a1 : Int) : run TT small (Fz12.tab fFz13) Try.f15 Fz12.ann [] fuel [.obj false ⟨e0, (.row 44 (.st (.pair (.st (.pair (.int .u8) (.int .i16))) (.int .i16)))), a0⟩, .val (.int .i64) a1] K = cond (decide ((IntKind.i64.wrap (a1 - (((List.length a0) : Nat) : Int))) < (0 : Int))) (K ⟨[.val (.int .i64) (-1 : Int)], []⟩) (loopN (Fz12.LB1 fFz13 fuel (Fz12.C1 fFz13 K fuel)) fuel (Fz12.emb1 e0 a0 (((IntKind.i64.wrap (a1 - (((List.length a0) : Nat) : Int))), (0 : Int))))) := by kernel_rfl
theorem Fz12.red {α : Type} (fFz13 : Fz13.A → Option Fz13.B) (K : Res → Option α) (fuel : Nat) (e0 : TypeId) (a0 : (List (List ((Int × Int) × Int)))) (a1 : Int) : run TT small (Fz12.tab fFz13) Try.f15 Fz12.ann [] fuel [.obj false ⟨e0, (.row 44 (.st (.pair (.st (.pair (.int .u8) (.int .i16))) (.int .i16)))), a0⟩, .val (.int .i64) a1] K = Fz12.pf fFz13 fuel a0 a1 (fun r => K (Fz12.enc 0 r)) := by
  rw [Fz12.red_raw]
  simp only [Fz12.loop1, Fz12.tail1, Fz12.tail2]
  all_goals kernel_rfl
theorem Fz12.sound (fFz13 : Fz13.A → Option Fz13.B) (hFz13 : Fz13.S fFz13) (f : Fz12.A → Option Fz12.B) (hf : ∀ x r, f x = some r → ∃ fuel, ∀ k : Fz12.B → Option Res, Fz12.pf fFz13 fuel x.1 x.2 k = k r) : Fz12.S f := by
  refine fn_sound (by kernel_rfl) (ttok _) (tab_sound [(47, Fz13.sig fFz13)] (List.forall_mem_cons.2 ⟨hFz13, fun p hp => nomatch hp⟩)) (fn := Try.f15) (by kernel_rfl) (by decide) (by decide) Fz12.ann [] _ rfl (fun avs r hr => ?_) (by kernel_rfl)
  obtain ⟨x, y, h1, h2, rfl⟩ := mkSig_run hr
  obtain ⟨e0, rfl⟩ := Fz12.dec_eq h1
  obtain ⟨fuel, hk⟩ := hf x y h2
  exact ⟨fuel, (Fz12.red fFz13 some fuel e0 x.1 x.2).trans (hk (fun r => some (Fz12.enc 0 r)))⟩
theorem Fz12.of_cl {fFz13 : Fz13.A → Option Fz13.B} (hFz13 : Fz13.S fFz13) {P : Fz12.A → Prop} {v : Fz12.A → Fz12.B} (hp : ∀ x, P x → ∀ k : Fz12.B → Option Res, Fz12.pf fFz13 BIG x.1 x.2 k = k (v x)) : Fz12.S (cl P v) := Fz12.sound _ hFz13 _ (fun x r hr => by obtain ⟨h1, rfl⟩ := cl_some hr; exact ⟨BIG, hp x h1⟩)
theorem Fz12.of_tot {fFz13 : Fz13.A → Option Fz13.B} (hFz13 : Fz13.S fFz13) {v : Fz12.A → Fz12.B} (hp : ∀ x, ∀ k : Fz12.B → Option Res, Fz12.pf fFz13 BIG x.1 x.2 k = k (v x)) : Fz12.S (tot v) := Fz12.sound _ hFz13 _ (fun x r hr => by obtain rfl := Option.some.inj hr; exact ⟨BIG, hp x⟩)
/-! 31 laws_toBottle -/
noncomputable def Fz14.tab : FuncId → Option Sig := tabOf []
noncomputable def Fz14.E : Env := ⟨TT, small, Fz14.tab , 0, 11⟩
def Fz14.ann : Ann := .nil
noncomputable def Fz14.pf {α : Type} (fuel : Nat) (a0 : (Int × Int)) (k : (Int × Int) → Option α) : Option α :=
  k (a0.1, a0.2)
theorem Fz14.red {α : Type} (K : Res → Option α) (fuel : Nat) (a0 : (Int × Int)) : run TT small Fz14.tab Try.f31 Fz14.ann [] fuel [.val (.st (.pair (.int .u8) (.int .i16))) a0] K = Fz14.pf fuel a0 (fun r => K (Fz14.enc 0 r)) := by kernel_rfl
theorem Fz14.sound (f : Fz14.A → Option Fz14.B) (hf : ∀ x r, f x = some r → ∃ fuel, ∀ k : Fz14.B → Option Res, Fz14.pf fuel x k = k r) : Fz14.S f := by
  refine fn_sound (by kernel_rfl) (ttok _) (tab_sound [] (fun p hp => nomatch hp)) (fn := Try.f31) (by kernel_rfl) (by decide) (by decide) Fz14.ann [] _ rfl (fun avs r hr => ?_) (by kernel_rfl)
  obtain ⟨x, y, h1, h2, rfl⟩ := mkSig_run hr
  obtain rfl := Fz14.dec_eq h1
  obtain ⟨fuel, hk⟩ := hf x y h2
  exact ⟨fuel, (Fz14.red some fuel x).trans (hk (fun r => some (Fz14.enc 0 r)))⟩
theorem Fz14.of_cl {P : Fz14.A → Prop} {v : Fz14.A → Fz14.B} (hp : ∀ x, P x → ∀ k : Fz14.B → Option Res, Fz14.pf BIG x k = k (v x)) : Fz14.S (cl P v) := Fz14.sound  _ (fun x r hr => by obtain ⟨h1, rfl⟩ := cl_some hr; exact ⟨BIG, hp x h1⟩)
theorem Fz14.of_tot {v : Fz14.A → Fz14.B} (hp : ∀ x, ∀ k : Fz14.B → Option Res, Fz14.pf BIG x k = k (v x)) : Fz14.S (tot v) := Fz14.sound  _ (fun x r hr => by obtain rfl := Option.some.inj hr; exact ⟨BIG, hp x⟩)
/-! 34 laws_toStored -/
noncomputable def Fz16.tab (fFz14 : Fz14.A → Option Fz14.B) : FuncId → Option Sig := tabOf [(31, Fz14.sig fFz14)]
noncomputable def Fz16.E (fFz14 : Fz14.A → Option Fz14.B) : Env := ⟨TT, small, Fz16.tab fFz14, 0, 12⟩
def Fz16.ann : Ann := .nil
noncomputable def Fz16.pf {α : Type} (fFz14 : Fz14.A → Option Fz14.B) (fuel : Nat) (a0 : ((Int × Int) × Int)) (k : ((Int × Int) × Int) → Option α) : Option α :=
  (fFz14 a0.1).bind fun r1 => k (r1, a0.2)
theorem Fz16.red {α : Type} (fFz14 : Fz14.A → Option Fz14.B) (K : Res → Option α) (fuel : Nat) (a0 : ((Int × Int) × Int)) : run TT small (Fz16.tab fFz14) Try.f34 Fz16.ann [] fuel [.val (.st (.pair (.st (.pair (.int .u8) (.int .i16))) (.int .i16))) a0] K = Fz16.pf fFz14 fuel a0 (fun r => K (Fz16.enc 0 r)) := by kernel_rfl
theorem Fz16.sound (fFz14 : Fz14.A → Option Fz14.B) (hFz14 : Fz14.S fFz14) (f : Fz16.A → Option Fz16.B) (hf : ∀ x r, f x = some r → ∃ fuel, ∀ k : Fz16.B → Option Res, Fz16.pf fFz14 fuel x k = k r) : Fz16.S f := by
  refine fn_sound (by kernel_rfl) (ttok _) (tab_sound [(31, Fz14.sig fFz14)] (List.forall_mem_cons.2 ⟨hFz14, fun p hp => nomatch hp⟩)) (fn := Try.f34) (by kernel_rfl) (by decide) (by decide) Fz16.ann [] _ rfl (fun avs r hr => ?_) (by kernel_rfl)
  obtain ⟨x, y, h1, h2, rfl⟩ := mkSig_run hr
  obtain rfl := Fz16.dec_eq h1
  obtain ⟨fuel, hk⟩ := hf x y h2
  exact ⟨fuel, (Fz16.red fFz14 some fuel x).trans (hk (fun r => some (Fz16.enc 0 r)))⟩
theorem Fz16.of_cl {fFz14 : Fz14.A → Option Fz14.B} (hFz14 : Fz14.S fFz14) {P : Fz16.A → Prop} {v : Fz16.A → Fz16.B} (hp : ∀ x, P x → ∀ k : Fz16.B → Option Res, Fz16.pf fFz14 BIG x k = k (v x)) : Fz16.S (cl P v) := Fz16.sound _ hFz14 _ (fun x r hr => by obtain ⟨h1, rfl⟩ := cl_some hr; exact ⟨BIG, hp x h1⟩)
theorem Fz16.of_tot {fFz14 : Fz14.A → Option Fz14.B} (hFz14 : Fz14.S fFz14) {v : Fz16.A → Fz16.B} (hp : ∀ x, ∀ k : Fz16.B → Option Res, Fz16.pf fFz14 BIG x k = k (v x)) : Fz16.S (tot v) := Fz16.sound _ hFz14 _ (fun x r hr => by obtain rfl := Option.some.inj hr; exact ⟨BIG, hp x⟩)
/-! 48 laws_toStoredS -/
noncomputable def Fz17.tab (fFz16 : Fz16.A → Option Fz16.B) : FuncId → Option Sig := tabOf [(34, Fz16.sig fFz16)]
noncomputable def Fz17.E (fFz16 : Fz16.A → Option Fz16.B) : Env := ⟨TT, small, Fz17.tab fFz16, 1, 23⟩
def Fz17.ann : Ann := (.two .nil (.two .nil (.two (.two .nil (.one (.loop [0, 3, 4] .nil))) .nil)))
noncomputable def Fz17.emb1 (e0 : TypeId) (p1_0 : (List ((Int × Int) × Int))) (x1 : (Int × (List ((Int × Int) × Int)))) : St := { slots := mkSlots 23 [(0, .sl 0 [] none), (3, .sl 47 [] none), (4, .val (.int .i64) x1.1)], objs := mkObjs 48 [(0, .dat ⟨e0, (.st (.pair (.st (.pair (.int .u8) (.int .i16))) (.int .i16))), p1_0, false, false, none⟩), (47, .dat ⟨47, (.st (.pair (.st (.pair (.int .u8) (.int .i16))) (.int .i16))), x1.2, true, true, none⟩)] }
noncomputable def Fz17.LB1 {α : Type} (fFz16 : Fz16.A → Option Fz16.B) (fuel : Nat) (cont : Ex → St → Option α) : (St → Option α) → St → Option α := roundV (Fz17.E fFz16) fuel [true, true, false, true, false] (bodyOf Try.f48) Fz17.ann cont
noncomputable def Fz17.C1 {α : Type} (fFz16 : Fz16.A → Option Fz16.B) (K : Res → Option α) (fuel : Nat) : Ex → St → Option α := contAt (Fz17.E fFz16) fuel [true, true, false, true, false] (bodyOf Try.f48) Fz17.ann [] (finK TT 1 [some 0] Try.f48 [] K)
noncomputable def Fz17.ex1_0 (e0 : TypeId) (p1_0 : (List ((Int × Int) × Int))) (x1 : (Int × (List ((Int × Int) × Int)))) : St := { slots := mkSlots 23 [(0, .sl 0 [] none), (3, .sl 47 [] none), (4, .val (.int .i64) x1.1), (8, .val (.int .i64) x1.1), (9, .sl 0 [] none), (10, .val (.int .i64) (((List.length p1_0) : Nat) : Int)), (11, .val .bool ((decide (x1.1 < (((List.length p1_0) : Nat) : Int)))))], objs := mkObjs 48 [(0, .dat ⟨e0, (.st (.pair (.st (.pair (.int .u8) (.int .i16))) (.int .i16))), p1_0, false, false, none⟩), (47, .dat ⟨47, (.st (.pair (.st (.pair (.int .u8) (.int .i16))) (.int .i16))), x1.2, true, true, none⟩)] }
noncomputable def Fz17.B1 {α : Type} (fFz16 : Fz16.A → Option Fz16.B) (p1_0 : (List ((Int × Int) × Int))) (K0 : (Int × (List ((Int × Int) × Int))) → Option α) (rec : (Int × (List ((Int × Int) × Int))) → Option α) (x1 : (Int × (List ((Int × Int) × Int)))) : Option α :=
  cond (decide (x1.1 < (((List.length p1_0) : Nat) : Int))) (cond (inB x1.1 (List.length p1_0)) ((fFz16 (List.getD p1_0 (x1.1 : Int).toNat (((0 : Int), (0 : Int)), (0 : Int)))).bind fun r1001 => cond (inB x1.1 (List.length x1.2)) (rec (((IntKind.i64.wrap (x1.1 + (1 : Int))), (List.set x1.2 (x1.1 : Int).toNat r1001)))) none) none) (K0 x1)
theorem Fz17.step1 {α : Type} (fFz16 : Fz16.A → Option Fz16.B) (fuel : Nat) (cont : Ex → St → Option α) (e0 : TypeId) (p1_0 : (List ((Int × Int) × Int))) (rec : St → Option α) (x1 : (Int × (List ((Int × Int) × Int)))) : Fz17.LB1 fFz16 fuel cont rec (Fz17.emb1 e0 p1_0 x1) = Fz17.B1 fFz16 p1_0 (fun x1 => cont (.exit 0) (Fz17.ex1_0 e0 p1_0 x1)) (fun y => rec (Fz17.emb1 e0 p1_0 y)) x1 := by kernel_rfl
theorem Fz17.loop1 {α : Type} (fFz16 : Fz16.A → Option Fz16.B) (fuel : Nat) (cont : Ex → St → Option α) (e0 : TypeId) (p1_0 : (List ((Int × Int) × Int))) (x1 : (Int × (List ((Int × Int) × Int)))) : loopN (Fz17.LB1 fFz16 fuel cont) fuel (Fz17.emb1 e0 p1_0 x1) = iter (Fz17.B1 fFz16 p1_0 (fun x1 => cont (.exit 0) (Fz17.ex1_0 e0 p1_0 x1))) fuel x1 := loop_sim (fun rec x => Fz17.step1 fFz16 fuel cont e0 p1_0 rec x) fuel x1
noncomputable def Fz17.pf {α : Type} (fFz16 : Fz16.A → Option Fz16.B) (fuel : Nat) (a0 : (List ((Int × Int) × Int))) (k : (List ((Int × Int) × Int)) → Option α) : Option α :=
  cond (inW (((List.length a0) : Nat) : Int) (((List.length a0) : Nat) : Int) LIM) (iter (Fz17.B1 fFz16 a0 (fun (x1 : (Int × (List ((Int × Int) × Int)))) => k x1.2)) fuel (((0 : Int), (List.replicate (((List.length a0) : Nat) : Int).toNat (((0 : Int), (0 : Int)), (0 : Int)))))) none
theorem Fz17.tail1 {α : Type} (fFz16 : Fz16.A → Option Fz16.B) (K : Res → Option α) (fuel : Nat) (e0 : TypeId) (a0 : (List ((Int × Int) × Int))) (x1 : (Int × (List ((Int × Int) × Int)))) : Fz17.C1 fFz16 K fuel (.exit 0) (Fz17.ex1_0 e0 a0 x1) = ((fun (k : (List ((Int × Int) × Int)) → Option α) => k x1.2) (fun r => K (Fz17.enc 0 r))) := by kernel_rfl
theorem Fz17.red_raw {α : Type} (fFz16 : Fz16.A → Option Fz16.B) (K : Res → Option α) (fuel : Nat) (e0 : TypeId) (a0 : (List ((Int × Int) × Int))) : run TT small (Fz17.tab fFz16) Try.f48 Fz17.ann [] fuel [.obj false ⟨e0, (.st (.pair (.st (.pair (.int .u8) (.int .i16))) (.int .i16))), a0⟩] K = cond (inW (((List.length a0) : Nat) : Int) (((List.length a0) : Nat) : Int) LIM) (loopN (Fz17.LB1 fFz16 fuel (Fz17.C1 fFz16 K fuel)) fuel (Fz17.emb1 e0 a0 (((0 : Int), (List.replicate (((List.length a0) : Nat) : Int).toNat (((0 : Int), (0 : Int)), (0 : Int))))))) none := by kernel_rfl
theorem Fz17.red {α : Type} (fFz16 : Fz16.A → Option Fz16.B) (K : Res → Option α) (fuel : Nat) (e0 : TypeId) (a0 : (List ((Int × Int) × Int))) : run TT small (Fz17.tab fFz16) Try.f48 Fz17.ann [] fuel [.obj false ⟨e0, (.st (.pair (.st (.pair (.int .u8) (.int .i16))) (.int .i16))), a0⟩] K = Fz17.pf fFz16 fuel a0 (fun r => K (Fz17.enc 0 r)) := by
  rw [Fz17.red_raw]
  simp only [Fz17.loop1, Fz17.tail1]
  all_goals kernel_rfl
theorem Fz17.sound (fFz16 : Fz16.A → Option Fz16.B) (hFz16 : Fz16.S fFz16) (f : Fz17.A → Option Fz17.B) (hf : ∀ x r, f x = some r → ∃ fuel, ∀ k : Fz17.B → Option Res, Fz17.pf fFz16 fuel x k = k r) : Fz17.S f := by
  refine fn_sound (by kernel_rfl) (ttok _) (tab_sound [(34, Fz16.sig fFz16)] (List.forall_mem_cons.2 ⟨hFz16, fun p hp => nomatch hp⟩)) (fn := Try.f48) (by kernel_rfl) (by decide) (by decide) Fz17.ann [] _ rfl (fun avs r hr => ?_) (by kernel_rfl)
  obtain ⟨x, y, h1, h2, rfl⟩ := mkSig_run hr
  obtain ⟨e0, rfl⟩ := Fz17.dec_eq h1
  obtain ⟨fuel, hk⟩ := hf x y h2
  exact ⟨fuel, (Fz17.red fFz16 some fuel e0 x).trans (hk (fun r => some (Fz17.enc 0 r)))⟩
theorem Fz17.of_cl {fFz16 : Fz16.A → Option Fz16.B} (hFz16 : Fz16.S fFz16) {P : Fz17.A → Prop} {v : Fz17.A → Fz17.B} (hp : ∀ x, P x → ∀ k : Fz17.B → Option Res, Fz17.pf fFz16 BIG x k = k (v x)) : Fz17.S (cl P v) := Fz17.sound _ hFz16 _ (fun x r hr => by obtain ⟨h1, rfl⟩ := cl_some hr; exact ⟨BIG, hp x h1⟩)
theorem Fz17.of_tot {fFz16 : Fz16.A → Option Fz16.B} (hFz16 : Fz16.S fFz16) {v : Fz17.A → Fz17.B} (hp : ∀ x, ∀ k : Fz17.B → Option Res, Fz17.pf fFz16 BIG x k = k (v x)) : Fz17.S (tot v) := Fz17.sound _ hFz16 _ (fun x r hr => by obtain rfl := Option.some.inj hr; exact ⟨BIG, hp x⟩)
/-! 17 laws_toRack -/
noncomputable def Fz15.tab (fFz17 : Fz17.A → Option Fz17.B) : FuncId → Option Sig := tabOf [(48, Fz17.sig fFz17)]
noncomputable def Fz15.E (fFz17 : Fz17.A → Option Fz17.B) : Env := ⟨TT, small, Fz15.tab fFz17, 1, 23⟩
def Fz15.ann : Ann := (.two .nil (.two .nil (.two (.two .nil (.one (.loop [0, 3, 4] .nil))) .nil)))
noncomputable def Fz15.emb1 (e0 : TypeId) (p1_0 : (List (List ((Int × Int) × Int)))) (x1 : (Int × (List (List ((Int × Int) × Int))))) : St := { slots := mkSlots 23 [(0, .sl 0 [] none), (3, .sl 47 [] none), (4, .val (.int .i64) x1.1)], objs := mkObjs 48 [(0, .dat ⟨e0, (.row 44 (.st (.pair (.st (.pair (.int .u8) (.int .i16))) (.int .i16)))), p1_0, false, false, none⟩), (47, .dat ⟨64, (.row 47 (.st (.pair (.st (.pair (.int .u8) (.int .i16))) (.int .i16)))), x1.2, true, true, none⟩)] }
noncomputable def Fz15.LB1 {α : Type} (fFz17 : Fz17.A → Option Fz17.B) (fuel : Nat) (cont : Ex → St → Option α) : (St → Option α) → St → Option α := roundV (Fz15.E fFz17) fuel [true, true, false, true, false] (bodyOf Try.f17) Fz15.ann cont
noncomputable def Fz15.C1 {α : Type} (fFz17 : Fz17.A → Option Fz17.B) (K : Res → Option α) (fuel : Nat) : Ex → St → Option α := contAt (Fz15.E fFz17) fuel [true, true, false, true, false] (bodyOf Try.f17) Fz15.ann [] (finK TT 1 [some 0] Try.f17 [] K)
noncomputable def Fz15.ex1_0 (e0 : TypeId) (p1_0 : (List (List ((Int × Int) × Int)))) (x1 : (Int × (List (List ((Int × Int) × Int))))) : St := { slots := mkSlots 23 [(0, .sl 0 [] none), (3, .sl 47 [] none), (4, .val (.int .i64) x1.1), (8, .val (.int .i64) x1.1), (9, .sl 0 [] none), (10, .val (.int .i64) (((List.length p1_0) : Nat) : Int)), (11, .val .bool ((decide (x1.1 < (((List.length p1_0) : Nat) : Int)))))], objs := mkObjs 48 [(0, .dat ⟨e0, (.row 44 (.st (.pair (.st (.pair (.int .u8) (.int .i16))) (.int .i16)))), p1_0, false, false, none⟩), (47, .dat ⟨64, (.row 47 (.st (.pair (.st (.pair (.int .u8) (.int .i16))) (.int .i16)))), x1.2, true, true, none⟩)] }
noncomputable def Fz15.B1 {α : Type} (fFz17 : Fz17.A → Option Fz17.B) (p1_0 : (List (List ((Int × Int) × Int)))) (K0 : (Int × (List (List ((Int × Int) × Int)))) → Option α) (rec : (Int × (List (List ((Int × Int) × Int)))) → Option α) (x1 : (Int × (List (List ((Int × Int) × Int))))) : Option α :=
  cond (decide (x1.1 < (((List.length p1_0) : Nat) : Int))) (cond (inB x1.1 (List.length p1_0)) ((fFz17 (List.getD p1_0 (x1.1 : Int).toNat ([] : List ((Int × Int) × Int)))).bind fun r1001 => cond (inB x1.1 (List.length x1.2)) (rec (((IntKind.i64.wrap (x1.1 + (1 : Int))), (List.set x1.2 (x1.1 : Int).toNat r1001)))) none) none) (K0 x1)
theorem Fz15.step1 {α : Type} (fFz17 : Fz17.A → Option Fz17.B) (fuel : Nat) (cont : Ex → St → Option α) (e0 : TypeId) (p1_0 : (List (List ((Int × Int) × Int)))) (rec : St → Option α) (x1 : (Int × (List (List ((Int × Int) × Int))))) : Fz15.LB1 fFz17 fuel cont rec (Fz15.emb1 e0 p1_0 x1) = Fz15.B1 fFz17 p1_0 (fun x1 => cont (.exit 0) (Fz15.ex1_0 e0 p1_0 x1)) (fun y => rec (Fz15.emb1 e0 p1_0 y)) x1 := by kernel_rfl
theorem Fz15.loop1 {α : Type} (fFz17 : Fz17.A → Option Fz17.B) (fuel : Nat) (cont : Ex → St → Option α) (e0 : TypeId) (p1_0 : (List (List ((Int × Int) × Int)))) (x1 : (Int × (List (List ((Int × Int) × Int))))) : loopN (Fz15.LB1 fFz17 fuel cont) fuel (Fz15.emb1 e0 p1_0 x1) = iter (Fz15.B1 fFz17 p1_0 (fun x1 => cont (.exit 0) (Fz15.ex1_0 e0 p1_0 x1))) fuel x1 := loop_sim (fun rec x => Fz15.step1 fFz17 fuel cont e0 p1_0 rec x) fuel x1
noncomputable def Fz15.pf {α : Type} (fFz17 : Fz17.A → Option Fz17.B) (fuel : Nat) (a0 : (List (List ((Int × Int) × Int)))) (k : (List (List ((Int × Int) × Int))) → Option α) : Option α :=
  cond (inW (((List.length a0) : Nat) : Int) (((List.length a0) : Nat) : Int) LIM) (iter (Fz15.B1 fFz17 a0 (fun (x1 : (Int × (List (List ((Int × Int) × Int))))) => k x1.2)) fuel (((0 : Int), (List.replicate (((List.length a0) : Nat) : Int).toNat ([] : List ((Int × Int) × Int)))))) none
theorem Fz15.tail1 {α : Type} (fFz17 : Fz17.A → Option Fz17.B) (K : Res → Option α) (fuel : Nat) (e0 : TypeId) (a0 : (List (List ((Int × Int) × Int)))) (x1 : (Int × (List (List ((Int × Int) × Int))))) : Fz15.C1 fFz17 K fuel (.exit 0) (Fz15.ex1_0 e0 a0 x1) = ((fun (k : (List (List ((Int × Int) × Int))) → Option α) => k x1.2) (fun r => K (Fz15.enc 0 r))) := by kernel_rfl
theorem Fz15.red_raw {α : Type} (fFz17 : Fz17.A → Option Fz17.B) (K : Res → Option α) (fuel : Nat) (e0 : TypeId) (a0 : (List (List ((Int × Int) × Int)))) : run TT small (Fz15.tab fFz17) Try.f17 Fz15.ann [] fuel [.obj false ⟨e0, (.row 44 (.st (.pair (.st (.pair (.int .u8) (.int .i16))) (.int .i16)))), a0⟩] K = cond (inW (((List.length a0) : Nat) : Int) (((List.length a0) : Nat) : Int) LIM) (loopN (Fz15.LB1 fFz17 fuel (Fz15.C1 fFz17 K fuel)) fuel (Fz15.emb1 e0 a0 (((0 : Int), (List.replicate (((List.length a0) : Nat) : Int).toNat ([] : List ((Int × Int) × Int))))))) none := by kernel_rfl
theorem Fz15.red {α : Type} (fFz17 : Fz17.A → Option Fz17.B) (K : Res → Option α) (fuel : Nat) (e0 : TypeId) (a0 : (List (List ((Int × Int) × Int)))) : run TT small (Fz15.tab fFz17) Try.f17 Fz15.ann [] fuel [.obj false ⟨e0, (.row 44 (.st (.pair (.st (.pair (.int .u8) (.int .i16))) (.int .i16)))), a0⟩] K = Fz15.pf fFz17 fuel a0 (fun r => K (Fz15.enc 0 r)) := by
  rw [Fz15.red_raw]
  simp only [Fz15.loop1, Fz15.tail1]
  all_goals kernel_rfl
theorem Fz15.sound (fFz17 : Fz17.A → Option Fz17.B) (hFz17 : Fz17.S fFz17) (f : Fz15.A → Option Fz15.B) (hf : ∀ x r, f x = some r → ∃ fuel, ∀ k : Fz15.B → Option Res, Fz15.pf fFz17 fuel x k = k r) : Fz15.S f := by
  refine fn_sound (by kernel_rfl) (ttok _) (tab_sound [(48, Fz17.sig fFz17)] (List.forall_mem_cons.2 ⟨hFz17, fun p hp => nomatch hp⟩)) (fn := Try.f17) (by kernel_rfl) (by decide) (by decide) Fz15.ann [] _ rfl (fun avs r hr => ?_) (by kernel_rfl)
  obtain ⟨x, y, h1, h2, rfl⟩ := mkSig_run hr
  obtain ⟨e0, rfl⟩ := Fz15.dec_eq h1
  obtain ⟨fuel, hk⟩ := hf x y h2
  exact ⟨fuel, (Fz15.red fFz17 some fuel e0 x).trans (hk (fun r => some (Fz15.enc 0 r)))⟩
theorem Fz15.of_cl {fFz17 : Fz17.A → Option Fz17.B} (hFz17 : Fz17.S fFz17) {P : Fz15.A → Prop} {v : Fz15.A → Fz15.B} (hp : ∀ x, P x → ∀ k : Fz15.B → Option Res, Fz15.pf fFz17 BIG x k = k (v x)) : Fz15.S (cl P v) := Fz15.sound _ hFz17 _ (fun x r hr => by obtain ⟨h1, rfl⟩ := cl_some hr; exact ⟨BIG, hp x h1⟩)
theorem Fz15.of_tot {fFz17 : Fz17.A → Option Fz17.B} (hFz17 : Fz17.S fFz17) {v : Fz15.A → Fz15.B} (hp : ∀ x, ∀ k : Fz15.B → Option Res, Fz15.pf fFz17 BIG x k = k (v x)) : Fz15.S (tot v) := Fz15.sound _ hFz17 _ (fun x r hr => by obtain rfl := Option.some.inj hr; exact ⟨BIG, hp x⟩)
/-! 90 spec_l00In -/
noncomputable def spec_l00In.tab : FuncId → Option Sig := tabOf []
noncomputable def spec_l00In.E : Env := ⟨TT, small, spec_l00In.tab , 0, 15⟩
def spec_l00In.ann : Ann := .nil
noncomputable def spec_l00In.pf {α : Type} (fuel : Nat) (a0 : Int) (a1 : Int) (a2 : Int) (k : Bool → Option α) : Option α :=
  cond (decide (a0 ≥ a1)) (k (decide (a0 ≤ a2))) (k false)
theorem spec_l00In.red {α : Type} (K : Res → Option α) (fuel : Nat) (a0 : Int) (a1 : Int) (a2 : Int) : run TT small spec_l00In.tab Try.f90 spec_l00In.ann [] fuel [.val (.int .i64) a0, .val (.int .i64) a1, .val (.int .i64) a2] K = spec_l00In.pf fuel a0 a1 a2 (fun r => K (spec_l00In.enc 0 r)) := by kernel_rfl
theorem spec_l00In.sound (f : spec_l00In.A → Option spec_l00In.B) (hf : ∀ x r, f x = some r → ∃ fuel, ∀ k : spec_l00In.B → Option Res, spec_l00In.pf fuel x.1 x.2.1 x.2.2 k = k r) : spec_l00In.S f := by
  refine fn_sound (by kernel_rfl) (ttok _) (tab_sound [] (fun p hp => nomatch hp)) (fn := Try.f90) (by kernel_rfl) (by decide) (by decide) spec_l00In.ann [] _ rfl (fun avs r hr => ?_) (by kernel_rfl)
  obtain ⟨x, y, h1, h2, rfl⟩ := mkSig_run hr
  obtain rfl := spec_l00In.dec_eq h1
  obtain ⟨fuel, hk⟩ := hf x y h2
  exact ⟨fuel, (spec_l00In.red some fuel x.1 x.2.1 x.2.2).trans (hk (fun r => some (spec_l00In.enc 0 r)))⟩
theorem spec_l00In.of_cl {P : spec_l00In.A → Prop} {v : spec_l00In.A → spec_l00In.B} (hp : ∀ x, P x → ∀ k : spec_l00In.B → Option Res, spec_l00In.pf BIG x.1 x.2.1 x.2.2 k = k (v x)) : spec_l00In.S (cl P v) := spec_l00In.sound  _ (fun x r hr => by obtain ⟨h1, rfl⟩ := cl_some hr; exact ⟨BIG, hp x h1⟩)
theorem spec_l00In.of_tot {v : spec_l00In.A → spec_l00In.B} (hp : ∀ x, ∀ k : spec_l00In.B → Option Res, spec_l00In.pf BIG x.1 x.2.1 x.2.2 k = k (v x)) : spec_l00In.S (tot v) := spec_l00In.sound  _ (fun x r hr => by obtain rfl := Option.some.inj hr; exact ⟨BIG, hp x⟩)
/-! 65 spec_l01Bottle -/
noncomputable def Fz26.tab (fspec_l00In : spec_l00In.A → Option spec_l00In.B) : FuncId → Option Sig := tabOf [(90, spec_l00In.sig fspec_l00In)]
noncomputable def Fz26.E (fspec_l00In : spec_l00In.A → Option spec_l00In.B) : Env := ⟨TT, small, Fz26.tab fspec_l00In, 0, 13⟩
def Fz26.ann : Ann := .nil
noncomputable def Fz26.pf {α : Type} (fspec_l00In : spec_l00In.A → Option spec_l00In.B) (fuel : Nat) (a0 : (Int × Int)) (k : Bool → Option α) : Option α :=
  (fspec_l00In ((IntKind.i64.wrap a0.1), (1 : Int), (20 : Int))).bind fun r1 => cond r1 ((fspec_l00In ((IntKind.i64.wrap a0.2), (1900 : Int), (2099 : Int))).bind fun r2 => k r2) (k false)
theorem Fz26.red {α : Type} (fspec_l00In : spec_l00In.A → Option spec_l00In.B) (K : Res → Option α) (fuel : Nat) (a0 : (Int × Int)) : run TT small (Fz26.tab fspec_l00In) Try.f65 Fz26.ann [] fuel [.val (.st (.pair (.int .u8) (.int .i16))) a0] K = Fz26.pf fspec_l00In fuel a0 (fun r => K (Fz26.enc 0 r)) := by kernel_rfl
theorem Fz26.sound (fspec_l00In : spec_l00In.A → Option spec_l00In.B) (hspec_l00In : spec_l00In.S fspec_l00In) (f : Fz26.A → Option Fz26.B) (hf : ∀ x r, f x = some r → ∃ fuel, ∀ k : Fz26.B → Option Res, Fz26.pf fspec_l00In fuel x k = k r) : Fz26.S f := by
  refine fn_sound (by kernel_rfl) (ttok _) (tab_sound [(90, spec_l00In.sig fspec_l00In)] (List.forall_mem_cons.2 ⟨hspec_l00In, fun p hp => nomatch hp⟩)) (fn := Try.f65) (by kernel_rfl) (by decide) (by decide) Fz26.ann [] _ rfl (fun avs r hr => ?_) (by kernel_rfl)
  obtain ⟨x, y, h1, h2, rfl⟩ := mkSig_run hr
  obtain rfl := Fz26.dec_eq h1
  obtain ⟨fuel, hk⟩ := hf x y h2
  exact ⟨fuel, (Fz26.red fspec_l00In some fuel x).trans (hk (fun r => some (Fz26.enc 0 r)))⟩
theorem Fz26.of_cl {fspec_l00In : spec_l00In.A → Option spec_l00In.B} (hspec_l00In : spec_l00In.S fspec_l00In) {P : Fz26.A → Prop} {v : Fz26.A → Fz26.B} (hp : ∀ x, P x → ∀ k : Fz26.B → Option Res, Fz26.pf fspec_l00In BIG x k = k (v x)) : Fz26.S (cl P v) := Fz26.sound _ hspec_l00In _ (fun x r hr => by obtain ⟨h1, rfl⟩ := cl_some hr; exact ⟨BIG, hp x h1⟩)
theorem Fz26.of_tot {fspec_l00In : spec_l00In.A → Option spec_l00In.B} (hspec_l00In : spec_l00In.S fspec_l00In) {v : Fz26.A → Fz26.B} (hp : ∀ x, ∀ k : Fz26.B → Option Res, Fz26.pf fspec_l00In BIG x k = k (v x)) : Fz26.S (tot v) := Fz26.sound _ hspec_l00In _ (fun x r hr => by obtain rfl := Option.some.inj hr; exact ⟨BIG, hp x⟩)
/-! 70 spec_l04Stored -/
noncomputable def Fz29.tab (fFz26 : Fz26.A → Option Fz26.B) (fspec_l00In : spec_l00In.A → Option spec_l00In.B) : FuncId → Option Sig := tabOf [(65, Fz26.sig fFz26), (90, spec_l00In.sig fspec_l00In)]
noncomputable def Fz29.E (fFz26 : Fz26.A → Option Fz26.B) (fspec_l00In : spec_l00In.A → Option spec_l00In.B) : Env := ⟨TT, small, Fz29.tab fFz26 fspec_l00In, 1, 16⟩
def Fz29.ann : Ann := .nil
noncomputable def Fz29.pf {α : Type} (fFz26 : Fz26.A → Option Fz26.B) (fspec_l00In : spec_l00In.A → Option spec_l00In.B) (fuel : Nat) (a0 : ((Int × Int) × Int)) (k : Bool → Option α) : Option α :=
  (fFz26 a0.1).bind fun r1 => cond r1 ((fspec_l00In ((IntKind.i64.wrap a0.2), (0 : Int), (2000 : Int))).bind fun r2 => k r2) (k false)
theorem Fz29.red {α : Type} (fFz26 : Fz26.A → Option Fz26.B) (fspec_l00In : spec_l00In.A → Option spec_l00In.B) (K : Res → Option α) (fuel : Nat) (e0 : TypeId) (a0 : ((Int × Int) × Int)) : run TT small (Fz29.tab fFz26 fspec_l00In) Try.f70 Fz29.ann [] fuel [.obj true ⟨e0, (.st (.pair (.st (.pair (.int .u8) (.int .i16))) (.int .i16))), [a0]⟩] K = Fz29.pf fFz26 fspec_l00In fuel a0 (fun r => K (Fz29.enc 0 r)) := by kernel_rfl
theorem Fz29.sound (fFz26 : Fz26.A → Option Fz26.B) (fspec_l00In : spec_l00In.A → Option spec_l00In.B) (hFz26 : Fz26.S fFz26) (hspec_l00In : spec_l00In.S fspec_l00In) (f : Fz29.A → Option Fz29.B) (hf : ∀ x r, f x = some r → ∃ fuel, ∀ k : Fz29.B → Option Res, Fz29.pf fFz26 fspec_l00In fuel x k = k r) : Fz29.S f := by
  refine fn_sound (by kernel_rfl) (ttok _) (tab_sound [(65, Fz26.sig fFz26), (90, spec_l00In.sig fspec_l00In)] (List.forall_mem_cons.2 ⟨hFz26, List.forall_mem_cons.2 ⟨hspec_l00In, fun p hp => nomatch hp⟩⟩)) (fn := Try.f70) (by kernel_rfl) (by decide) (by decide) Fz29.ann [] _ rfl (fun avs r hr => ?_) (by kernel_rfl)
  obtain ⟨x, y, h1, h2, rfl⟩ := mkSig_run hr
  obtain ⟨e0, rfl⟩ := Fz29.dec_eq h1
  obtain ⟨fuel, hk⟩ := hf x y h2
  exact ⟨fuel, (Fz29.red fFz26 fspec_l00In some fuel e0 x).trans (hk (fun r => some (Fz29.enc 0 r)))⟩
theorem Fz29.of_cl {fFz26 : Fz26.A → Option Fz26.B} {fspec_l00In : spec_l00In.A → Option spec_l00In.B} (hFz26 : Fz26.S fFz26) (hspec_l00In : spec_l00In.S fspec_l00In) {P : Fz29.A → Prop} {v : Fz29.A → Fz29.B} (hp : ∀ x, P x → ∀ k : Fz29.B → Option Res, Fz29.pf fFz26 fspec_l00In BIG x k = k (v x)) : Fz29.S (cl P v) := Fz29.sound _ _ hFz26 hspec_l00In _ (fun x r hr => by obtain ⟨h1, rfl⟩ := cl_some hr; exact ⟨BIG, hp x h1⟩)
theorem Fz29.of_tot {fFz26 : Fz26.A → Option Fz26.B} {fspec_l00In : spec_l00In.A → Option spec_l00In.B} (hFz26 : Fz26.S fFz26) (hspec_l00In : spec_l00In.S fspec_l00In) {v : Fz29.A → Fz29.B} (hp : ∀ x, ∀ k : Fz29.B → Option Res, Fz29.pf fFz26 fspec_l00In BIG x k = k (v x)) : Fz29.S (tot v) := Fz29.sound _ _ hFz26 hspec_l00In _ (fun x r hr => by obtain rfl := Option.some.inj hr; exact ⟨BIG, hp x⟩)
/-! 86 spec_l04All -/
noncomputable def Fz27.tab (fFz29 : Fz29.A → Option Fz29.B) : FuncId → Option Sig := tabOf [(70, Fz29.sig fFz29)]
noncomputable def Fz27.E (fFz29 : Fz29.A → Option Fz29.B) : Env := ⟨TT, small, Fz27.tab fFz29, 1, 15⟩
def Fz27.ann : Ann := (.two .nil (.two (.two .nil (.one (.loop [0, 3] .nil))) .nil))
noncomputable def Fz27.emb1 (e0 : TypeId) (p1_0 : (List ((Int × Int) × Int))) (x1 : Int) : St := { slots := mkSlots 15 [(0, .sl 0 [] none), (3, .val (.int .i64) x1)], objs := mkObjs 31 [(0, .dat ⟨e0, (.st (.pair (.st (.pair (.int .u8) (.int .i16))) (.int .i16))), p1_0, false, false, none⟩)] }
noncomputable def Fz27.LB1 {α : Type} (fFz29 : Fz29.A → Option Fz29.B) (fuel : Nat) (cont : Ex → St → Option α) : (St → Option α) → St → Option α := roundV (Fz27.E fFz29) fuel [true, false, true, false] (bodyOf Try.f86) Fz27.ann cont
noncomputable def Fz27.C1 {α : Type} (fFz29 : Fz29.A → Option Fz29.B) (K : Res → Option α) (fuel : Nat) : Ex → St → Option α := contAt (Fz27.E fFz29) fuel [true, false, true, false] (bodyOf Try.f86) Fz27.ann [] (finK TT 1 [some 0] Try.f86 [] K)
noncomputable def Fz27.ex1_0 (e0 : TypeId) (p1_0 : (List ((Int × Int) × Int))) (x1 : Int) (r1001 : Bool) : St := { slots := mkSlots 15 [(0, .sl 0 [] none), (2, .val .bool false), (3, .val (.int .i64) x1), (4, .val (.int .i64) x1), (5, .sl 0 [] none), (6, .val (.int .i64) (((List.length p1_0) : Nat) : Int)), (7, .val .bool ((decide (x1 < (((List.length p1_0) : Nat) : Int))))), (10, .sl 0 [] none), (11, .val (.int .i64) x1), (12, .ptr 0 [.idx (x1 : Int).toNat] false), (13, .val .bool r1001), (14, .val .bool (!r1001))], objs := mkObjs 31 [(0, .dat ⟨e0, (.st (.pair (.st (.pair (.int .u8) (.int .i16))) (.int .i16))), p1_0, false, false, none⟩)] }
noncomputable def Fz27.ex1_1 (e0 : TypeId) (p1_0 : (List ((Int × Int) × Int))) (x1 : Int) : St := { slots := mkSlots 15 [(0, .sl 0 [] none), (3, .val (.int .i64) x1), (4, .val (.int .i64) x1), (5, .sl 0 [] none), (6, .val (.int .i64) (((List.length p1_0) : Nat) : Int)), (7, .val .bool ((decide (x1 < (((List.length p1_0) : Nat) : Int)))))], objs := mkObjs 31 [(0, .dat ⟨e0, (.st (.pair (.st (.pair (.int .u8) (.int .i16))) (.int .i16))), p1_0, false, false, none⟩)] }
noncomputable def Fz27.B1 {α : Type} (fFz29 : Fz29.A → Option Fz29.B) (p1_0 : (List ((Int × Int) × Int))) (K0 : Int → Bool → Option α) (K1 : Int → Option α) (rec : Int → Option α) (x1 : Int) : Option α :=
  cond (decide (x1 < (((List.length p1_0) : Nat) : Int))) (cond (inB x1 (List.length p1_0)) ((fFz29 (List.getD p1_0 (x1 : Int).toNat (((0 : Int), (0 : Int)), (0 : Int)))).bind fun r1001 => cond (!r1001) (K0 x1 r1001) (rec (IntKind.i64.wrap (x1 + (1 : Int))))) none) (K1 x1)
theorem Fz27.step1 {α : Type} (fFz29 : Fz29.A → Option Fz29.B) (fuel : Nat) (cont : Ex → St → Option α) (e0 : TypeId) (p1_0 : (List ((Int × Int) × Int))) (rec : St → Option α) (x1 : Int) : Fz27.LB1 fFz29 fuel cont rec (Fz27.emb1 e0 p1_0 x1) = Fz27.B1 fFz29 p1_0 (fun x1 r1001 => cont .ret (Fz27.ex1_0 e0 p1_0 x1 r1001)) (fun x1 => cont (.exit 0) (Fz27.ex1_1 e0 p1_0 x1)) (fun y => rec (Fz27.emb1 e0 p1_0 y)) x1 := by kernel_rfl
theorem Fz27.loop1 {α : Type} (fFz29 : Fz29.A → Option Fz29.B) (fuel : Nat) (cont : Ex → St → Option α) (e0 : TypeId) (p1_0 : (List ((Int × Int) × Int))) (x1 : Int) : loopN (Fz27.LB1 fFz29 fuel cont) fuel (Fz27.emb1 e0 p1_0 x1) = iter (Fz27.B1 fFz29 p1_0 (fun x1 r1001 => cont .ret (Fz27.ex1_0 e0 p1_0 x1 r1001)) (fun x1 => cont (.exit 0) (Fz27.ex1_1 e0 p1_0 x1))) fuel x1 := loop_sim (fun rec x => Fz27.step1 fFz29 fuel cont e0 p1_0 rec x) fuel x1
noncomputable def Fz27.pf {α : Type} (fFz29 : Fz29.A → Option Fz29.B) (fuel : Nat) (a0 : (List ((Int × Int) × Int))) (k : Bool → Option α) : Option α :=
  iter (Fz27.B1 fFz29 a0 (fun (x1 : Int) (r1001 : Bool) => k false) (fun (x1 : Int) => k true)) fuel (0 : Int)
theorem Fz27.tail1 {α : Type} (fFz29 : Fz29.A → Option Fz29.B) (K : Res → Option α) (fuel : Nat) (e0 : TypeId) (a0 : (List ((Int × Int) × Int))) (x1 : Int) (r1001 : Bool) : Fz27.C1 fFz29 K fuel .ret (Fz27.ex1_0 e0 a0 x1 r1001) = ((fun (k : Bool → Option α) => k false) (fun r => K (Fz27.enc 0 r))) := by kernel_rfl
theorem Fz27.tail2 {α : Type} (fFz29 : Fz29.A → Option Fz29.B) (K : Res → Option α) (fuel : Nat) (e0 : TypeId) (a0 : (List ((Int × Int) × Int))) (x1 : Int) : Fz27.C1 fFz29 K fuel (.exit 0) (Fz27.ex1_1 e0 a0 x1) = ((fun (k : Bool → Option α) => k true) (fun r => K (Fz27.enc 0 r))) := by kernel_rfl
theorem Fz27.red_raw {α : Type} (fFz29 : Fz29.A → Option Fz29.B) (K : Res → Option α) (fuel : Nat) (e0 : TypeId) (a0 : (List ((Int × Int) × Int))) : run TT small (Fz27.tab fFz29) Try.f86 Fz27.ann [] fuel [.obj false ⟨e0, (.st (.pair (.st (.pair (.int .u8) (.int .i16))) (.int .i16))), a0⟩] K = loopN (Fz27.LB1 fFz29 fuel (Fz27.C1 fFz29 K fuel)) fuel (Fz27.emb1 e0 a0 (0 : Int)) := by kernel_rfl
theorem Fz27.red {α : Type} (fFz29 : Fz29.A → Option Fz29.B) (K : Res → Option α) (fuel : Nat) (e0 : TypeId) (a0 : (List ((Int × Int) × Int))) : run TT small (Fz27.tab fFz29) Try.f86 Fz27.ann [] fuel [.obj false ⟨e0, (.st (.pair (.st (.pair (.int .u8) (.int .i16))) (.int .i16))), a0⟩] K = Fz27.pf fFz29 fuel a0 (fun r => K (Fz27.enc 0 r)) := by
  rw [Fz27.red_raw]
  simp only [Fz27.loop1, Fz27.tail1, Fz27.tail2]
  all_goals kernel_rfl
theorem Fz27.sound (fFz29 : Fz29.A → Option Fz29.B) (hFz29 : Fz29.S fFz29) (f : Fz27.A → Option Fz27.B) (hf : ∀ x r, f x = some r → ∃ fuel, ∀ k : Fz27.B → Option Res, Fz27.pf fFz29 fuel x k = k r) : Fz27.S f := by
  refine fn_sound (by kernel_rfl) (ttok _) (tab_sound [(70, Fz29.sig fFz29)] (List.forall_mem_cons.2 ⟨hFz29, fun p hp => nomatch hp⟩)) (fn := Try.f86) (by kernel_rfl) (by decide) (by decide) Fz27.ann [] _ rfl (fun avs r hr => ?_) (by kernel_rfl)
  obtain ⟨x, y, h1, h2, rfl⟩ := mkSig_run hr
  obtain ⟨e0, rfl⟩ := Fz27.dec_eq h1
  obtain ⟨fuel, hk⟩ := hf x y h2
  exact ⟨fuel, (Fz27.red fFz29 some fuel e0 x).trans (hk (fun r => some (Fz27.enc 0 r)))⟩
theorem Fz27.of_cl {fFz29 : Fz29.A → Option Fz29.B} (hFz29 : Fz29.S fFz29) {P : Fz27.A → Prop} {v : Fz27.A → Fz27.B} (hp : ∀ x, P x → ∀ k : Fz27.B → Option Res, Fz27.pf fFz29 BIG x k = k (v x)) : Fz27.S (cl P v) := Fz27.sound _ hFz29 _ (fun x r hr => by obtain ⟨h1, rfl⟩ := cl_some hr; exact ⟨BIG, hp x h1⟩)
theorem Fz27.of_tot {fFz29 : Fz29.A → Option Fz29.B} (hFz29 : Fz29.S fFz29) {v : Fz27.A → Fz27.B} (hp : ∀ x, ∀ k : Fz27.B → Option Res, Fz27.pf fFz29 BIG x k = k (v x)) : Fz27.S (tot v) := Fz27.sound _ hFz29 _ (fun x r hr => by obtain rfl := Option.some.inj hr; exact ⟨BIG, hp x⟩)
/-! 52 spec_l04Ok -/
noncomputable def spec_l04Ok.tab (fFz27 : Fz27.A → Option Fz27.B) : FuncId → Option Sig := tabOf [(86, Fz27.sig fFz27)]
noncomputable def spec_l04Ok.E (fFz27 : Fz27.A → Option Fz27.B) : Env := ⟨TT, small, spec_l04Ok.tab fFz27, 1, 27⟩
def spec_l04Ok.ann : Ann := (.two .nil (.two (.two .nil (.one (.loop [0, 3] .nil))) .nil))
noncomputable def spec_l04Ok.emb1 (e0 : TypeId) (p1_0 : (List (List ((Int × Int) × Int)))) (x1 : Int) : St := { slots := mkSlots 27 [(0, .sl 0 [] none), (3, .val (.int .i64) x1)], objs := mkObjs 55 [(0, .dat ⟨e0, (.row 47 (.st (.pair (.st (.pair (.int .u8) (.int .i16))) (.int .i16)))), p1_0, false, false, none⟩)] }
noncomputable def spec_l04Ok.LB1 {α : Type} (fFz27 : Fz27.A → Option Fz27.B) (fuel : Nat) (cont : Ex → St → Option α) : (St → Option α) → St → Option α := roundV (spec_l04Ok.E fFz27) fuel [true, false, true, false] (bodyOf Try.f52) spec_l04Ok.ann cont
noncomputable def spec_l04Ok.C1 {α : Type} (fFz27 : Fz27.A → Option Fz27.B) (K : Res → Option α) (fuel : Nat) : Ex → St → Option α := contAt (spec_l04Ok.E fFz27) fuel [true, false, true, false] (bodyOf Try.f52) spec_l04Ok.ann [] (finK TT 1 [some 0] Try.f52 [] K)
noncomputable def spec_l04Ok.ex1_0 (e0 : TypeId) (p1_0 : (List (List ((Int × Int) × Int)))) (x1 : Int) : St := { slots := mkSlots 27 [(0, .sl 0 [] none), (2, .val .bool false), (3, .val (.int .i64) x1), (4, .val (.int .i64) x1), (5, .sl 0 [] none), (6, .val (.int .i64) (((List.length p1_0) : Nat) : Int)), (7, .val .bool ((decide (x1 < (((List.length p1_0) : Nat) : Int))))), (10, .sl 0 [] none), (11, .val (.int .i64) x1), (12, .ptr 0 [.idx (x1 : Int).toNat] false), (13, .sl 0 [.idx (x1 : Int).toNat] none), (14, .val (.int .i64) ((((List.length (List.getD p1_0 (x1 : Int).toNat ([] : List ((Int × Int) × Int)))) : Nat) : Int))), (15, .val .bool ((decide ((((List.length (List.getD p1_0 (x1 : Int).toNat ([] : List ((Int × Int) × Int)))) : Nat) : Int) > (6 : Int))))), (16, .val .bool true), (17, .tup []), (18, .tup []), (19, .tup []), (20, .tup []), (21, .tup []), (22, .tup []), (23, .val .bool true)], objs := mkObjs 55 [(0, .dat ⟨e0, (.row 47 (.st (.pair (.st (.pair (.int .u8) (.int .i16))) (.int .i16)))), p1_0, false, false, none⟩)] }
noncomputable def spec_l04Ok.ex1_1 (e0 : TypeId) (p1_0 : (List (List ((Int × Int) × Int)))) (x1 : Int) (r1001 : Bool) : St := { slots := mkSlots 27 [(0, .sl 0 [] none), (2, .val .bool false), (3, .val (.int .i64) x1), (4, .val (.int .i64) x1), (5, .sl 0 [] none), (6, .val (.int .i64) (((List.length p1_0) : Nat) : Int)), (7, .val .bool ((decide (x1 < (((List.length p1_0) : Nat) : Int))))), (10, .sl 0 [] none), (11, .val (.int .i64) x1), (12, .ptr 0 [.idx (x1 : Int).toNat] false), (13, .sl 0 [.idx (x1 : Int).toNat] none), (14, .val (.int .i64) ((((List.length (List.getD p1_0 (x1 : Int).toNat ([] : List ((Int × Int) × Int)))) : Nat) : Int))), (15, .val .bool ((decide ((((List.length (List.getD p1_0 (x1 : Int).toNat ([] : List ((Int × Int) × Int)))) : Nat) : Int) > (6 : Int))))), (16, .val .bool false), (17, .sl 0 [] none), (18, .val (.int .i64) x1), (19, .ptr 0 [.idx (x1 : Int).toNat] false), (20, .sl 0 [.idx (x1 : Int).toNat] none), (21, .val .bool r1001), (22, .val .bool (!r1001)), (23, .val .bool (!r1001))], objs := mkObjs 55 [(0, .dat ⟨e0, (.row 47 (.st (.pair (.st (.pair (.int .u8) (.int .i16))) (.int .i16)))), p1_0, false, false, none⟩)] }
noncomputable def spec_l04Ok.ex1_2 (e0 : TypeId) (p1_0 : (List (List ((Int × Int) × Int)))) (x1 : Int) : St := { slots := mkSlots 27 [(0, .sl 0 [] none), (3, .val (.int .i64) x1), (4, .val (.int .i64) x1), (5, .sl 0 [] none), (6, .val (.int .i64) (((List.length p1_0) : Nat) : Int)), (7, .val .bool ((decide (x1 < (((List.length p1_0) : Nat) : Int)))))], objs := mkObjs 55 [(0, .dat ⟨e0, (.row 47 (.st (.pair (.st (.pair (.int .u8) (.int .i16))) (.int .i16)))), p1_0, false, false, none⟩)] }
noncomputable def spec_l04Ok.B1 {α : Type} (fFz27 : Fz27.A → Option Fz27.B) (p1_0 : (List (List ((Int × Int) × Int)))) (K0 : Int → Option α) (K1 : Int → Bool → Option α) (K2 : Int → Option α) (rec : Int → Option α) (x1 : Int) : Option α :=
  cond (decide (x1 < (((List.length p1_0) : Nat) : Int))) (cond (inB x1 (List.length p1_0)) (cond (decide ((((List.length (List.getD p1_0 (x1 : Int).toNat ([] : List ((Int × Int) × Int)))) : Nat) : Int) > (6 : Int))) (K0 x1) (cond (inB x1 (List.length p1_0)) ((fFz27 (List.getD p1_0 (x1 : Int).toNat ([] : List ((Int × Int) × Int)))).bind fun r1001 => cond (!r1001) (K1 x1 r1001) (rec (IntKind.i64.wrap (x1 + (1 : Int))))) none)) none) (K2 x1)
theorem spec_l04Ok.step1 {α : Type} (fFz27 : Fz27.A → Option Fz27.B) (fuel : Nat) (cont : Ex → St → Option α) (e0 : TypeId) (p1_0 : (List (List ((Int × Int) × Int)))) (rec : St → Option α) (x1 : Int) : spec_l04Ok.LB1 fFz27 fuel cont rec (spec_l04Ok.emb1 e0 p1_0 x1) = spec_l04Ok.B1 fFz27 p1_0 (fun x1 => cont .ret (spec_l04Ok.ex1_0 e0 p1_0 x1)) (fun x1 r1001 => cont .ret (spec_l04Ok.ex1_1 e0 p1_0 x1 r1001)) (fun x1 => cont (.exit 0) (spec_l04Ok.ex1_2 e0 p1_0 x1)) (fun y => rec (spec_l04Ok.emb1 e0 p1_0 y)) x1 := by kernel_rfl
theorem spec_l04Ok.loop1 {α : Type} (fFz27 : Fz27.A → Option Fz27.B) (fuel : Nat) (cont : Ex → St → Option α) (e0 : TypeId) (p1_0 : (List (List ((Int × Int) × Int)))) (x1 : Int) : loopN (spec_l04Ok.LB1 fFz27 fuel cont) fuel (spec_l04Ok.emb1 e0 p1_0 x1) = iter (spec_l04Ok.B1 fFz27 p1_0 (fun x1 => cont .ret (spec_l04Ok.ex1_0 e0 p1_0 x1)) (fun x1 r1001 => cont .ret (spec_l04Ok.ex1_1 e0 p1_0 x1 r1001)) (fun x1 => cont (.exit 0) (spec_l04Ok.ex1_2 e0 p1_0 x1))) fuel x1 := loop_sim (fun rec x => spec_l04Ok.step1 fFz27 fuel cont e0 p1_0 rec x) fuel x1
noncomputable def spec_l04Ok.pf {α : Type} (fFz27 : Fz27.A → Option Fz27.B) (fuel : Nat) (a0 : (List (List ((Int × Int) × Int)))) (k : Bool → Option α) : Option α :=
  iter (spec_l04Ok.B1 fFz27 a0 (fun (x1 : Int) => k false) (fun (x1 : Int) (r1001 : Bool) => k false) (fun (x1 : Int) => k (decide ((((List.length a0) : Nat) : Int) ≤ (8 : Int))))) fuel (0 : Int)
theorem spec_l04Ok.tail1 {α : Type} (fFz27 : Fz27.A → Option Fz27.B) (K : Res → Option α) (fuel : Nat) (e0 : TypeId) (a0 : (List (List ((Int × Int) × Int)))) (x1 : Int) : spec_l04Ok.C1 fFz27 K fuel .ret (spec_l04Ok.ex1_0 e0 a0 x1) = ((fun (k : Bool → Option α) => k false) (fun r => K (spec_l04Ok.enc 0 r))) := by kernel_rfl
theorem spec_l04Ok.tail2 {α : Type} (fFz27 : Fz27.A → Option Fz27.B) (K : Res → Option α) (fuel : Nat) (e0 : TypeId) (a0 : (List (List ((Int × Int) × Int)))) (x1 : Int) (r1001 : Bool) : spec_l04Ok.C1 fFz27 K fuel .ret (spec_l04Ok.ex1_1 e0 a0 x1 r1001) = ((fun (k : Bool → Option α) => k false) (fun r => K (spec_l04Ok.enc 0 r))) := by kernel_rfl
theorem spec_l04Ok.tail3 {α : Type} (fFz27 : Fz27.A → Option Fz27.B) (K : Res → Option α) (fuel : Nat) (e0 : TypeId) (a0 : (List (List ((Int × Int) × Int)))) (x1 : Int) : spec_l04Ok.C1 fFz27 K fuel (.exit 0) (spec_l04Ok.ex1_2 e0 a0 x1) = ((fun (k : Bool → Option α) => k (decide ((((List.length a0) : Nat) : Int) ≤ (8 : Int)))) (fun r => K (spec_l04Ok.enc 0 r))) := by kernel_rfl
theorem spec_l04Ok.red_raw {α : Type} (fFz27 : Fz27.A → Option Fz27.B) (K : Res → Option α) (fuel : Nat) (e0 : TypeId) (a0 : (List (List ((Int × Int) × Int)))) : run TT small (spec_l04Ok.tab fFz27) Try.f52 spec_l04Ok.ann [] fuel [.obj false ⟨e0, (.row 47 (.st (.pair (.st (.pair (.int .u8) (.int .i16))) (.int .i16)))), a0⟩] K = loopN (spec_l04Ok.LB1 fFz27 fuel (spec_l04Ok.C1 fFz27 K fuel)) fuel (spec_l04Ok.emb1 e0 a0 (0 : Int)) := by kernel_rfl
theorem spec_l04Ok.red {α : Type} (fFz27 : Fz27.A → Option Fz27.B) (K : Res → Option α) (fuel : Nat) (e0 : TypeId) (a0 : (List (List ((Int × Int) × Int)))) : run TT small (spec_l04Ok.tab fFz27) Try.f52 spec_l04Ok.ann [] fuel [.obj false ⟨e0, (.row 47 (.st (.pair (.st (.pair (.int .u8) (.int .i16))) (.int .i16)))), a0⟩] K = spec_l04Ok.pf fFz27 fuel a0 (fun r => K (spec_l04Ok.enc 0 r)) := by
  rw [spec_l04Ok.red_raw]
  simp only [spec_l04Ok.loop1, spec_l04Ok.tail1, spec_l04Ok.tail2, spec_l04Ok.tail3]
  all_goals kernel_rfl
theorem spec_l04Ok.sound (fFz27 : Fz27.A → Option Fz27.B) (hFz27 : Fz27.S fFz27) (f : spec_l04Ok.A → Option spec_l04Ok.B) (hf : ∀ x r, f x = some r → ∃ fuel, ∀ k : spec_l04Ok.B → Option Res, spec_l04Ok.pf fFz27 fuel x k = k r) : spec_l04Ok.S f := by
  refine fn_sound (by kernel_rfl) (ttok _) (tab_sound [(86, Fz27.sig fFz27)] (List.forall_mem_cons.2 ⟨hFz27, fun p hp => nomatch hp⟩)) (fn := Try.f52) (by kernel_rfl) (by decide) (by decide) spec_l04Ok.ann [] _ rfl (fun avs r hr => ?_) (by kernel_rfl)
  obtain ⟨x, y, h1, h2, rfl⟩ := mkSig_run hr
  obtain ⟨e0, rfl⟩ := spec_l04Ok.dec_eq h1
  obtain ⟨fuel, hk⟩ := hf x y h2
  exact ⟨fuel, (spec_l04Ok.red fFz27 some fuel e0 x).trans (hk (fun r => some (spec_l04Ok.enc 0 r)))⟩
theorem spec_l04Ok.of_cl {fFz27 : Fz27.A → Option Fz27.B} (hFz27 : Fz27.S fFz27) {P : spec_l04Ok.A → Prop} {v : spec_l04Ok.A → spec_l04Ok.B} (hp : ∀ x, P x → ∀ k : spec_l04Ok.B → Option Res, spec_l04Ok.pf fFz27 BIG x k = k (v x)) : spec_l04Ok.S (cl P v) := spec_l04Ok.sound _ hFz27 _ (fun x r hr => by obtain ⟨h1, rfl⟩ := cl_some hr; exact ⟨BIG, hp x h1⟩)
theorem spec_l04Ok.of_tot {fFz27 : Fz27.A → Option Fz27.B} (hFz27 : Fz27.S fFz27) {v : spec_l04Ok.A → spec_l04Ok.B} (hp : ∀ x, ∀ k : spec_l04Ok.B → Option Res, spec_l04Ok.pf fFz27 BIG x k = k (v x)) : spec_l04Ok.S (tot v) := spec_l04Ok.sound _ hFz27 _ (fun x r hr => by obtain rfl := Option.some.inj hr; exact ⟨BIG, hp x⟩)
/-! 63 spec_l04Sum -/
noncomputable def Fz30.tab : FuncId → Option Sig := tabOf []
noncomputable def Fz30.E : Env := ⟨TT, small, Fz30.tab , 1, 19⟩
def Fz30.ann : Ann := (.two .nil (.two .nil (.two (.two .nil (.one (.loop [0, 3, 4] .nil))) .nil)))
noncomputable def Fz30.emb1 (e0 : TypeId) (p1_0 : (List (List ((Int × Int) × Int)))) (x1 : (Int × Int)) : St := { slots := mkSlots 19 [(0, .sl 0 [] none), (3, .val (.int .i64) x1.1), (4, .val (.int .i64) x1.2)], objs := mkObjs 39 [(0, .dat ⟨e0, (.row 47 (.st (.pair (.st (.pair (.int .u8) (.int .i16))) (.int .i16)))), p1_0, false, false, none⟩)] }
noncomputable def Fz30.LB1 {α : Type} (fuel : Nat) (cont : Ex → St → Option α) : (St → Option α) → St → Option α := roundV Fz30.E fuel [true, true, false, true, false] (bodyOf Try.f63) Fz30.ann cont
noncomputable def Fz30.C1 {α : Type} (K : Res → Option α) (fuel : Nat) : Ex → St → Option α := contAt Fz30.E fuel [true, true, false, true, false] (bodyOf Try.f63) Fz30.ann [] (finK TT 1 [some 0] Try.f63 [] K)
noncomputable def Fz30.ex1_0 (e0 : TypeId) (p1_0 : (List (List ((Int × Int) × Int)))) (x1 : (Int × Int)) : St := { slots := mkSlots 19 [(0, .sl 0 [] none), (3, .val (.int .i64) x1.1), (4, .val (.int .i64) x1.2), (5, .val (.int .i64) x1.2), (6, .sl 0 [] none), (7, .val (.int .i64) (((List.length p1_0) : Nat) : Int)), (8, .val .bool ((decide (x1.2 < (((List.length p1_0) : Nat) : Int)))))], objs := mkObjs 39 [(0, .dat ⟨e0, (.row 47 (.st (.pair (.st (.pair (.int .u8) (.int .i16))) (.int .i16)))), p1_0, false, false, none⟩)] }
noncomputable def Fz30.B1 {α : Type} (p1_0 : (List (List ((Int × Int) × Int)))) (K0 : (Int × Int) → Option α) (rec : (Int × Int) → Option α) (x1 : (Int × Int)) : Option α :=
  cond (decide (x1.2 < (((List.length p1_0) : Nat) : Int))) (cond (inB x1.2 (List.length p1_0)) (rec (((IntKind.i64.wrap (x1.1 + (((List.length (List.getD p1_0 (x1.2 : Int).toNat ([] : List ((Int × Int) × Int)))) : Nat) : Int))), (IntKind.i64.wrap (x1.2 + (1 : Int)))))) none) (K0 x1)
theorem Fz30.step1 {α : Type} (fuel : Nat) (cont : Ex → St → Option α) (e0 : TypeId) (p1_0 : (List (List ((Int × Int) × Int)))) (rec : St → Option α) (x1 : (Int × Int)) : Fz30.LB1 fuel cont rec (Fz30.emb1 e0 p1_0 x1) = Fz30.B1 p1_0 (fun x1 => cont (.exit 0) (Fz30.ex1_0 e0 p1_0 x1)) (fun y => rec (Fz30.emb1 e0 p1_0 y)) x1 := by kernel_rfl
theorem Fz30.loop1 {α : Type} (fuel : Nat) (cont : Ex → St → Option α) (e0 : TypeId) (p1_0 : (List (List ((Int × Int) × Int)))) (x1 : (Int × Int)) : loopN (Fz30.LB1 fuel cont) fuel (Fz30.emb1 e0 p1_0 x1) = iter (Fz30.B1 p1_0 (fun x1 => cont (.exit 0) (Fz30.ex1_0 e0 p1_0 x1))) fuel x1 := loop_sim (fun rec x => Fz30.step1 fuel cont e0 p1_0 rec x) fuel x1
noncomputable def Fz30.pf {α : Type} (fuel : Nat) (a0 : (List (List ((Int × Int) × Int)))) (k : Int → Option α) : Option α :=
  iter (Fz30.B1 a0 (fun (x1 : (Int × Int)) => k x1.1)) fuel ((0 : Int), (0 : Int))
theorem Fz30.tail1 {α : Type} (K : Res → Option α) (fuel : Nat) (e0 : TypeId) (a0 : (List (List ((Int × Int) × Int)))) (x1 : (Int × Int)) : Fz30.C1 K fuel (.exit 0) (Fz30.ex1_0 e0 a0 x1) = ((fun (k : Int → Option α) => k x1.1) (fun r => K (Fz30.enc 0 r))) := by kernel_rfl
theorem Fz30.red_raw {α : Type} (K : Res → Option α) (fuel : Nat) (e0 : TypeId) (a0 : (List (List ((Int × Int) × Int)))) : run TT small Fz30.tab Try.f63 Fz30.ann [] fuel [.obj false ⟨e0, (.row 47 (.st (.pair (.st (.pair (.int .u8) (.int .i16))) (.int .i16)))), a0⟩] K = loopN (Fz30.LB1 fuel (Fz30.C1 K fuel)) fuel (Fz30.emb1 e0 a0 ((0 : Int), (0 : Int))) := by kernel_rfl
theorem Fz30.red {α : Type} (K : Res → Option α) (fuel : Nat) (e0 : TypeId) (a0 : (List (List ((Int × Int) × Int)))) : run TT small Fz30.tab Try.f63 Fz30.ann [] fuel [.obj false ⟨e0, (.row 47 (.st (.pair (.st (.pair (.int .u8) (.int .i16))) (.int .i16)))), a0⟩] K = Fz30.pf fuel a0 (fun r => K (Fz30.enc 0 r)) := by
  rw [Fz30.red_raw]
  simp only [Fz30.loop1, Fz30.tail1]
  all_goals kernel_rfl
theorem Fz30.sound (f : Fz30.A → Option Fz30.B) (hf : ∀ x r, f x = some r → ∃ fuel, ∀ k : Fz30.B → Option Res, Fz30.pf fuel x k = k r) : Fz30.S f := by
  refine fn_sound (by kernel_rfl) (ttok _) (tab_sound [] (fun p hp => nomatch hp)) (fn := Try.f63) (by kernel_rfl) (by decide) (by decide) Fz30.ann [] _ rfl (fun avs r hr => ?_) (by kernel_rfl)
  obtain ⟨x, y, h1, h2, rfl⟩ := mkSig_run hr
  obtain ⟨e0, rfl⟩ := Fz30.dec_eq h1
  obtain ⟨fuel, hk⟩ := hf x y h2
  exact ⟨fuel, (Fz30.red some fuel e0 x).trans (hk (fun r => some (Fz30.enc 0 r)))⟩
theorem Fz30.of_cl {P : Fz30.A → Prop} {v : Fz30.A → Fz30.B} (hp : ∀ x, P x → ∀ k : Fz30.B → Option Res, Fz30.pf BIG x k = k (v x)) : Fz30.S (cl P v) := Fz30.sound  _ (fun x r hr => by obtain ⟨h1, rfl⟩ := cl_some hr; exact ⟨BIG, hp x h1⟩)
theorem Fz30.of_tot {v : Fz30.A → Fz30.B} (hp : ∀ x, ∀ k : Fz30.B → Option Res, Fz30.pf BIG x k = k (v x)) : Fz30.S (tot v) := Fz30.sound  _ (fun x r hr => by obtain rfl := Option.some.inj hr; exact ⟨BIG, hp x⟩)
/-! 28 spec_StoredIn -/
noncomputable def Fz24.tab (fspec_l04Ok : spec_l04Ok.A → Option spec_l04Ok.B) (fFz30 : Fz30.A → Option Fz30.B) : FuncId → Option Sig := tabOf [(52, spec_l04Ok.sig fspec_l04Ok), (63, Fz30.sig fFz30)]
noncomputable def Fz24.E (fspec_l04Ok : spec_l04Ok.A → Option spec_l04Ok.B) (fFz30 : Fz30.A → Option Fz30.B) : Env := ⟨TT, small, Fz24.tab fspec_l04Ok fFz30, 1, 9⟩
def Fz24.ann : Ann := .nil
noncomputable def Fz24.pf {α : Type} (fspec_l04Ok : spec_l04Ok.A → Option spec_l04Ok.B) (fFz30 : Fz30.A → Option Fz30.B) (fuel : Nat) (a0 : (List (List ((Int × Int) × Int)))) (k : (Int × Int) → Option α) : Option α :=
  (fspec_l04Ok a0).bind fun r1 => cond (!r1) (k ((0 : Int), (1 : Int))) ((fFz30 a0).bind fun r2 => k (r2, (0 : Int)))
theorem Fz24.red {α : Type} (fspec_l04Ok : spec_l04Ok.A → Option spec_l04Ok.B) (fFz30 : Fz30.A → Option Fz30.B) (K : Res → Option α) (fuel : Nat) (e0 : TypeId) (a0 : (List (List ((Int × Int) × Int)))) : run TT small (Fz24.tab fspec_l04Ok fFz30) Try.f28 Fz24.ann [] fuel [.obj false ⟨e0, (.row 47 (.st (.pair (.st (.pair (.int .u8) (.int .i16))) (.int .i16)))), a0⟩] K = Fz24.pf fspec_l04Ok fFz30 fuel a0 (fun r => K (Fz24.enc 0 r)) := by kernel_rfl
theorem Fz24.sound (fspec_l04Ok : spec_l04Ok.A → Option spec_l04Ok.B) (fFz30 : Fz30.A → Option Fz30.B) (hspec_l04Ok : spec_l04Ok.S fspec_l04Ok) (hFz30 : Fz30.S fFz30) (f : Fz24.A → Option Fz24.B) (hf : ∀ x r, f x = some r → ∃ fuel, ∀ k : Fz24.B → Option Res, Fz24.pf fspec_l04Ok fFz30 fuel x k = k r) : Fz24.S f := by
  refine fn_sound (by kernel_rfl) (ttok _) (tab_sound [(52, spec_l04Ok.sig fspec_l04Ok), (63, Fz30.sig fFz30)] (List.forall_mem_cons.2 ⟨hspec_l04Ok, List.forall_mem_cons.2 ⟨hFz30, fun p hp => nomatch hp⟩⟩)) (fn := Try.f28) (by kernel_rfl) (by decide) (by decide) Fz24.ann [] _ rfl (fun avs r hr => ?_) (by kernel_rfl)
  obtain ⟨x, y, h1, h2, rfl⟩ := mkSig_run hr
  obtain ⟨e0, rfl⟩ := Fz24.dec_eq h1
  obtain ⟨fuel, hk⟩ := hf x y h2
  exact ⟨fuel, (Fz24.red fspec_l04Ok fFz30 some fuel e0 x).trans (hk (fun r => some (Fz24.enc 0 r)))⟩
theorem Fz24.of_cl {fspec_l04Ok : spec_l04Ok.A → Option spec_l04Ok.B} {fFz30 : Fz30.A → Option Fz30.B} (hspec_l04Ok : spec_l04Ok.S fspec_l04Ok) (hFz30 : Fz30.S fFz30) {P : Fz24.A → Prop} {v : Fz24.A → Fz24.B} (hp : ∀ x, P x → ∀ k : Fz24.B → Option Res, Fz24.pf fspec_l04Ok fFz30 BIG x k = k (v x)) : Fz24.S (cl P v) := Fz24.sound _ _ hspec_l04Ok hFz30 _ (fun x r hr => by obtain ⟨h1, rfl⟩ := cl_some hr; exact ⟨BIG, hp x h1⟩)
theorem Fz24.of_tot {fspec_l04Ok : spec_l04Ok.A → Option spec_l04Ok.B} {fFz30 : Fz30.A → Option Fz30.B} (hspec_l04Ok : spec_l04Ok.S fspec_l04Ok) (hFz30 : Fz30.S fFz30) {v : Fz24.A → Fz24.B} (hp : ∀ x, ∀ k : Fz24.B → Option Res, Fz24.pf fspec_l04Ok fFz30 BIG x k = k (v x)) : Fz24.S (tot v) := Fz24.sound _ _ hspec_l04Ok hFz30 _ (fun x r hr => by obtain rfl := Option.some.inj hr; exact ⟨BIG, hp x⟩)
/-! 89 impl_within -/
noncomputable def Fz6.tab : FuncId → Option Sig := tabOf []
noncomputable def Fz6.E : Env := ⟨TT, small, Fz6.tab , 0, 15⟩
def Fz6.ann : Ann := .nil
noncomputable def Fz6.pf {α : Type} (fuel : Nat) (a0 : Int) (a1 : Int) (a2 : Int) (k : Bool → Option α) : Option α :=
  cond (decide (a1 ≤ a0)) (k (decide (a0 ≤ a2))) (k false)
theorem Fz6.red {α : Type} (K : Res → Option α) (fuel : Nat) (a0 : Int) (a1 : Int) (a2 : Int) : run TT small Fz6.tab Try.f89 Fz6.ann [] fuel [.val (.int .i64) a0, .val (.int .i64) a1, .val (.int .i64) a2] K = Fz6.pf fuel a0 a1 a2 (fun r => K (Fz6.enc 0 r)) := by kernel_rfl
theorem Fz6.sound (f : Fz6.A → Option Fz6.B) (hf : ∀ x r, f x = some r → ∃ fuel, ∀ k : Fz6.B → Option Res, Fz6.pf fuel x.1 x.2.1 x.2.2 k = k r) : Fz6.S f := by
  refine fn_sound (by kernel_rfl) (ttok _) (tab_sound [] (fun p hp => nomatch hp)) (fn := Try.f89) (by kernel_rfl) (by decide) (by decide) Fz6.ann [] _ rfl (fun avs r hr => ?_) (by kernel_rfl)
  obtain ⟨x, y, h1, h2, rfl⟩ := mkSig_run hr
  obtain rfl := Fz6.dec_eq h1
  obtain ⟨fuel, hk⟩ := hf x y h2
  exact ⟨fuel, (Fz6.red some fuel x.1 x.2.1 x.2.2).trans (hk (fun r => some (Fz6.enc 0 r)))⟩
theorem Fz6.of_cl {P : Fz6.A → Prop} {v : Fz6.A → Fz6.B} (hp : ∀ x, P x → ∀ k : Fz6.B → Option Res, Fz6.pf BIG x.1 x.2.1 x.2.2 k = k (v x)) : Fz6.S (cl P v) := Fz6.sound  _ (fun x r hr => by obtain ⟨h1, rfl⟩ := cl_some hr; exact ⟨BIG, hp x h1⟩)
theorem Fz6.of_tot {v : Fz6.A → Fz6.B} (hp : ∀ x, ∀ k : Fz6.B → Option Res, Fz6.pf BIG x.1 x.2.1 x.2.2 k = k (v x)) : Fz6.S (tot v) := Fz6.sound  _ (fun x r hr => by obtain rfl := Option.some.inj hr; exact ⟨BIG, hp x⟩)
/-! 67 impl_ValidBottle -/
noncomputable def Fz1.tab (fFz6 : Fz6.A → Option Fz6.B) : FuncId → Option Sig := tabOf [(89, Fz6.sig fFz6)]
noncomputable def Fz1.E (fFz6 : Fz6.A → Option Fz6.B) : Env := ⟨TT, small, Fz1.tab fFz6, 0, 13⟩
def Fz1.ann : Ann := .nil
noncomputable def Fz1.pf {α : Type} (fFz6 : Fz6.A → Option Fz6.B) (fuel : Nat) (a0 : (Int × Int)) (k : Bool → Option α) : Option α :=
  (fFz6 ((IntKind.i64.wrap a0.1), (1 : Int), (20 : Int))).bind fun r1 => cond r1 ((fFz6 ((IntKind.i64.wrap a0.2), (1900 : Int), (2099 : Int))).bind fun r2 => k r2) (k false)
theorem Fz1.red {α : Type} (fFz6 : Fz6.A → Option Fz6.B) (K : Res → Option α) (fuel : Nat) (a0 : (Int × Int)) : run TT small (Fz1.tab fFz6) Try.f67 Fz1.ann [] fuel [.val (.st (.pair (.int .u8) (.int .i16))) a0] K = Fz1.pf fFz6 fuel a0 (fun r => K (Fz1.enc 0 r)) := by kernel_rfl
theorem Fz1.sound (fFz6 : Fz6.A → Option Fz6.B) (hFz6 : Fz6.S fFz6) (f : Fz1.A → Option Fz1.B) (hf : ∀ x r, f x = some r → ∃ fuel, ∀ k : Fz1.B → Option Res, Fz1.pf fFz6 fuel x k = k r) : Fz1.S f := by
  refine fn_sound (by kernel_rfl) (ttok _) (tab_sound [(89, Fz6.sig fFz6)] (List.forall_mem_cons.2 ⟨hFz6, fun p hp => nomatch hp⟩)) (fn := Try.f67) (by kernel_rfl) (by decide) (by decide) Fz1.ann [] _ rfl (fun avs r hr => ?_) (by kernel_rfl)
  obtain ⟨x, y, h1, h2, rfl⟩ := mkSig_run hr
  obtain rfl := Fz1.dec_eq h1
  obtain ⟨fuel, hk⟩ := hf x y h2
  exact ⟨fuel, (Fz1.red fFz6 some fuel x).trans (hk (fun r => some (Fz1.enc 0 r)))⟩
theorem Fz1.of_cl {fFz6 : Fz6.A → Option Fz6.B} (hFz6 : Fz6.S fFz6) {P : Fz1.A → Prop} {v : Fz1.A → Fz1.B} (hp : ∀ x, P x → ∀ k : Fz1.B → Option Res, Fz1.pf fFz6 BIG x k = k (v x)) : Fz1.S (cl P v) := Fz1.sound _ hFz6 _ (fun x r hr => by obtain ⟨h1, rfl⟩ := cl_some hr; exact ⟨BIG, hp x h1⟩)
theorem Fz1.of_tot {fFz6 : Fz6.A → Option Fz6.B} (hFz6 : Fz6.S fFz6) {v : Fz1.A → Fz1.B} (hp : ∀ x, ∀ k : Fz1.B → Option Res, Fz1.pf fFz6 BIG x k = k (v x)) : Fz1.S (tot v) := Fz1.sound _ hFz6 _ (fun x r hr => by obtain rfl := Option.some.inj hr; exact ⟨BIG, hp x⟩)
/-! 57 impl_validStored -/
noncomputable def Fz5.tab (fFz1 : Fz1.A → Option Fz1.B) (fFz6 : Fz6.A → Option Fz6.B) : FuncId → Option Sig := tabOf [(67, Fz1.sig fFz1), (89, Fz6.sig fFz6)]
noncomputable def Fz5.E (fFz1 : Fz1.A → Option Fz1.B) (fFz6 : Fz6.A → Option Fz6.B) : Env := ⟨TT, small, Fz5.tab fFz1 fFz6, 0, 12⟩
def Fz5.ann : Ann := .nil
noncomputable def Fz5.pf {α : Type} (fFz1 : Fz1.A → Option Fz1.B) (fFz6 : Fz6.A → Option Fz6.B) (fuel : Nat) (a0 : ((Int × Int) × Int)) (k : Bool → Option α) : Option α :=
  (fFz1 a0.1).bind fun r1 => cond r1 ((fFz6 ((IntKind.i64.wrap a0.2), (0 : Int), (2000 : Int))).bind fun r2 => k r2) (k false)
theorem Fz5.red {α : Type} (fFz1 : Fz1.A → Option Fz1.B) (fFz6 : Fz6.A → Option Fz6.B) (K : Res → Option α) (fuel : Nat) (a0 : ((Int × Int) × Int)) : run TT small (Fz5.tab fFz1 fFz6) Try.f57 Fz5.ann [] fuel [.val (.st (.pair (.st (.pair (.int .u8) (.int .i16))) (.int .i16))) a0] K = Fz5.pf fFz1 fFz6 fuel a0 (fun r => K (Fz5.enc 0 r)) := by kernel_rfl
theorem Fz5.sound (fFz1 : Fz1.A → Option Fz1.B) (fFz6 : Fz6.A → Option Fz6.B) (hFz1 : Fz1.S fFz1) (hFz6 : Fz6.S fFz6) (f : Fz5.A → Option Fz5.B) (hf : ∀ x r, f x = some r → ∃ fuel, ∀ k : Fz5.B → Option Res, Fz5.pf fFz1 fFz6 fuel x k = k r) : Fz5.S f := by
  refine fn_sound (by kernel_rfl) (ttok _) (tab_sound [(67, Fz1.sig fFz1), (89, Fz6.sig fFz6)] (List.forall_mem_cons.2 ⟨hFz1, List.forall_mem_cons.2 ⟨hFz6, fun p hp => nomatch hp⟩⟩)) (fn := Try.f57) (by kernel_rfl) (by decide) (by decide) Fz5.ann [] _ rfl (fun avs r hr => ?_) (by kernel_rfl)
  obtain ⟨x, y, h1, h2, rfl⟩ := mkSig_run hr
  obtain rfl := Fz5.dec_eq h1
  obtain ⟨fuel, hk⟩ := hf x y h2
  exact ⟨fuel, (Fz5.red fFz1 fFz6 some fuel x).trans (hk (fun r => some (Fz5.enc 0 r)))⟩
theorem Fz5.of_cl {fFz1 : Fz1.A → Option Fz1.B} {fFz6 : Fz6.A → Option Fz6.B} (hFz1 : Fz1.S fFz1) (hFz6 : Fz6.S fFz6) {P : Fz5.A → Prop} {v : Fz5.A → Fz5.B} (hp : ∀ x, P x → ∀ k : Fz5.B → Option Res, Fz5.pf fFz1 fFz6 BIG x k = k (v x)) : Fz5.S (cl P v) := Fz5.sound _ _ hFz1 hFz6 _ (fun x r hr => by obtain ⟨h1, rfl⟩ := cl_some hr; exact ⟨BIG, hp x h1⟩)
theorem Fz5.of_tot {fFz1 : Fz1.A → Option Fz1.B} {fFz6 : Fz6.A → Option Fz6.B} (hFz1 : Fz1.S fFz1) (hFz6 : Fz6.S fFz6) {v : Fz5.A → Fz5.B} (hp : ∀ x, ∀ k : Fz5.B → Option Res, Fz5.pf fFz1 fFz6 BIG x k = k (v x)) : Fz5.S (tot v) := Fz5.sound _ _ hFz1 hFz6 _ (fun x r hr => by obtain rfl := Option.some.inj hr; exact ⟨BIG, hp x⟩)
/-! 56 impl_ValidRack_1_1 -/
noncomputable def Fz4.tab (fFz5 : Fz5.A → Option Fz5.B) : FuncId → Option Sig := tabOf [(57, Fz5.sig fFz5)]
noncomputable def Fz4.E (fFz5 : Fz5.A → Option Fz5.B) : Env := ⟨TT, small, Fz4.tab fFz5, 0, 6⟩
def Fz4.ann : Ann := .nil
noncomputable def Fz4.pf {α : Type} (fFz5 : Fz5.A → Option Fz5.B) (fuel : Nat) (a0 : ((Int × Int) × Int)) (k : Bool → Option α) : Option α :=
  (fFz5 a0).bind fun r1 => k (!r1)
theorem Fz4.red {α : Type} (fFz5 : Fz5.A → Option Fz5.B) (K : Res → Option α) (fuel : Nat) (a0 : ((Int × Int) × Int)) : run TT small (Fz4.tab fFz5) Try.f56 Fz4.ann [] fuel [.val (.st (.pair (.st (.pair (.int .u8) (.int .i16))) (.int .i16))) a0] K = Fz4.pf fFz5 fuel a0 (fun r => K (Fz4.enc 0 r)) := by kernel_rfl
theorem Fz4.sound (fFz5 : Fz5.A → Option Fz5.B) (hFz5 : Fz5.S fFz5) (f : Fz4.A → Option Fz4.B) (hf : ∀ x r, f x = some r → ∃ fuel, ∀ k : Fz4.B → Option Res, Fz4.pf fFz5 fuel x k = k r) : Fz4.S f := by
  refine fn_sound (by kernel_rfl) (ttok _) (tab_sound [(57, Fz5.sig fFz5)] (List.forall_mem_cons.2 ⟨hFz5, fun p hp => nomatch hp⟩)) (fn := Try.f56) (by kernel_rfl) (by decide) (by decide) Fz4.ann [] _ rfl (fun avs r hr => ?_) (by kernel_rfl)
  obtain ⟨x, y, h1, h2, rfl⟩ := mkSig_run hr
  obtain rfl := Fz4.dec_eq h1
  obtain ⟨fuel, hk⟩ := hf x y h2
  exact ⟨fuel, (Fz4.red fFz5 some fuel x).trans (hk (fun r => some (Fz4.enc 0 r)))⟩
theorem Fz4.of_cl {fFz5 : Fz5.A → Option Fz5.B} (hFz5 : Fz5.S fFz5) {P : Fz4.A → Prop} {v : Fz4.A → Fz4.B} (hp : ∀ x, P x → ∀ k : Fz4.B → Option Res, Fz4.pf fFz5 BIG x k = k (v x)) : Fz4.S (cl P v) := Fz4.sound _ hFz5 _ (fun x r hr => by obtain ⟨h1, rfl⟩ := cl_some hr; exact ⟨BIG, hp x h1⟩)
theorem Fz4.of_tot {fFz5 : Fz5.A → Option Fz5.B} (hFz5 : Fz5.S fFz5) {v : Fz4.A → Fz4.B} (hp : ∀ x, ∀ k : Fz4.B → Option Res, Fz4.pf fFz5 BIG x k = k (v x)) : Fz4.S (tot v) := Fz4.sound _ hFz5 _ (fun x r hr => by obtain rfl := Option.some.inj hr; exact ⟨BIG, hp x⟩)
/-! 88 slices_IndexFunc_impl_Stored_impl_Stored__impl_ValidRack_1_1 -/
noncomputable def Fz23.tab (fFz4 : Fz4.A → Option Fz4.B) : FuncId → Option Sig := tabOf [(56, Fz4.sig fFz4)]
noncomputable def Fz23.E (fFz4 : Fz4.A → Option Fz4.B) : Env := ⟨TT, small, Fz23.tab fFz4, 1, 19⟩
def Fz23.ann : Ann := (.two .nil (.two (.two .nil (.one (.loop [0, 1, 7, 8] .nil))) .nil))
noncomputable def Fz23.emb1 (e0 : TypeId) (p1_0 : Int) (p1_1 : (List ((Int × Int) × Int))) (x1 : Int) : St := { slots := mkSlots 19 [(0, .sl 0 [] none), (1, .fn 56 []), (7, .val (.int .i64) p1_0), (8, .val (.int .i64) x1)], objs := mkObjs 39 [(0, .dat ⟨e0, (.st (.pair (.st (.pair (.int .u8) (.int .i16))) (.int .i16))), p1_1, false, false, none⟩)] }
noncomputable def Fz23.LB1 {α : Type} (fFz4 : Fz4.A → Option Fz4.B) (fuel : Nat) (cont : Ex → St → Option α) : (St → Option α) → St → Option α := roundV (Fz23.E fFz4) fuel [true, false, true, false] (bodyOf Try.f88) Fz23.ann cont
noncomputable def Fz23.C1 {α : Type} (fFz4 : Fz4.A → Option Fz4.B) (K : Res → Option α) (fuel : Nat) : Ex → St → Option α := contAt (Fz23.E fFz4) fuel [true, false, true, false] (bodyOf Try.f88) Fz23.ann [] (finK TT 1 [some 0, none] Try.f88 [] K)
noncomputable def Fz23.ex1_0 (e0 : TypeId) (p1_0 : Int) (p1_1 : (List ((Int × Int) × Int))) (x1 : Int) (r1001 : Bool) : St := { slots := mkSlots 19 [(0, .sl 0 [] none), (1, .fn 56 []), (4, .val (.int .i64) x1), (5, .val (.int .i64) x1), (7, .val (.int .i64) p1_0), (8, .val (.int .i64) x1), (9, .val .bool (decide (x1 < p1_0))), (10, .val (.int .i64) x1), (11, .fn 56 []), (12, .sl 0 [] none), (13, .val (.int .i64) x1), (14, .ptr 0 [.idx (x1 : Int).toNat] false), (15, .val (.st (.pair (.st (.pair (.int .u8) (.int .i16))) (.int .i16))) ((List.getD p1_1 (x1 : Int).toNat (((0 : Int), (0 : Int)), (0 : Int))))), (16, .val .bool r1001), (17, .val (.int .i64) x1)], objs := mkObjs 39 [(0, .dat ⟨e0, (.st (.pair (.st (.pair (.int .u8) (.int .i16))) (.int .i16))), p1_1, false, false, none⟩)] }
noncomputable def Fz23.ex1_1 (e0 : TypeId) (p1_0 : Int) (p1_1 : (List ((Int × Int) × Int))) (x1 : Int) : St := { slots := mkSlots 19 [(0, .sl 0 [] none), (1, .fn 56 []), (7, .val (.int .i64) p1_0), (8, .val (.int .i64) x1), (9, .val .bool (decide (x1 < p1_0)))], objs := mkObjs 39 [(0, .dat ⟨e0, (.st (.pair (.st (.pair (.int .u8) (.int .i16))) (.int .i16))), p1_1, false, false, none⟩)] }
noncomputable def Fz23.B1 {α : Type} (fFz4 : Fz4.A → Option Fz4.B) (p1_0 : Int) (p1_1 : (List ((Int × Int) × Int))) (K0 : Int → Bool → Option α) (K1 : Int → Option α) (rec : Int → Option α) (x1 : Int) : Option α :=
  cond (decide (x1 < p1_0)) (cond (inB x1 (List.length p1_1)) ((fFz4 (List.getD p1_1 (x1 : Int).toNat (((0 : Int), (0 : Int)), (0 : Int)))).bind fun r1001 => cond r1001 (K0 x1 r1001) (rec (IntKind.i64.wrap (x1 + (1 : Int))))) none) (K1 x1)
theorem Fz23.step1 {α : Type} (fFz4 : Fz4.A → Option Fz4.B) (fuel : Nat) (cont : Ex → St → Option α) (e0 : TypeId) (p1_0 : Int) (p1_1 : (List ((Int × Int) × Int))) (rec : St → Option α) (x1 : Int) : Fz23.LB1 fFz4 fuel cont rec (Fz23.emb1 e0 p1_0 p1_1 x1) = Fz23.B1 fFz4 p1_0 p1_1 (fun x1 r1001 => cont .ret (Fz23.ex1_0 e0 p1_0 p1_1 x1 r1001)) (fun x1 => cont (.exit 0) (Fz23.ex1_1 e0 p1_0 p1_1 x1)) (fun y => rec (Fz23.emb1 e0 p1_0 p1_1 y)) x1 := by kernel_rfl
theorem Fz23.loop1 {α : Type} (fFz4 : Fz4.A → Option Fz4.B) (fuel : Nat) (cont : Ex → St → Option α) (e0 : TypeId) (p1_0 : Int) (p1_1 : (List ((Int × Int) × Int))) (x1 : Int) : loopN (Fz23.LB1 fFz4 fuel cont) fuel (Fz23.emb1 e0 p1_0 p1_1 x1) = iter (Fz23.B1 fFz4 p1_0 p1_1 (fun x1 r1001 => cont .ret (Fz23.ex1_0 e0 p1_0 p1_1 x1 r1001)) (fun x1 => cont (.exit 0) (Fz23.ex1_1 e0 p1_0 p1_1 x1))) fuel x1 := loop_sim (fun rec x => Fz23.step1 fFz4 fuel cont e0 p1_0 p1_1 rec x) fuel x1
noncomputable def Fz23.pf {α : Type} (fFz4 : Fz4.A → Option Fz4.B) (fuel : Nat) (a0 : (List ((Int × Int) × Int))) (k : Int → Option α) : Option α :=
  iter (Fz23.B1 fFz4 (((List.length a0) : Nat) : Int) a0 (fun (x1 : Int) (r1001 : Bool) => k x1) (fun (x1 : Int) => k (-1 : Int))) fuel (0 : Int)
theorem Fz23.tail1 {α : Type} (fFz4 : Fz4.A → Option Fz4.B) (K : Res → Option α) (fuel : Nat) (e0 : TypeId) (a0 : (List ((Int × Int) × Int))) (x1 : Int) (r1001 : Bool) : Fz23.C1 fFz4 K fuel .ret (Fz23.ex1_0 e0 (((List.length a0) : Nat) : Int) a0 x1 r1001) = ((fun (k : Int → Option α) => k x1) (fun r => K (Fz23.enc 0 r))) := by kernel_rfl
theorem Fz23.tail2 {α : Type} (fFz4 : Fz4.A → Option Fz4.B) (K : Res → Option α) (fuel : Nat) (e0 : TypeId) (a0 : (List ((Int × Int) × Int))) (x1 : Int) : Fz23.C1 fFz4 K fuel (.exit 0) (Fz23.ex1_1 e0 (((List.length a0) : Nat) : Int) a0 x1) = ((fun (k : Int → Option α) => k (-1 : Int)) (fun r => K (Fz23.enc 0 r))) := by kernel_rfl
theorem Fz23.red_raw {α : Type} (fFz4 : Fz4.A → Option Fz4.B) (K : Res → Option α) (fuel : Nat) (e0 : TypeId) (a0 : (List ((Int × Int) × Int))) : run TT small (Fz23.tab fFz4) Try.f88 Fz23.ann [] fuel [.obj false ⟨e0, (.st (.pair (.st (.pair (.int .u8) (.int .i16))) (.int .i16))), a0⟩, .fn 56 []] K = loopN (Fz23.LB1 fFz4 fuel (Fz23.C1 fFz4 K fuel)) fuel (Fz23.emb1 e0 (((List.length a0) : Nat) : Int) a0 (0 : Int)) := by kernel_rfl
theorem Fz23.red {α : Type} (fFz4 : Fz4.A → Option Fz4.B) (K : Res → Option α) (fuel : Nat) (e0 : TypeId) (a0 : (List ((Int × Int) × Int))) : run TT small (Fz23.tab fFz4) Try.f88 Fz23.ann [] fuel [.obj false ⟨e0, (.st (.pair (.st (.pair (.int .u8) (.int .i16))) (.int .i16))), a0⟩, .fn 56 []] K = Fz23.pf fFz4 fuel a0 (fun r => K (Fz23.enc 0 r)) := by
  rw [Fz23.red_raw]
  simp only [Fz23.loop1, Fz23.tail1, Fz23.tail2]
  all_goals kernel_rfl
theorem Fz23.sound (fFz4 : Fz4.A → Option Fz4.B) (hFz4 : Fz4.S fFz4) (f : Fz23.A → Option Fz23.B) (hf : ∀ x r, f x = some r → ∃ fuel, ∀ k : Fz23.B → Option Res, Fz23.pf fFz4 fuel x k = k r) : Fz23.S f := by
  refine fn_sound (by kernel_rfl) (ttok _) (tab_sound [(56, Fz4.sig fFz4)] (List.forall_mem_cons.2 ⟨hFz4, fun p hp => nomatch hp⟩)) (fn := Try.f88) (by kernel_rfl) (by decide) (by decide) Fz23.ann [] _ rfl (fun avs r hr => ?_) (by kernel_rfl)
  obtain ⟨x, y, h1, h2, rfl⟩ := mkSig_run hr
  obtain ⟨e0, rfl⟩ := Fz23.dec_eq h1
  obtain ⟨fuel, hk⟩ := hf x y h2
  exact ⟨fuel, (Fz23.red fFz4 some fuel e0 x).trans (hk (fun r => some (Fz23.enc 0 r)))⟩
theorem Fz23.of_cl {fFz4 : Fz4.A → Option Fz4.B} (hFz4 : Fz4.S fFz4) {P : Fz23.A → Prop} {v : Fz23.A → Fz23.B} (hp : ∀ x, P x → ∀ k : Fz23.B → Option Res, Fz23.pf fFz4 BIG x k = k (v x)) : Fz23.S (cl P v) := Fz23.sound _ hFz4 _ (fun x r hr => by obtain ⟨h1, rfl⟩ := cl_some hr; exact ⟨BIG, hp x h1⟩)
theorem Fz23.of_tot {fFz4 : Fz4.A → Option Fz4.B} (hFz4 : Fz4.S fFz4) {v : Fz23.A → Fz23.B} (hp : ∀ x, ∀ k : Fz23.B → Option Res, Fz23.pf fFz4 BIG x k = k (v x)) : Fz23.S (tot v) := Fz23.sound _ hFz4 _ (fun x r hr => by obtain rfl := Option.some.inj hr; exact ⟨BIG, hp x⟩)
/-! 55 slices_ContainsFunc_impl_Stored_impl_Stored__impl_ValidRack_1_1 -/
noncomputable def Fz20.tab (fFz23 : Fz23.A → Option Fz23.B) : FuncId → Option Sig := tabOf [(88, Fz23.sig fFz23)]
noncomputable def Fz20.E (fFz23 : Fz23.A → Option Fz23.B) : Env := ⟨TT, small, Fz20.tab fFz23, 1, 9⟩
def Fz20.ann : Ann := .nil
noncomputable def Fz20.pf {α : Type} (fFz23 : Fz23.A → Option Fz23.B) (fuel : Nat) (a0 : (List ((Int × Int) × Int))) (k : Bool → Option α) : Option α :=
  (fFz23 a0).bind fun r1 => k (decide (r1 ≥ (0 : Int)))
theorem Fz20.red {α : Type} (fFz23 : Fz23.A → Option Fz23.B) (K : Res → Option α) (fuel : Nat) (e0 : TypeId) (a0 : (List ((Int × Int) × Int))) : run TT small (Fz20.tab fFz23) Try.f55 Fz20.ann [] fuel [.obj false ⟨e0, (.st (.pair (.st (.pair (.int .u8) (.int .i16))) (.int .i16))), a0⟩, .fn 56 []] K = Fz20.pf fFz23 fuel a0 (fun r => K (Fz20.enc 0 r)) := by kernel_rfl
theorem Fz20.sound (fFz23 : Fz23.A → Option Fz23.B) (hFz23 : Fz23.S fFz23) (f : Fz20.A → Option Fz20.B) (hf : ∀ x r, f x = some r → ∃ fuel, ∀ k : Fz20.B → Option Res, Fz20.pf fFz23 fuel x k = k r) : Fz20.S f := by
  refine fn_sound (by kernel_rfl) (ttok _) (tab_sound [(88, Fz23.sig fFz23)] (List.forall_mem_cons.2 ⟨hFz23, fun p hp => nomatch hp⟩)) (fn := Try.f55) (by kernel_rfl) (by decide) (by decide) Fz20.ann [] _ rfl (fun avs r hr => ?_) (by kernel_rfl)
  obtain ⟨x, y, h1, h2, rfl⟩ := mkSig_run hr
  obtain ⟨e0, rfl⟩ := Fz20.dec_eq h1
  obtain ⟨fuel, hk⟩ := hf x y h2
  exact ⟨fuel, (Fz20.red fFz23 some fuel e0 x).trans (hk (fun r => some (Fz20.enc 0 r)))⟩
theorem Fz20.of_cl {fFz23 : Fz23.A → Option Fz23.B} (hFz23 : Fz23.S fFz23) {P : Fz20.A → Prop} {v : Fz20.A → Fz20.B} (hp : ∀ x, P x → ∀ k : Fz20.B → Option Res, Fz20.pf fFz23 BIG x k = k (v x)) : Fz20.S (cl P v) := Fz20.sound _ hFz23 _ (fun x r hr => by obtain ⟨h1, rfl⟩ := cl_some hr; exact ⟨BIG, hp x h1⟩)
theorem Fz20.of_tot {fFz23 : Fz23.A → Option Fz23.B} (hFz23 : Fz23.S fFz23) {v : Fz20.A → Fz20.B} (hp : ∀ x, ∀ k : Fz20.B → Option Res, Fz20.pf fFz23 BIG x k = k (v x)) : Fz20.S (tot v) := Fz20.sound _ hFz23 _ (fun x r hr => by obtain rfl := Option.some.inj hr; exact ⟨BIG, hp x⟩)
/-! 54 impl_ValidRack_1 -/
noncomputable def Fz3.tab (fFz20 : Fz20.A → Option Fz20.B) : FuncId → Option Sig := tabOf [(55, Fz20.sig fFz20)]
noncomputable def Fz3.E (fFz20 : Fz20.A → Option Fz20.B) : Env := ⟨TT, small, Fz3.tab fFz20, 1, 10⟩
def Fz3.ann : Ann := .nil
noncomputable def Fz3.pf {α : Type} (fFz20 : Fz20.A → Option Fz20.B) (fuel : Nat) (a0 : (List ((Int × Int) × Int))) (k : Bool → Option α) : Option α :=
  cond (decide ((((List.length a0) : Nat) : Int) > (6 : Int))) (k true) ((fFz20 a0).bind fun r1 => k r1)
theorem Fz3.red {α : Type} (fFz20 : Fz20.A → Option Fz20.B) (K : Res → Option α) (fuel : Nat) (e0 : TypeId) (a0 : (List ((Int × Int) × Int))) : run TT small (Fz3.tab fFz20) Try.f54 Fz3.ann [] fuel [.obj false ⟨e0, (.st (.pair (.st (.pair (.int .u8) (.int .i16))) (.int .i16))), a0⟩] K = Fz3.pf fFz20 fuel a0 (fun r => K (Fz3.enc 0 r)) := by kernel_rfl
theorem Fz3.sound (fFz20 : Fz20.A → Option Fz20.B) (hFz20 : Fz20.S fFz20) (f : Fz3.A → Option Fz3.B) (hf : ∀ x r, f x = some r → ∃ fuel, ∀ k : Fz3.B → Option Res, Fz3.pf fFz20 fuel x k = k r) : Fz3.S f := by
  refine fn_sound (by kernel_rfl) (ttok _) (tab_sound [(55, Fz20.sig fFz20)] (List.forall_mem_cons.2 ⟨hFz20, fun p hp => nomatch hp⟩)) (fn := Try.f54) (by kernel_rfl) (by decide) (by decide) Fz3.ann [] _ rfl (fun avs r hr => ?_) (by kernel_rfl)
  obtain ⟨x, y, h1, h2, rfl⟩ := mkSig_run hr
  obtain ⟨e0, rfl⟩ := Fz3.dec_eq h1
  obtain ⟨fuel, hk⟩ := hf x y h2
  exact ⟨fuel, (Fz3.red fFz20 some fuel e0 x).trans (hk (fun r => some (Fz3.enc 0 r)))⟩
theorem Fz3.of_cl {fFz20 : Fz20.A → Option Fz20.B} (hFz20 : Fz20.S fFz20) {P : Fz3.A → Prop} {v : Fz3.A → Fz3.B} (hp : ∀ x, P x → ∀ k : Fz3.B → Option Res, Fz3.pf fFz20 BIG x k = k (v x)) : Fz3.S (cl P v) := Fz3.sound _ hFz20 _ (fun x r hr => by obtain ⟨h1, rfl⟩ := cl_some hr; exact ⟨BIG, hp x h1⟩)
theorem Fz3.of_tot {fFz20 : Fz20.A → Option Fz20.B} (hFz20 : Fz20.S fFz20) {v : Fz3.A → Fz3.B} (hp : ∀ x, ∀ k : Fz3.B → Option Res, Fz3.pf fFz20 BIG x k = k (v x)) : Fz3.S (tot v) := Fz3.sound _ hFz20 _ (fun x r hr => by obtain rfl := Option.some.inj hr; exact ⟨BIG, hp x⟩)
/-! 87 slices_IndexFunc_impl_Rack_impl_Stored__impl_ValidRack_1 -/
noncomputable def Fz22.tab (fFz3 : Fz3.A → Option Fz3.B) : FuncId → Option Sig := tabOf [(54, Fz3.sig fFz3)]
noncomputable def Fz22.E (fFz3 : Fz3.A → Option Fz3.B) : Env := ⟨TT, small, Fz22.tab fFz3, 1, 19⟩
def Fz22.ann : Ann := (.two .nil (.two (.two .nil (.one (.loop [0, 1, 7, 8] .nil))) .nil))
noncomputable def Fz22.emb1 (e0 : TypeId) (p1_0 : Int) (p1_1 : (List (List ((Int × Int) × Int)))) (x1 : Int) : St := { slots := mkSlots 19 [(0, .sl 0 [] none), (1, .fn 54 []), (7, .val (.int .i64) p1_0), (8, .val (.int .i64) x1)], objs := mkObjs 39 [(0, .dat ⟨e0, (.row 47 (.st (.pair (.st (.pair (.int .u8) (.int .i16))) (.int .i16)))), p1_1, false, false, none⟩)] }
noncomputable def Fz22.LB1 {α : Type} (fFz3 : Fz3.A → Option Fz3.B) (fuel : Nat) (cont : Ex → St → Option α) : (St → Option α) → St → Option α := roundV (Fz22.E fFz3) fuel [true, false, true, false] (bodyOf Try.f87) Fz22.ann cont
noncomputable def Fz22.C1 {α : Type} (fFz3 : Fz3.A → Option Fz3.B) (K : Res → Option α) (fuel : Nat) : Ex → St → Option α := contAt (Fz22.E fFz3) fuel [true, false, true, false] (bodyOf Try.f87) Fz22.ann [] (finK TT 1 [some 0, none] Try.f87 [] K)
noncomputable def Fz22.ex1_0 (e0 : TypeId) (p1_0 : Int) (p1_1 : (List (List ((Int × Int) × Int)))) (x1 : Int) (r1001 : Bool) : St := { slots := mkSlots 19 [(0, .sl 0 [] none), (1, .fn 54 []), (4, .val (.int .i64) x1), (5, .val (.int .i64) x1), (7, .val (.int .i64) p1_0), (8, .val (.int .i64) x1), (9, .val .bool (decide (x1 < p1_0))), (10, .val (.int .i64) x1), (11, .fn 54 []), (12, .sl 0 [] none), (13, .val (.int .i64) x1), (14, .ptr 0 [.idx (x1 : Int).toNat] false), (15, .sl 0 [.idx (x1 : Int).toNat] none), (16, .val .bool r1001), (17, .val (.int .i64) x1)], objs := mkObjs 39 [(0, .dat ⟨e0, (.row 47 (.st (.pair (.st (.pair (.int .u8) (.int .i16))) (.int .i16)))), p1_1, false, false, none⟩)] }
noncomputable def Fz22.ex1_1 (e0 : TypeId) (p1_0 : Int) (p1_1 : (List (List ((Int × Int) × Int)))) (x1 : Int) : St := { slots := mkSlots 19 [(0, .sl 0 [] none), (1, .fn 54 []), (7, .val (.int .i64) p1_0), (8, .val (.int .i64) x1), (9, .val .bool (decide (x1 < p1_0)))], objs := mkObjs 39 [(0, .dat ⟨e0, (.row 47 (.st (.pair (.st (.pair (.int .u8) (.int .i16))) (.int .i16)))), p1_1, false, false, none⟩)] }
noncomputable def Fz22.B1 {α : Type} (fFz3 : Fz3.A → Option Fz3.B) (p1_0 : Int) (p1_1 : (List (List ((Int × Int) × Int)))) (K0 : Int → Bool → Option α) (K1 : Int → Option α) (rec : Int → Option α) (x1 : Int) : Option α :=
  cond (decide (x1 < p1_0)) (cond (inB x1 (List.length p1_1)) ((fFz3 (List.getD p1_1 (x1 : Int).toNat ([] : List ((Int × Int) × Int)))).bind fun r1001 => cond r1001 (K0 x1 r1001) (rec (IntKind.i64.wrap (x1 + (1 : Int))))) none) (K1 x1)
theorem Fz22.step1 {α : Type} (fFz3 : Fz3.A → Option Fz3.B) (fuel : Nat) (cont : Ex → St → Option α) (e0 : TypeId) (p1_0 : Int) (p1_1 : (List (List ((Int × Int) × Int)))) (rec : St → Option α) (x1 : Int) : Fz22.LB1 fFz3 fuel cont rec (Fz22.emb1 e0 p1_0 p1_1 x1) = Fz22.B1 fFz3 p1_0 p1_1 (fun x1 r1001 => cont .ret (Fz22.ex1_0 e0 p1_0 p1_1 x1 r1001)) (fun x1 => cont (.exit 0) (Fz22.ex1_1 e0 p1_0 p1_1 x1)) (fun y => rec (Fz22.emb1 e0 p1_0 p1_1 y)) x1 := by kernel_rfl
theorem Fz22.loop1 {α : Type} (fFz3 : Fz3.A → Option Fz3.B) (fuel : Nat) (cont : Ex → St → Option α) (e0 : TypeId) (p1_0 : Int) (p1_1 : (List (List ((Int × Int) × Int)))) (x1 : Int) : loopN (Fz22.LB1 fFz3 fuel cont) fuel (Fz22.emb1 e0 p1_0 p1_1 x1) = iter (Fz22.B1 fFz3 p1_0 p1_1 (fun x1 r1001 => cont .ret (Fz22.ex1_0 e0 p1_0 p1_1 x1 r1001)) (fun x1 => cont (.exit 0) (Fz22.ex1_1 e0 p1_0 p1_1 x1))) fuel x1 := loop_sim (fun rec x => Fz22.step1 fFz3 fuel cont e0 p1_0 p1_1 rec x) fuel x1
noncomputable def Fz22.pf {α : Type} (fFz3 : Fz3.A → Option Fz3.B) (fuel : Nat) (a0 : (List (List ((Int × Int) × Int)))) (k : Int → Option α) : Option α :=
  iter (Fz22.B1 fFz3 (((List.length a0) : Nat) : Int) a0 (fun (x1 : Int) (r1001 : Bool) => k x1) (fun (x1 : Int) => k (-1 : Int))) fuel (0 : Int)
theorem Fz22.tail1 {α : Type} (fFz3 : Fz3.A → Option Fz3.B) (K : Res → Option α) (fuel : Nat) (e0 : TypeId) (a0 : (List (List ((Int × Int) × Int)))) (x1 : Int) (r1001 : Bool) : Fz22.C1 fFz3 K fuel .ret (Fz22.ex1_0 e0 (((List.length a0) : Nat) : Int) a0 x1 r1001) = ((fun (k : Int → Option α) => k x1) (fun r => K (Fz22.enc 0 r))) := by kernel_rfl
theorem Fz22.tail2 {α : Type} (fFz3 : Fz3.A → Option Fz3.B) (K : Res → Option α) (fuel : Nat) (e0 : TypeId) (a0 : (List (List ((Int × Int) × Int)))) (x1 : Int) : Fz22.C1 fFz3 K fuel (.exit 0) (Fz22.ex1_1 e0 (((List.length a0) : Nat) : Int) a0 x1) = ((fun (k : Int → Option α) => k (-1 : Int)) (fun r => K (Fz22.enc 0 r))) := by kernel_rfl
theorem Fz22.red_raw {α : Type} (fFz3 : Fz3.A → Option Fz3.B) (K : Res → Option α) (fuel : Nat) (e0 : TypeId) (a0 : (List (List ((Int × Int) × Int)))) : run TT small (Fz22.tab fFz3) Try.f87 Fz22.ann [] fuel [.obj false ⟨e0, (.row 47 (.st (.pair (.st (.pair (.int .u8) (.int .i16))) (.int .i16)))), a0⟩, .fn 54 []] K = loopN (Fz22.LB1 fFz3 fuel (Fz22.C1 fFz3 K fuel)) fuel (Fz22.emb1 e0 (((List.length a0) : Nat) : Int) a0 (0 : Int)) := by kernel_rfl
theorem Fz22.red {α : Type} (fFz3 : Fz3.A → Option Fz3.B) (K : Res → Option α) (fuel : Nat) (e0 : TypeId) (a0 : (List (List ((Int × Int) × Int)))) : run TT small (Fz22.tab fFz3) Try.f87 Fz22.ann [] fuel [.obj false ⟨e0, (.row 47 (.st (.pair (.st (.pair (.int .u8) (.int .i16))) (.int .i16)))), a0⟩, .fn 54 []] K = Fz22.pf fFz3 fuel a0 (fun r => K (Fz22.enc 0 r)) := by
  rw [Fz22.red_raw]
  simp only [Fz22.loop1, Fz22.tail1, Fz22.tail2]
  all_goals kernel_rfl
theorem Fz22.sound (fFz3 : Fz3.A → Option Fz3.B) (hFz3 : Fz3.S fFz3) (f : Fz22.A → Option Fz22.B) (hf : ∀ x r, f x = some r → ∃ fuel, ∀ k : Fz22.B → Option Res, Fz22.pf fFz3 fuel x k = k r) : Fz22.S f := by
  refine fn_sound (by kernel_rfl) (ttok _) (tab_sound [(54, Fz3.sig fFz3)] (List.forall_mem_cons.2 ⟨hFz3, fun p hp => nomatch hp⟩)) (fn := Try.f87) (by kernel_rfl) (by decide) (by decide) Fz22.ann [] _ rfl (fun avs r hr => ?_) (by kernel_rfl)
  obtain ⟨x, y, h1, h2, rfl⟩ := mkSig_run hr
  obtain ⟨e0, rfl⟩ := Fz22.dec_eq h1
  obtain ⟨fuel, hk⟩ := hf x y h2
  exact ⟨fuel, (Fz22.red fFz3 some fuel e0 x).trans (hk (fun r => some (Fz22.enc 0 r)))⟩
theorem Fz22.of_cl {fFz3 : Fz3.A → Option Fz3.B} (hFz3 : Fz3.S fFz3) {P : Fz22.A → Prop} {v : Fz22.A → Fz22.B} (hp : ∀ x, P x → ∀ k : Fz22.B → Option Res, Fz22.pf fFz3 BIG x k = k (v x)) : Fz22.S (cl P v) := Fz22.sound _ hFz3 _ (fun x r hr => by obtain ⟨h1, rfl⟩ := cl_some hr; exact ⟨BIG, hp x h1⟩)
theorem Fz22.of_tot {fFz3 : Fz3.A → Option Fz3.B} (hFz3 : Fz3.S fFz3) {v : Fz22.A → Fz22.B} (hp : ∀ x, ∀ k : Fz22.B → Option Res, Fz22.pf fFz3 BIG x k = k (v x)) : Fz22.S (tot v) := Fz22.sound _ hFz3 _ (fun x r hr => by obtain rfl := Option.some.inj hr; exact ⟨BIG, hp x⟩)
end Go.Proofs.Ytneefjegejlfeaa.G
