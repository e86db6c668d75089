import Derived.Test.YteaodjahafgbcaaSg
namespace Go.Proofs.Yteaodjahafgbcaa.G
open Go Go.Proofs
set_option linter.unusedVariables false
set_option linter.unusedSimpArgs false
set_option maxRecDepth 100000
noncomputable def laws_FnExactBestTurn.tab (fFz36 : Fz36.A → Option Fz36.B) (fFz35 : Fz35.A → Option Fz35.B) (fFz40 : Fz40.A → Option Fz40.B) (fFz39 : Fz39.A → Option Fz39.B) (fFz55 : Fz55.A → Option Fz55.B) (fFz0 : Fz0.A → Option Fz0.B) (fFz26 : Fz26.A → Option Fz26.B) (fFz27 : Fz27.A → Option Fz27.B) (fFz25 : Fz25.A → Option Fz25.B) (fFz33 : Fz33.A → Option Fz33.B) (fFz31 : Fz31.A → Option Fz31.B) (fFz32 : Fz32.A → Option Fz32.B) (fFz30 : Fz30.A → Option Fz30.B) : FuncId → Option Sig := tabOf [(15, Fz36.sig fFz36), (32, Fz35.sig fFz35), (17, Fz40.sig fFz40), (34, Fz39.sig fFz39), (39, Fz55.sig fFz55), (40, Fz0.sig fFz0), (20, Fz26.sig fFz26), (19, Fz27.sig fFz27), (36, Fz25.sig fFz25), (21, Fz33.sig fFz33), (37, Fz31.sig fFz31), (23, Fz32.sig fFz32), (25, Fz30.sig fFz30)]
noncomputable def laws_FnExactBestTurn.E (fFz36 : Fz36.A → Option Fz36.B) (fFz35 : Fz35.A → Option Fz35.B) (fFz40 : Fz40.A → Option Fz40.B) (fFz39 : Fz39.A → Option Fz39.B) (fFz55 : Fz55.A → Option Fz55.B) (fFz0 : Fz0.A → Option Fz0.B) (fFz26 : Fz26.A → Option Fz26.B) (fFz27 : Fz27.A → Option Fz27.B) (fFz25 : Fz25.A → Option Fz25.B) (fFz33 : Fz33.A → Option Fz33.B) (fFz31 : Fz31.A → Option Fz31.B) (fFz32 : Fz32.A → Option Fz32.B) (fFz30 : Fz30.A → Option Fz30.B) : Env := ⟨TT, small, laws_FnExactBestTurn.tab fFz36 fFz35 fFz40 fFz39 fFz55 fFz0 fFz26 fFz27 fFz25 fFz33 fFz31 fFz32 fFz30, 2, 145⟩
def laws_FnExactBestTurn.ann : Ann := .nil
noncomputable def laws_FnExactBestTurn.pf {α : Type} (fFz36 : Fz36.A → Option Fz36.B) (fFz35 : Fz35.A → Option Fz35.B) (fFz40 : Fz40.A → Option Fz40.B) (fFz39 : Fz39.A → Option Fz39.B) (fFz55 : Fz55.A → Option Fz55.B) (fFz0 : Fz0.A → Option Fz0.B) (fFz26 : Fz26.A → Option Fz26.B) (fFz27 : Fz27.A → Option Fz27.B) (fFz25 : Fz25.A → Option Fz25.B) (fFz33 : Fz33.A → Option Fz33.B) (fFz31 : Fz31.A → Option Fz31.B) (fFz32 : Fz32.A → Option Fz32.B) (fFz30 : Fz30.A → Option Fz30.B) (fuel : Nat) (a0 : (List (List Zs))) (a1 : (List Zb)) (a2 : Int) (k : Bool → Option α) : Option α :=
  (fFz36 (a0, (1048576 : Int))).bind fun r1 => cond (decide (r1 < (0 : Int))) (k true) ((fFz35 (a1, r1)).bind fun r2 => cond (decide (r2 < (0 : Int))) (k true) ((fFz40 a0).bind fun r3 => (fFz39 a1).bind fun r4 => (fFz55 (r3, r4, a2)).bind fun r5 => (fFz40 a0).bind fun r6 => (fFz39 a1).bind fun r7 => (fFz0 (r6, r7, a2)).bind fun r8 => (fFz26 (r8.1, r5.1)).bind fun r9 => cond (!r9) (k false) (cond (r8.2.1 != r5.2.1) (k false) (cond (r8.2.2 != r5.2.2) (k false) ((fFz40 a0).bind fun r10 => (fFz27 (r6, r10)).bind fun r11 => cond (!r11) (k false) ((fFz39 a1).bind fun r12 => (fFz25 (r7, r12)).bind fun r13 => cond (!r13) (k false) ((fFz33 (r6, (1 : Int))).bind fun r14 => (fFz31 (r7, r14.1)).bind fun r15 => cond (decide (r15.1 < (0 : Int))) (k false) ((fFz26 (r8.1, r5.1)).bind fun r16 => cond (!r16) (k false) (cond (r8.2.1 != r5.2.1) (k false) (cond (r8.2.2 != r5.2.2) (k false) ((fFz32 (r8.1, (1 : Int))).bind fun r17 => (fFz30 (r17.2, (1 : Int))).bind fun r18 => cond (decide (r18 < (0 : Int))) (k false) (cond (r18 != r17.1) (k false) ((fFz40 a0).bind fun r19 => (fFz39 a1).bind fun r20 => (fFz0 (r19, r20, a2)).bind fun r21 => (fFz26 (r21.1, r5.1)).bind fun r22 => cond (!r22) (k false) (cond (r21.2.1 != r5.2.1) (k false) (cond (r21.2.2 != r5.2.2) (k false) ((fFz30 (r17.2, (1 : Int))).bind fun r23 => cond (decide (r23 < (0 : Int))) (k false) (cond (r23 != r17.1) (k false) (k true))))))))))))))))))
theorem laws_FnExactBestTurn.red {α : Type} (fFz36 : Fz36.A → Option Fz36.B) (fFz35 : Fz35.A → Option Fz35.B) (fFz40 : Fz40.A → Option Fz40.B) (fFz39 : Fz39.A → Option Fz39.B) (fFz55 : Fz55.A → Option Fz55.B) (fFz0 : Fz0.A → Option Fz0.B) (fFz26 : Fz26.A → Option Fz26.B) (fFz27 : Fz27.A → Option Fz27.B) (fFz25 : Fz25.A → Option Fz25.B) (fFz33 : Fz33.A → Option Fz33.B) (fFz31 : Fz31.A → Option Fz31.B) (fFz32 : Fz32.A → Option Fz32.B) (fFz30 : Fz30.A → Option Fz30.B) (K : Res → Option α) (fuel : Nat) (e0 : TypeId) (e1 : TypeId) (a0 : (List (List Zs))) (a1 : (List Zb)) (a2 : Int) : run TT small (laws_FnExactBestTurn.tab fFz36 fFz35 fFz40 fFz39 fFz55 fFz0 fFz26 fFz27 fFz25 fFz33 fFz31 fFz32 fFz30) Try.f8 laws_FnExactBestTurn.ann [] fuel [.obj false ⟨e0, (.row 85 (.st (.pair (.st (.pair (.int .u8) (.int .i16))) (.int .i16)))), a0⟩, .obj false ⟨e1, (.st (.pair (.int .u8) (.int .i16))), a1⟩, .val (.int .i64) a2] K = laws_FnExactBestTurn.pf fFz36 fFz35 fFz40 fFz39 fFz55 fFz0 fFz26 fFz27 fFz25 fFz33 fFz31 fFz32 fFz30 fuel a0 a1 a2 (fun r => K (laws_FnExactBestTurn.enc 0 r)) := by kernel_rfl
theorem laws_FnExactBestTurn.sound (fFz36 : Fz36.A → Option Fz36.B) (fFz35 : Fz35.A → Option Fz35.B) (fFz40 : Fz40.A → Option Fz40.B) (fFz39 : Fz39.A → Option Fz39.B) (fFz55 : Fz55.A → Option Fz55.B) (fFz0 : Fz0.A → Option Fz0.B) (fFz26 : Fz26.A → Option Fz26.B) (fFz27 : Fz27.A → Option Fz27.B) (fFz25 : Fz25.A → Option Fz25.B) (fFz33 : Fz33.A → Option Fz33.B) (fFz31 : Fz31.A → Option Fz31.B) (fFz32 : Fz32.A → Option Fz32.B) (fFz30 : Fz30.A → Option Fz30.B) (hFz36 : Fz36.S fFz36) (hFz35 : Fz35.S fFz35) (hFz40 : Fz40.S fFz40) (hFz39 : Fz39.S fFz39) (hFz55 : Fz55.S fFz55) (hFz0 : Fz0.S fFz0) (hFz26 : Fz26.S fFz26) (hFz27 : Fz27.S fFz27) (hFz25 : Fz25.S fFz25) (hFz33 : Fz33.S fFz33) (hFz31 : Fz31.S fFz31) (hFz32 : Fz32.S fFz32) (hFz30 : Fz30.S fFz30) (f : laws_FnExactBestTurn.A → Option laws_FnExactBestTurn.B) (hf : ∀ x r, f x = some r → ∃ fuel, ∀ k : laws_FnExactBestTurn.B → Option Res, laws_FnExactBestTurn.pf fFz36 fFz35 fFz40 fFz39 fFz55 fFz0 fFz26 fFz27 fFz25 fFz33 fFz31 fFz32 fFz30 fuel x.1 x.2.1 x.2.2 k = k r) : laws_FnExactBestTurn.S f := by
  refine fn_sound (by kernel_rfl) (ttok _) (tab_sound [(15, Fz36.sig fFz36), (32, Fz35.sig fFz35), (17, Fz40.sig fFz40), (34, Fz39.sig fFz39), (39, Fz55.sig fFz55), (40, Fz0.sig fFz0), (20, Fz26.sig fFz26), (19, Fz27.sig fFz27), (36, Fz25.sig fFz25), (21, Fz33.sig fFz33), (37, Fz31.sig fFz31), (23, Fz32.sig fFz32), (25, Fz30.sig fFz30)] (List.forall_mem_cons.2 ⟨hFz36, List.forall_mem_cons.2 ⟨hFz35, List.forall_mem_cons.2 ⟨hFz40, List.forall_mem_cons.2 ⟨hFz39, List.forall_mem_cons.2 ⟨hFz55, List.forall_mem_cons.2 ⟨hFz0, List.forall_mem_cons.2 ⟨hFz26, List.forall_mem_cons.2 ⟨hFz27, List.forall_mem_cons.2 ⟨hFz25, List.forall_mem_cons.2 ⟨hFz33, List.forall_mem_cons.2 ⟨hFz31, List.forall_mem_cons.2 ⟨hFz32, List.forall_mem_cons.2 ⟨hFz30, fun p hp => nomatch hp⟩⟩⟩⟩⟩⟩⟩⟩⟩⟩⟩⟩⟩)) (fn := Try.f8) (by kernel_rfl) (by decide) (by decide) laws_FnExactBestTurn.ann [] _ rfl (fun avs r hr => ?_) (by kernel_rfl)
  obtain ⟨x, y, h1, h2, rfl⟩ := mkSig_run hr
  obtain ⟨e0, e1, rfl⟩ := laws_FnExactBestTurn.dec_eq h1
  obtain ⟨fuel, hk⟩ := hf x y h2
  exact ⟨fuel, (laws_FnExactBestTurn.red fFz36 fFz35 fFz40 fFz39 fFz55 fFz0 fFz26 fFz27 fFz25 fFz33 fFz31 fFz32 fFz30 some fuel e0 e1 x.1 x.2.1 x.2.2).trans (hk (fun r => some (laws_FnExactBestTurn.enc 0 r)))⟩
theorem laws_FnExactBestTurn.of_cl {fFz36 : Fz36.A → Option Fz36.B} {fFz35 : Fz35.A → Option Fz35.B} {fFz40 : Fz40.A → Option Fz40.B} {fFz39 : Fz39.A → Option Fz39.B} {fFz55 : Fz55.A → Option Fz55.B} {fFz0 : Fz0.A → Option Fz0.B} {fFz26 : Fz26.A → Option Fz26.B} {fFz27 : Fz27.A → Option Fz27.B} {fFz25 : Fz25.A → Option Fz25.B} {fFz33 : Fz33.A → Option Fz33.B} {fFz31 : Fz31.A → Option Fz31.B} {fFz32 : Fz32.A → Option Fz32.B} {fFz30 : Fz30.A → Option Fz30.B} (hFz36 : Fz36.S fFz36) (hFz35 : Fz35.S fFz35) (hFz40 : Fz40.S fFz40) (hFz39 : Fz39.S fFz39) (hFz55 : Fz55.S fFz55) (hFz0 : Fz0.S fFz0) (hFz26 : Fz26.S fFz26) (hFz27 : Fz27.S fFz27) (hFz25 : Fz25.S fFz25) (hFz33 : Fz33.S fFz33) (hFz31 : Fz31.S fFz31) (hFz32 : Fz32.S fFz32) (hFz30 : Fz30.S fFz30) {P : laws_FnExactBestTurn.A → Prop} {v : laws_FnExactBestTurn.A → laws_FnExactBestTurn.B} (hp : ∀ x, P x → ∀ k : laws_FnExactBestTurn.B → Option Res, laws_FnExactBestTurn.pf fFz36 fFz35 fFz40 fFz39 fFz55 fFz0 fFz26 fFz27 fFz25 fFz33 fFz31 fFz32 fFz30 BIG x.1 x.2.1 x.2.2 k = k (v x)) : laws_FnExactBestTurn.S (cl P v) := laws_FnExactBestTurn.sound _ _ _ _ _ _ _ _ _ _ _ _ _ hFz36 hFz35 hFz40 hFz39 hFz55 hFz0 hFz26 hFz27 hFz25 hFz33 hFz31 hFz32 hFz30 _ (fun x r hr => by obtain ⟨h1, rfl⟩ := cl_some hr; exact ⟨BIG, hp x h1⟩)
noncomputable def Fz22.tab : FuncId → Option Sig := tabOf []
noncomputable def Fz22.E : Env := ⟨TT, small, Fz22.tab , 0, 15⟩
def Fz22.ann : Ann := .nil
noncomputable def Fz22.pf {α : Type} (fuel : Nat) (a0 : Int) (a1 : Int) (a2 : Int) (k : Bool → Option α) : Option α :=
  cond (decide (a1 ≤ a0)) (k (decide (a0 ≤ a2))) (k false)
theorem Fz22.red {α : Type} (K : Res → Option α) (fuel : Nat) (a0 : Int) (a1 : Int) (a2 : Int) : run TT small Fz22.tab Try.f102 Fz22.ann [] fuel [.val (.int .i64) a0, .val (.int .i64) a1, .val (.int .i64) a2] K = Fz22.pf fuel a0 a1 a2 (fun r => K (Fz22.enc 0 r)) := by kernel_rfl
theorem Fz22.sound (f : Fz22.A → Option Fz22.B) (hf : ∀ x r, f x = some r → ∃ fuel, ∀ k : Fz22.B → Option Res, Fz22.pf fuel x.1 x.2.1 x.2.2 k = k r) : Fz22.S f := by
  refine fn_sound (by kernel_rfl) (ttok _) (tab_sound [] (fun p hp => nomatch hp)) (fn := Try.f102) (by kernel_rfl) (by decide) (by decide) Fz22.ann [] _ rfl (fun avs r hr => ?_) (by kernel_rfl)
  obtain ⟨x, y, h1, h2, rfl⟩ := mkSig_run hr
  obtain rfl := Fz22.dec_eq h1
  obtain ⟨fuel, hk⟩ := hf x y h2
  exact ⟨fuel, (Fz22.red some fuel x.1 x.2.1 x.2.2).trans (hk (fun r => some (Fz22.enc 0 r)))⟩
theorem Fz22.of_tot {v : Fz22.A → Fz22.B} (hp : ∀ x, ∀ k : Fz22.B → Option Res, Fz22.pf BIG x.1 x.2.1 x.2.2 k = k (v x)) : Fz22.S (tot v) := Fz22.sound  _ (fun x r hr => by obtain rfl := Option.some.inj hr; exact ⟨BIG, hp x⟩)
noncomputable def Fz11.tab (fFz22 : Fz22.A → Option Fz22.B) : FuncId → Option Sig := tabOf [(102, Fz22.sig fFz22)]
noncomputable def Fz11.E (fFz22 : Fz22.A → Option Fz22.B) : Env := ⟨TT, small, Fz11.tab fFz22, 0, 13⟩
def Fz11.ann : Ann := .nil
noncomputable def Fz11.pf {α : Type} (fFz22 : Fz22.A → Option Fz22.B) (fuel : Nat) (a0 : Zb) (k : Bool → Option α) : Option α :=
  (fFz22 ((IntKind.i64.wrap a0.1), (1 : Int), (20 : Int))).bind fun r1 => cond r1 ((fFz22 ((IntKind.i64.wrap a0.2), (1900 : Int), (2099 : Int))).bind fun r2 => k r2) (k false)
theorem Fz11.red {α : Type} (fFz22 : Fz22.A → Option Fz22.B) (K : Res → Option α) (fuel : Nat) (a0 : Zb) : run TT small (Fz11.tab fFz22) Try.f75 Fz11.ann [] fuel [.val (.st (.pair (.int .u8) (.int .i16))) a0] K = Fz11.pf fFz22 fuel a0 (fun r => K (Fz11.enc 0 r)) := by kernel_rfl
theorem Fz11.sound (fFz22 : Fz22.A → Option Fz22.B) (hFz22 : Fz22.S fFz22) (f : Fz11.A → Option Fz11.B) (hf : ∀ x r, f x = some r → ∃ fuel, ∀ k : Fz11.B → Option Res, Fz11.pf fFz22 fuel x k = k r) : Fz11.S f := by
  refine fn_sound (by kernel_rfl) (ttok _) (tab_sound [(102, Fz22.sig fFz22)] (List.forall_mem_cons.2 ⟨hFz22, fun p hp => nomatch hp⟩)) (fn := Try.f75) (by kernel_rfl) (by decide) (by decide) Fz11.ann [] _ rfl (fun avs r hr => ?_) (by kernel_rfl)
  obtain ⟨x, y, h1, h2, rfl⟩ := mkSig_run hr
  obtain rfl := Fz11.dec_eq h1
  obtain ⟨fuel, hk⟩ := hf x y h2
  exact ⟨fuel, (Fz11.red fFz22 some fuel x).trans (hk (fun r => some (Fz11.enc 0 r)))⟩
theorem Fz11.of_cl {fFz22 : Fz22.A → Option Fz22.B} (hFz22 : Fz22.S fFz22) {P : Fz11.A → Prop} {v : Fz11.A → Fz11.B} (hp : ∀ x, P x → ∀ k : Fz11.B → Option Res, Fz11.pf fFz22 BIG x k = k (v x)) : Fz11.S (cl P v) := Fz11.sound _ hFz22 _ (fun x r hr => by obtain ⟨h1, rfl⟩ := cl_some hr; exact ⟨BIG, hp x h1⟩)
noncomputable def Fz21.tab (fFz11 : Fz11.A → Option Fz11.B) (fFz22 : Fz22.A → Option Fz22.B) : FuncId → Option Sig := tabOf [(75, Fz11.sig fFz11), (102, Fz22.sig fFz22)]
noncomputable def Fz21.E (fFz11 : Fz11.A → Option Fz11.B) (fFz22 : Fz22.A → Option Fz22.B) : Env := ⟨TT, small, Fz21.tab fFz11 fFz22, 0, 12⟩
def Fz21.ann : Ann := .nil
noncomputable def Fz21.pf {α : Type} (fFz11 : Fz11.A → Option Fz11.B) (fFz22 : Fz22.A → Option Fz22.B) (fuel : Nat) (a0 : Zs) (k : Bool → Option α) : Option α :=
  (fFz11 a0.1).bind fun r1 => cond r1 ((fFz22 ((IntKind.i64.wrap a0.2), (0 : Int), (2000 : Int))).bind fun r2 => k r2) (k false)
theorem Fz21.red {α : Type} (fFz11 : Fz11.A → Option Fz11.B) (fFz22 : Fz22.A → Option Fz22.B) (K : Res → Option α) (fuel : Nat) (a0 : Zs) : run TT small (Fz21.tab fFz11 fFz22) Try.f101 Fz21.ann [] fuel [.val (.st (.pair (.st (.pair (.int .u8) (.int .i16))) (.int .i16))) a0] K = Fz21.pf fFz11 fFz22 fuel a0 (fun r => K (Fz21.enc 0 r)) := by kernel_rfl
theorem Fz21.sound (fFz11 : Fz11.A → Option Fz11.B) (fFz22 : Fz22.A → Option Fz22.B) (hFz11 : Fz11.S fFz11) (hFz22 : Fz22.S fFz22) (f : Fz21.A → Option Fz21.B) (hf : ∀ x r, f x = some r → ∃ fuel, ∀ k : Fz21.B → Option Res, Fz21.pf fFz11 fFz22 fuel x k = k r) : Fz21.S f := by
  refine fn_sound (by kernel_rfl) (ttok _) (tab_sound [(75, Fz11.sig fFz11), (102, Fz22.sig fFz22)] (List.forall_mem_cons.2 ⟨hFz11, List.forall_mem_cons.2 ⟨hFz22, fun p hp => nomatch hp⟩⟩)) (fn := Try.f101) (by kernel_rfl) (by decide) (by decide) Fz21.ann [] _ rfl (fun avs r hr => ?_) (by kernel_rfl)
  obtain ⟨x, y, h1, h2, rfl⟩ := mkSig_run hr
  obtain rfl := Fz21.dec_eq h1
  obtain ⟨fuel, hk⟩ := hf x y h2
  exact ⟨fuel, (Fz21.red fFz11 fFz22 some fuel x).trans (hk (fun r => some (Fz21.enc 0 r)))⟩
theorem Fz21.of_cl {fFz11 : Fz11.A → Option Fz11.B} {fFz22 : Fz22.A → Option Fz22.B} (hFz11 : Fz11.S fFz11) (hFz22 : Fz22.S fFz22) {P : Fz21.A → Prop} {v : Fz21.A → Fz21.B} (hp : ∀ x, P x → ∀ k : Fz21.B → Option Res, Fz21.pf fFz11 fFz22 BIG x k = k (v x)) : Fz21.S (cl P v) := Fz21.sound _ _ hFz11 hFz22 _ (fun x r hr => by obtain ⟨h1, rfl⟩ := cl_some hr; exact ⟨BIG, hp x h1⟩)
noncomputable def Fz14.tab (fFz21 : Fz21.A → Option Fz21.B) : FuncId → Option Sig := tabOf [(101, Fz21.sig fFz21)]
noncomputable def Fz14.E (fFz21 : Fz21.A → Option Fz21.B) : Env := ⟨TT, small, Fz14.tab fFz21, 0, 6⟩
def Fz14.ann : Ann := .nil
noncomputable def Fz14.pf {α : Type} (fFz21 : Fz21.A → Option Fz21.B) (fuel : Nat) (a0 : Zs) (k : Bool → Option α) : Option α :=
  (fFz21 a0).bind fun r1 => k (!r1)
theorem Fz14.red {α : Type} (fFz21 : Fz21.A → Option Fz21.B) (K : Res → Option α) (fuel : Nat) (a0 : Zs) : run TT small (Fz14.tab fFz21) Try.f105 Fz14.ann [] fuel [.val (.st (.pair (.st (.pair (.int .u8) (.int .i16))) (.int .i16))) a0] K = Fz14.pf fFz21 fuel a0 (fun r => K (Fz14.enc 0 r)) := by kernel_rfl
theorem Fz14.sound (fFz21 : Fz21.A → Option Fz21.B) (hFz21 : Fz21.S fFz21) (f : Fz14.A → Option Fz14.B) (hf : ∀ x r, f x = some r → ∃ fuel, ∀ k : Fz14.B → Option Res, Fz14.pf fFz21 fuel x k = k r) : Fz14.S f := by
  refine fn_sound (by kernel_rfl) (ttok _) (tab_sound [(101, Fz21.sig fFz21)] (List.forall_mem_cons.2 ⟨hFz21, fun p hp => nomatch hp⟩)) (fn := Try.f105) (by kernel_rfl) (by decide) (by decide) Fz14.ann [] _ rfl (fun avs r hr => ?_) (by kernel_rfl)
  obtain ⟨x, y, h1, h2, rfl⟩ := mkSig_run hr
  obtain rfl := Fz14.dec_eq h1
  obtain ⟨fuel, hk⟩ := hf x y h2
  exact ⟨fuel, (Fz14.red fFz21 some fuel x).trans (hk (fun r => some (Fz14.enc 0 r)))⟩
theorem Fz14.of_cl {fFz21 : Fz21.A → Option Fz21.B} (hFz21 : Fz21.S fFz21) {P : Fz14.A → Prop} {v : Fz14.A → Fz14.B} (hp : ∀ x, P x → ∀ k : Fz14.B → Option Res, Fz14.pf fFz21 BIG x k = k (v x)) : Fz14.S (cl P v) := Fz14.sound _ hFz21 _ (fun x r hr => by obtain ⟨h1, rfl⟩ := cl_some hr; exact ⟨BIG, hp x h1⟩)
noncomputable def Fz50.tab (fFz14 : Fz14.A → Option Fz14.B) : FuncId → Option Sig := tabOf [(105, Fz14.sig fFz14)]
noncomputable def Fz50.E (fFz14 : Fz14.A → Option Fz14.B) : Env := ⟨TT, small, Fz50.tab fFz14, 1, 19⟩
def Fz50.ann : Ann := (.two .nil (.two (.two .nil (.one (.loop [0, 1, 7, 8] .nil))) .nil))
noncomputable def Fz50.emb1 (e0 : TypeId) (p1_0 : Int) (p1_1 : (List Zs)) (x1 : Int) : St := { slots := mkSlots 19 [(0, .sl 0 [] none), (1, .fn 105 []), (7, .val (.int .i64) p1_0), (8, .val (.int .i64) x1)], objs := mkObjs 39 [(0, .dat ⟨e0, (.st (.pair (.st (.pair (.int .u8) (.int .i16))) (.int .i16))), p1_1, false, false, none⟩)] }
noncomputable def Fz50.LB1 {α : Type} (fFz14 : Fz14.A → Option Fz14.B) (fuel : Nat) (cont : Ex → St → Option α) : (St → Option α) → St → Option α := roundV (Fz50.E fFz14) fuel [true, false, true, false] (bodyOf Try.f125) Fz50.ann cont
noncomputable def Fz50.C1 {α : Type} (fFz14 : Fz14.A → Option Fz14.B) (K : Res → Option α) (fuel : Nat) : Ex → St → Option α := contAt (Fz50.E fFz14) fuel [true, false, true, false] (bodyOf Try.f125) Fz50.ann [] (finK TT 1 [some 0, none] Try.f125 [] K)
noncomputable def Fz50.ex1_0 (e0 : TypeId) (p1_0 : Int) (p1_1 : (List Zs)) (x1 : Int) (r1001 : Bool) : St := { slots := mkSlots 19 [(0, .sl 0 [] none), (1, .fn 105 []), (4, .val (.int .i64) x1), (5, .val (.int .i64) x1), (7, .val (.int .i64) p1_0), (8, .val (.int .i64) x1), (9, .val .bool (decide (x1 < p1_0))), (10, .val (.int .i64) x1), (11, .fn 105 []), (12, .sl 0 [] none), (13, .val (.int .i64) x1), (14, .ptr 0 [.idx (x1 : Int).toNat] false), (15, .val (.st (.pair (.st (.pair (.int .u8) (.int .i16))) (.int .i16))) ((List.getD p1_1 (x1 : Int).toNat (((0 : Int), (0 : Int)), (0 : Int))))), (16, .val .bool r1001), (17, .val (.int .i64) x1)], objs := mkObjs 39 [(0, .dat ⟨e0, (.st (.pair (.st (.pair (.int .u8) (.int .i16))) (.int .i16))), p1_1, false, false, none⟩)] }
noncomputable def Fz50.ex1_1 (e0 : TypeId) (p1_0 : Int) (p1_1 : (List Zs)) (x1 : Int) : St := { slots := mkSlots 19 [(0, .sl 0 [] none), (1, .fn 105 []), (7, .val (.int .i64) p1_0), (8, .val (.int .i64) x1), (9, .val .bool (decide (x1 < p1_0)))], objs := mkObjs 39 [(0, .dat ⟨e0, (.st (.pair (.st (.pair (.int .u8) (.int .i16))) (.int .i16))), p1_1, false, false, none⟩)] }
noncomputable def Fz50.B1 {α : Type} (fFz14 : Fz14.A → Option Fz14.B) (p1_0 : Int) (p1_1 : (List Zs)) (K0 : Int → Bool → Option α) (K1 : Int → Option α) (rec : Int → Option α) (x1 : Int) : Option α :=
  cond (decide (x1 < p1_0)) (cond (inB x1 (List.length p1_1)) ((fFz14 (List.getD p1_1 (x1 : Int).toNat (((0 : Int), (0 : Int)), (0 : Int)))).bind fun r1001 => cond r1001 (K0 x1 r1001) (rec (IntKind.i64.wrap (x1 + (1 : Int))))) none) (K1 x1)
theorem Fz50.step1 {α : Type} (fFz14 : Fz14.A → Option Fz14.B) (fuel : Nat) (cont : Ex → St → Option α) (e0 : TypeId) (p1_0 : Int) (p1_1 : (List Zs)) (rec : St → Option α) (x1 : Int) : Fz50.LB1 fFz14 fuel cont rec (Fz50.emb1 e0 p1_0 p1_1 x1) = Fz50.B1 fFz14 p1_0 p1_1 (fun x1 r1001 => cont .ret (Fz50.ex1_0 e0 p1_0 p1_1 x1 r1001)) (fun x1 => cont (.exit 0) (Fz50.ex1_1 e0 p1_0 p1_1 x1)) (fun y => rec (Fz50.emb1 e0 p1_0 p1_1 y)) x1 := by kernel_rfl
theorem Fz50.loop1 {α : Type} (fFz14 : Fz14.A → Option Fz14.B) (fuel : Nat) (cont : Ex → St → Option α) (e0 : TypeId) (p1_0 : Int) (p1_1 : (List Zs)) (x1 : Int) : loopN (Fz50.LB1 fFz14 fuel cont) fuel (Fz50.emb1 e0 p1_0 p1_1 x1) = iter (Fz50.B1 fFz14 p1_0 p1_1 (fun x1 r1001 => cont .ret (Fz50.ex1_0 e0 p1_0 p1_1 x1 r1001)) (fun x1 => cont (.exit 0) (Fz50.ex1_1 e0 p1_0 p1_1 x1))) fuel x1 := loop_sim (fun rec x => Fz50.step1 fFz14 fuel cont e0 p1_0 p1_1 rec x) fuel x1
noncomputable def Fz50.pf {α : Type} (fFz14 : Fz14.A → Option Fz14.B) (fuel : Nat) (a0 : (List Zs)) (k : Int → Option α) : Option α :=
  iter (Fz50.B1 fFz14 (((List.length a0) : Nat) : Int) a0 (fun (x1 : Int) (r1001 : Bool) => k x1) (fun (x1 : Int) => k (-1 : Int))) fuel (0 : Int)
theorem Fz50.tail1 {α : Type} (fFz14 : Fz14.A → Option Fz14.B) (K : Res → Option α) (fuel : Nat) (e0 : TypeId) (a0 : (List Zs)) (x1 : Int) (r1001 : Bool) : Fz50.C1 fFz14 K fuel .ret (Fz50.ex1_0 e0 (((List.length a0) : Nat) : Int) a0 x1 r1001) = ((fun (k : Int → Option α) => k x1) (fun r => K (Fz50.enc 0 r))) := by kernel_rfl
theorem Fz50.tail2 {α : Type} (fFz14 : Fz14.A → Option Fz14.B) (K : Res → Option α) (fuel : Nat) (e0 : TypeId) (a0 : (List Zs)) (x1 : Int) : Fz50.C1 fFz14 K fuel (.exit 0) (Fz50.ex1_1 e0 (((List.length a0) : Nat) : Int) a0 x1) = ((fun (k : Int → Option α) => k (-1 : Int)) (fun r => K (Fz50.enc 0 r))) := by kernel_rfl
theorem Fz50.red_raw {α : Type} (fFz14 : Fz14.A → Option Fz14.B) (K : Res → Option α) (fuel : Nat) (e0 : TypeId) (a0 : (List Zs)) : run TT small (Fz50.tab fFz14) Try.f125 Fz50.ann [] fuel [.obj false ⟨e0, (.st (.pair (.st (.pair (.int .u8) (.int .i16))) (.int .i16))), a0⟩, .fn 105 []] K = loopN (Fz50.LB1 fFz14 fuel (Fz50.C1 fFz14 K fuel)) fuel (Fz50.emb1 e0 (((List.length a0) : Nat) : Int) a0 (0 : Int)) := by kernel_rfl
theorem Fz50.red {α : Type} (fFz14 : Fz14.A → Option Fz14.B) (K : Res → Option α) (fuel : Nat) (e0 : TypeId) (a0 : (List Zs)) : run TT small (Fz50.tab fFz14) Try.f125 Fz50.ann [] fuel [.obj false ⟨e0, (.st (.pair (.st (.pair (.int .u8) (.int .i16))) (.int .i16))), a0⟩, .fn 105 []] K = Fz50.pf fFz14 fuel a0 (fun r => K (Fz50.enc 0 r)) := by
  rw [Fz50.red_raw]
  simp only [Fz50.loop1, Fz50.tail1, Fz50.tail2]
  all_goals kernel_rfl
theorem Fz50.sound (fFz14 : Fz14.A → Option Fz14.B) (hFz14 : Fz14.S fFz14) (f : Fz50.A → Option Fz50.B) (hf : ∀ x r, f x = some r → ∃ fuel, ∀ k : Fz50.B → Option Res, Fz50.pf fFz14 fuel x k = k r) : Fz50.S f := by
  refine fn_sound (by kernel_rfl) (ttok _) (tab_sound [(105, Fz14.sig fFz14)] (List.forall_mem_cons.2 ⟨hFz14, fun p hp => nomatch hp⟩)) (fn := Try.f125) (by kernel_rfl) (by decide) (by decide) Fz50.ann [] _ rfl (fun avs r hr => ?_) (by kernel_rfl)
  obtain ⟨x, y, h1, h2, rfl⟩ := mkSig_run hr
  obtain ⟨e0, rfl⟩ := Fz50.dec_eq h1
  obtain ⟨fuel, hk⟩ := hf x y h2
  exact ⟨fuel, (Fz50.red fFz14 some fuel e0 x).trans (hk (fun r => some (Fz50.enc 0 r)))⟩
theorem Fz50.of_cl {fFz14 : Fz14.A → Option Fz14.B} (hFz14 : Fz14.S fFz14) {P : Fz50.A → Prop} {v : Fz50.A → Fz50.B} (hp : ∀ x, P x → ∀ k : Fz50.B → Option Res, Fz50.pf fFz14 BIG x k = k (v x)) : Fz50.S (cl P v) := Fz50.sound _ hFz14 _ (fun x r hr => by obtain ⟨h1, rfl⟩ := cl_some hr; exact ⟨BIG, hp x h1⟩)
noncomputable def Fz45.tab (fFz50 : Fz50.A → Option Fz50.B) : FuncId → Option Sig := tabOf [(125, Fz50.sig fFz50)]
noncomputable def Fz45.E (fFz50 : Fz50.A → Option Fz50.B) : Env := ⟨TT, small, Fz45.tab fFz50, 1, 9⟩
def Fz45.ann : Ann := .nil
noncomputable def Fz45.pf {α : Type} (fFz50 : Fz50.A → Option Fz50.B) (fuel : Nat) (a0 : (List Zs)) (k : Bool → Option α) : Option α :=
  (fFz50 a0).bind fun r1 => k (decide (r1 ≥ (0 : Int)))
theorem Fz45.red {α : Type} (fFz50 : Fz50.A → Option Fz50.B) (K : Res → Option α) (fuel : Nat) (e0 : TypeId) (a0 : (List Zs)) : run TT small (Fz45.tab fFz50) Try.f99 Fz45.ann [] fuel [.obj false ⟨e0, (.st (.pair (.st (.pair (.int .u8) (.int .i16))) (.int .i16))), a0⟩, .fn 105 []] K = Fz45.pf fFz50 fuel a0 (fun r => K (Fz45.enc 0 r)) := by kernel_rfl
theorem Fz45.sound (fFz50 : Fz50.A → Option Fz50.B) (hFz50 : Fz50.S fFz50) (f : Fz45.A → Option Fz45.B) (hf : ∀ x r, f x = some r → ∃ fuel, ∀ k : Fz45.B → Option Res, Fz45.pf fFz50 fuel x k = k r) : Fz45.S f := by
  refine fn_sound (by kernel_rfl) (ttok _) (tab_sound [(125, Fz50.sig fFz50)] (List.forall_mem_cons.2 ⟨hFz50, fun p hp => nomatch hp⟩)) (fn := Try.f99) (by kernel_rfl) (by decide) (by decide) Fz45.ann [] _ rfl (fun avs r hr => ?_) (by kernel_rfl)
  obtain ⟨x, y, h1, h2, rfl⟩ := mkSig_run hr
  obtain ⟨e0, rfl⟩ := Fz45.dec_eq h1
  obtain ⟨fuel, hk⟩ := hf x y h2
  exact ⟨fuel, (Fz45.red fFz50 some fuel e0 x).trans (hk (fun r => some (Fz45.enc 0 r)))⟩
theorem Fz45.of_cl {fFz50 : Fz50.A → Option Fz50.B} (hFz50 : Fz50.S fFz50) {P : Fz45.A → Prop} {v : Fz45.A → Fz45.B} (hp : ∀ x, P x → ∀ k : Fz45.B → Option Res, Fz45.pf fFz50 BIG x k = k (v x)) : Fz45.S (cl P v) := Fz45.sound _ hFz50 _ (fun x r hr => by obtain ⟨h1, rfl⟩ := cl_some hr; exact ⟨BIG, hp x h1⟩)
noncomputable def Fz13.tab (fFz45 : Fz45.A → Option Fz45.B) : FuncId → Option Sig := tabOf [(99, Fz45.sig fFz45)]
noncomputable def Fz13.E (fFz45 : Fz45.A → Option Fz45.B) : Env := ⟨TT, small, Fz13.tab fFz45, 1, 10⟩
def Fz13.ann : Ann := .nil
noncomputable def Fz13.pf {α : Type} (fFz45 : Fz45.A → Option Fz45.B) (fuel : Nat) (a0 : (List Zs)) (k : Bool → Option α) : Option α :=
  cond (decide ((((List.length a0) : Nat) : Int) > (6 : Int))) (k true) ((fFz45 a0).bind fun r1 => k r1)
theorem Fz13.red {α : Type} (fFz45 : Fz45.A → Option Fz45.B) (K : Res → Option α) (fuel : Nat) (e0 : TypeId) (a0 : (List Zs)) : run TT small (Fz13.tab fFz45) Try.f104 Fz13.ann [] fuel [.obj false ⟨e0, (.st (.pair (.st (.pair (.int .u8) (.int .i16))) (.int .i16))), a0⟩] K = Fz13.pf fFz45 fuel a0 (fun r => K (Fz13.enc 0 r)) := by kernel_rfl
theorem Fz13.sound (fFz45 : Fz45.A → Option Fz45.B) (hFz45 : Fz45.S fFz45) (f : Fz13.A → Option Fz13.B) (hf : ∀ x r, f x = some r → ∃ fuel, ∀ k : Fz13.B → Option Res, Fz13.pf fFz45 fuel x k = k r) : Fz13.S f := by
  refine fn_sound (by kernel_rfl) (ttok _) (tab_sound [(99, Fz45.sig fFz45)] (List.forall_mem_cons.2 ⟨hFz45, fun p hp => nomatch hp⟩)) (fn := Try.f104) (by kernel_rfl) (by decide) (by decide) Fz13.ann [] _ rfl (fun avs r hr => ?_) (by kernel_rfl)
  obtain ⟨x, y, h1, h2, rfl⟩ := mkSig_run hr
  obtain ⟨e0, rfl⟩ := Fz13.dec_eq h1
  obtain ⟨fuel, hk⟩ := hf x y h2
  exact ⟨fuel, (Fz13.red fFz45 some fuel e0 x).trans (hk (fun r => some (Fz13.enc 0 r)))⟩
theorem Fz13.of_cl {fFz45 : Fz45.A → Option Fz45.B} (hFz45 : Fz45.S fFz45) {P : Fz13.A → Prop} {v : Fz13.A → Fz13.B} (hp : ∀ x, P x → ∀ k : Fz13.B → Option Res, Fz13.pf fFz45 BIG x k = k (v x)) : Fz13.S (cl P v) := Fz13.sound _ hFz45 _ (fun x r hr => by obtain ⟨h1, rfl⟩ := cl_some hr; exact ⟨BIG, hp x h1⟩)
noncomputable def Fz49.tab (fFz13 : Fz13.A → Option Fz13.B) : FuncId → Option Sig := tabOf [(104, Fz13.sig fFz13)]
noncomputable def Fz49.E (fFz13 : Fz13.A → Option Fz13.B) : Env := ⟨TT, small, Fz49.tab fFz13, 1, 19⟩
def Fz49.ann : Ann := (.two .nil (.two (.two .nil (.one (.loop [0, 1, 7, 8] .nil))) .nil))
noncomputable def Fz49.emb1 (e0 : TypeId) (p1_0 : Int) (p1_1 : (List (List Zs))) (x1 : Int) : St := { slots := mkSlots 19 [(0, .sl 0 [] none), (1, .fn 104 []), (7, .val (.int .i64) p1_0), (8, .val (.int .i64) x1)], objs := mkObjs 39 [(0, .dat ⟨e0, (.row 52 (.st (.pair (.st (.pair (.int .u8) (.int .i16))) (.int .i16)))), p1_1, false, false, none⟩)] }
noncomputable def Fz49.LB1 {α : Type} (fFz13 : Fz13.A → Option Fz13.B) (fuel : Nat) (cont : Ex → St → Option α) : (St → Option α) → St → Option α := roundV (Fz49.E fFz13) fuel [true, false, true, false] (bodyOf Try.f126) Fz49.ann cont
noncomputable def Fz49.C1 {α : Type} (fFz13 : Fz13.A → Option Fz13.B) (K : Res → Option α) (fuel : Nat) : Ex → St → Option α := contAt (Fz49.E fFz13) fuel [true, false, true, false] (bodyOf Try.f126) Fz49.ann [] (finK TT 1 [some 0, none] Try.f126 [] K)
noncomputable def Fz49.ex1_0 (e0 : TypeId) (p1_0 : Int) (p1_1 : (List (List Zs))) (x1 : Int) (r1001 : Bool) : St := { slots := mkSlots 19 [(0, .sl 0 [] none), (1, .fn 104 []), (4, .val (.int .i64) x1), (5, .val (.int .i64) x1), (7, .val (.int .i64) p1_0), (8, .val (.int .i64) x1), (9, .val .bool (decide (x1 < p1_0))), (10, .val (.int .i64) x1), (11, .fn 104 []), (12, .sl 0 [] none), (13, .val (.int .i64) x1), (14, .ptr 0 [.idx (x1 : Int).toNat] false), (15, .sl 0 [.idx (x1 : Int).toNat] none), (16, .val .bool r1001), (17, .val (.int .i64) x1)], objs := mkObjs 39 [(0, .dat ⟨e0, (.row 52 (.st (.pair (.st (.pair (.int .u8) (.int .i16))) (.int .i16)))), p1_1, false, false, none⟩)] }
noncomputable def Fz49.ex1_1 (e0 : TypeId) (p1_0 : Int) (p1_1 : (List (List Zs))) (x1 : Int) : St := { slots := mkSlots 19 [(0, .sl 0 [] none), (1, .fn 104 []), (7, .val (.int .i64) p1_0), (8, .val (.int .i64) x1), (9, .val .bool (decide (x1 < p1_0)))], objs := mkObjs 39 [(0, .dat ⟨e0, (.row 52 (.st (.pair (.st (.pair (.int .u8) (.int .i16))) (.int .i16)))), p1_1, false, false, none⟩)] }
noncomputable def Fz49.B1 {α : Type} (fFz13 : Fz13.A → Option Fz13.B) (p1_0 : Int) (p1_1 : (List (List Zs))) (K0 : Int → Bool → Option α) (K1 : Int → Option α) (rec : Int → Option α) (x1 : Int) : Option α :=
  cond (decide (x1 < p1_0)) (cond (inB x1 (List.length p1_1)) ((fFz13 (List.getD p1_1 (x1 : Int).toNat ([] : List Zs))).bind fun r1001 => cond r1001 (K0 x1 r1001) (rec (IntKind.i64.wrap (x1 + (1 : Int))))) none) (K1 x1)
theorem Fz49.step1 {α : Type} (fFz13 : Fz13.A → Option Fz13.B) (fuel : Nat) (cont : Ex → St → Option α) (e0 : TypeId) (p1_0 : Int) (p1_1 : (List (List Zs))) (rec : St → Option α) (x1 : Int) : Fz49.LB1 fFz13 fuel cont rec (Fz49.emb1 e0 p1_0 p1_1 x1) = Fz49.B1 fFz13 p1_0 p1_1 (fun x1 r1001 => cont .ret (Fz49.ex1_0 e0 p1_0 p1_1 x1 r1001)) (fun x1 => cont (.exit 0) (Fz49.ex1_1 e0 p1_0 p1_1 x1)) (fun y => rec (Fz49.emb1 e0 p1_0 p1_1 y)) x1 := by kernel_rfl
theorem Fz49.loop1 {α : Type} (fFz13 : Fz13.A → Option Fz13.B) (fuel : Nat) (cont : Ex → St → Option α) (e0 : TypeId) (p1_0 : Int) (p1_1 : (List (List Zs))) (x1 : Int) : loopN (Fz49.LB1 fFz13 fuel cont) fuel (Fz49.emb1 e0 p1_0 p1_1 x1) = iter (Fz49.B1 fFz13 p1_0 p1_1 (fun x1 r1001 => cont .ret (Fz49.ex1_0 e0 p1_0 p1_1 x1 r1001)) (fun x1 => cont (.exit 0) (Fz49.ex1_1 e0 p1_0 p1_1 x1))) fuel x1 := loop_sim (fun rec x => Fz49.step1 fFz13 fuel cont e0 p1_0 p1_1 rec x) fuel x1
noncomputable def Fz49.pf {α : Type} (fFz13 : Fz13.A → Option Fz13.B) (fuel : Nat) (a0 : (List (List Zs))) (k : Int → Option α) : Option α :=
  iter (Fz49.B1 fFz13 (((List.length a0) : Nat) : Int) a0 (fun (x1 : Int) (r1001 : Bool) => k x1) (fun (x1 : Int) => k (-1 : Int))) fuel (0 : Int)
theorem Fz49.tail1 {α : Type} (fFz13 : Fz13.A → Option Fz13.B) (K : Res → Option α) (fuel : Nat) (e0 : TypeId) (a0 : (List (List Zs))) (x1 : Int) (r1001 : Bool) : Fz49.C1 fFz13 K fuel .ret (Fz49.ex1_0 e0 (((List.length a0) : Nat) : Int) a0 x1 r1001) = ((fun (k : Int → Option α) => k x1) (fun r => K (Fz49.enc 0 r))) := by kernel_rfl
theorem Fz49.tail2 {α : Type} (fFz13 : Fz13.A → Option Fz13.B) (K : Res → Option α) (fuel : Nat) (e0 : TypeId) (a0 : (List (List Zs))) (x1 : Int) : Fz49.C1 fFz13 K fuel (.exit 0) (Fz49.ex1_1 e0 (((List.length a0) : Nat) : Int) a0 x1) = ((fun (k : Int → Option α) => k (-1 : Int)) (fun r => K (Fz49.enc 0 r))) := by kernel_rfl
theorem Fz49.red_raw {α : Type} (fFz13 : Fz13.A → Option Fz13.B) (K : Res → Option α) (fuel : Nat) (e0 : TypeId) (a0 : (List (List Zs))) : run TT small (Fz49.tab fFz13) Try.f126 Fz49.ann [] fuel [.obj false ⟨e0, (.row 52 (.st (.pair (.st (.pair (.int .u8) (.int .i16))) (.int .i16)))), a0⟩, .fn 104 []] K = loopN (Fz49.LB1 fFz13 fuel (Fz49.C1 fFz13 K fuel)) fuel (Fz49.emb1 e0 (((List.length a0) : Nat) : Int) a0 (0 : Int)) := by kernel_rfl
theorem Fz49.red {α : Type} (fFz13 : Fz13.A → Option Fz13.B) (K : Res → Option α) (fuel : Nat) (e0 : TypeId) (a0 : (List (List Zs))) : run TT small (Fz49.tab fFz13) Try.f126 Fz49.ann [] fuel [.obj false ⟨e0, (.row 52 (.st (.pair (.st (.pair (.int .u8) (.int .i16))) (.int .i16)))), a0⟩, .fn 104 []] K = Fz49.pf fFz13 fuel a0 (fun r => K (Fz49.enc 0 r)) := by
  rw [Fz49.red_raw]
  simp only [Fz49.loop1, Fz49.tail1, Fz49.tail2]
  all_goals kernel_rfl
theorem Fz49.sound (fFz13 : Fz13.A → Option Fz13.B) (hFz13 : Fz13.S fFz13) (f : Fz49.A → Option Fz49.B) (hf : ∀ x r, f x = some r → ∃ fuel, ∀ k : Fz49.B → Option Res, Fz49.pf fFz13 fuel x k = k r) : Fz49.S f := by
  refine fn_sound (by kernel_rfl) (ttok _) (tab_sound [(104, Fz13.sig fFz13)] (List.forall_mem_cons.2 ⟨hFz13, fun p hp => nomatch hp⟩)) (fn := Try.f126) (by kernel_rfl) (by decide) (by decide) Fz49.ann [] _ rfl (fun avs r hr => ?_) (by kernel_rfl)
  obtain ⟨x, y, h1, h2, rfl⟩ := mkSig_run hr
  obtain ⟨e0, rfl⟩ := Fz49.dec_eq h1
  obtain ⟨fuel, hk⟩ := hf x y h2
  exact ⟨fuel, (Fz49.red fFz13 some fuel e0 x).trans (hk (fun r => some (Fz49.enc 0 r)))⟩
theorem Fz49.of_cl {fFz13 : Fz13.A → Option Fz13.B} (hFz13 : Fz13.S fFz13) {P : Fz49.A → Prop} {v : Fz49.A → Fz49.B} (hp : ∀ x, P x → ∀ k : Fz49.B → Option Res, Fz49.pf fFz13 BIG x k = k (v x)) : Fz49.S (cl P v) := Fz49.sound _ hFz13 _ (fun x r hr => by obtain ⟨h1, rfl⟩ := cl_some hr; exact ⟨BIG, hp x h1⟩)
noncomputable def Fz44.tab (fFz49 : Fz49.A → Option Fz49.B) : FuncId → Option Sig := tabOf [(126, Fz49.sig fFz49)]
noncomputable def Fz44.E (fFz49 : Fz49.A → Option Fz49.B) : Env := ⟨TT, small, Fz44.tab fFz49, 1, 9⟩
def Fz44.ann : Ann := .nil
noncomputable def Fz44.pf {α : Type} (fFz49 : Fz49.A → Option Fz49.B) (fuel : Nat) (a0 : (List (List Zs))) (k : Bool → Option α) : Option α :=
  (fFz49 a0).bind fun r1 => k (decide (r1 ≥ (0 : Int)))
theorem Fz44.red {α : Type} (fFz49 : Fz49.A → Option Fz49.B) (K : Res → Option α) (fuel : Nat) (e0 : TypeId) (a0 : (List (List Zs))) : run TT small (Fz44.tab fFz49) Try.f103 Fz44.ann [] fuel [.obj false ⟨e0, (.row 52 (.st (.pair (.st (.pair (.int .u8) (.int .i16))) (.int .i16)))), a0⟩, .fn 104 []] K = Fz44.pf fFz49 fuel a0 (fun r => K (Fz44.enc 0 r)) := by kernel_rfl
theorem Fz44.sound (fFz49 : Fz49.A → Option Fz49.B) (hFz49 : Fz49.S fFz49) (f : Fz44.A → Option Fz44.B) (hf : ∀ x r, f x = some r → ∃ fuel, ∀ k : Fz44.B → Option Res, Fz44.pf fFz49 fuel x k = k r) : Fz44.S f := by
  refine fn_sound (by kernel_rfl) (ttok _) (tab_sound [(126, Fz49.sig fFz49)] (List.forall_mem_cons.2 ⟨hFz49, fun p hp => nomatch hp⟩)) (fn := Try.f103) (by kernel_rfl) (by decide) (by decide) Fz44.ann [] _ rfl (fun avs r hr => ?_) (by kernel_rfl)
  obtain ⟨x, y, h1, h2, rfl⟩ := mkSig_run hr
  obtain ⟨e0, rfl⟩ := Fz44.dec_eq h1
  obtain ⟨fuel, hk⟩ := hf x y h2
  exact ⟨fuel, (Fz44.red fFz49 some fuel e0 x).trans (hk (fun r => some (Fz44.enc 0 r)))⟩
theorem Fz44.of_cl {fFz49 : Fz49.A → Option Fz49.B} (hFz49 : Fz49.S fFz49) {P : Fz44.A → Prop} {v : Fz44.A → Fz44.B} (hp : ∀ x, P x → ∀ k : Fz44.B → Option Res, Fz44.pf fFz49 BIG x k = k (v x)) : Fz44.S (cl P v) := Fz44.sound _ hFz49 _ (fun x r hr => by obtain ⟨h1, rfl⟩ := cl_some hr; exact ⟨BIG, hp x h1⟩)
noncomputable def Fz12.tab (fFz44 : Fz44.A → Option Fz44.B) : FuncId → Option Sig := tabOf [(103, Fz44.sig fFz44)]
noncomputable def Fz12.E (fFz44 : Fz44.A → Option Fz44.B) : Env := ⟨TT, small, Fz12.tab fFz44, 1, 11⟩
def Fz12.ann : Ann := .nil
noncomputable def Fz12.pf {α : Type} (fFz44 : Fz44.A → Option Fz44.B) (fuel : Nat) (a0 : (List (List Zs))) (k : Bool → Option α) : Option α :=
  cond (decide ((((List.length a0) : Nat) : Int) ≤ (8 : Int))) ((fFz44 a0).bind fun r1 => k (!r1)) (k false)
theorem Fz12.red {α : Type} (fFz44 : Fz44.A → Option Fz44.B) (K : Res → Option α) (fuel : Nat) (e0 : TypeId) (a0 : (List (List Zs))) : run TT small (Fz12.tab fFz44) Try.f66 Fz12.ann [] fuel [.obj false ⟨e0, (.row 52 (.st (.pair (.st (.pair (.int .u8) (.int .i16))) (.int .i16)))), a0⟩] K = Fz12.pf fFz44 fuel a0 (fun r => K (Fz12.enc 0 r)) := by kernel_rfl
theorem Fz12.sound (fFz44 : Fz44.A → Option Fz44.B) (hFz44 : Fz44.S fFz44) (f : Fz12.A → Option Fz12.B) (hf : ∀ x r, f x = some r → ∃ fuel, ∀ k : Fz12.B → Option Res, Fz12.pf fFz44 fuel x k = k r) : Fz12.S f := by
  refine fn_sound (by kernel_rfl) (ttok _) (tab_sound [(103, Fz44.sig fFz44)] (List.forall_mem_cons.2 ⟨hFz44, fun p hp => nomatch hp⟩)) (fn := Try.f66) (by kernel_rfl) (by decide) (by decide) Fz12.ann [] _ rfl (fun avs r hr => ?_) (by kernel_rfl)
  obtain ⟨x, y, h1, h2, rfl⟩ := mkSig_run hr
  obtain ⟨e0, rfl⟩ := Fz12.dec_eq h1
  obtain ⟨fuel, hk⟩ := hf x y h2
  exact ⟨fuel, (Fz12.red fFz44 some fuel e0 x).trans (hk (fun r => some (Fz12.enc 0 r)))⟩
theorem Fz12.of_cl {fFz44 : Fz44.A → Option Fz44.B} (hFz44 : Fz44.S fFz44) {P : Fz12.A → Prop} {v : Fz12.A → Fz12.B} (hp : ∀ x, P x → ∀ k : Fz12.B → Option Res, Fz12.pf fFz44 BIG x k = k (v x)) : Fz12.S (cl P v) := Fz12.sound _ hFz44 _ (fun x r hr => by obtain ⟨h1, rfl⟩ := cl_some hr; exact ⟨BIG, hp x h1⟩)
noncomputable def Fz16.tab (fFz11 : Fz11.A → Option Fz11.B) : FuncId → Option Sig := tabOf [(75, Fz11.sig fFz11)]
noncomputable def Fz16.E (fFz11 : Fz11.A → Option Fz11.B) : Env := ⟨TT, small, Fz16.tab fFz11, 0, 6⟩
def Fz16.ann : Ann := .nil
noncomputable def Fz16.pf {α : Type} (fFz11 : Fz11.A → Option Fz11.B) (fuel : Nat) (a0 : Zb) (k : Bool → Option α) : Option α :=
  (fFz11 a0).bind fun r1 => k (!r1)
theorem Fz16.red {α : Type} (fFz11 : Fz11.A → Option Fz11.B) (K : Res → Option α) (fuel : Nat) (a0 : Zb) : run TT small (Fz16.tab fFz11) Try.f111 Fz16.ann [] fuel [.val (.st (.pair (.int .u8) (.int .i16))) a0] K = Fz16.pf fFz11 fuel a0 (fun r => K (Fz16.enc 0 r)) := by kernel_rfl
theorem Fz16.sound (fFz11 : Fz11.A → Option Fz11.B) (hFz11 : Fz11.S fFz11) (f : Fz16.A → Option Fz16.B) (hf : ∀ x r, f x = some r → ∃ fuel, ∀ k : Fz16.B → Option Res, Fz16.pf fFz11 fuel x k = k r) : Fz16.S f := by
  refine fn_sound (by kernel_rfl) (ttok _) (tab_sound [(75, Fz11.sig fFz11)] (List.forall_mem_cons.2 ⟨hFz11, fun p hp => nomatch hp⟩)) (fn := Try.f111) (by kernel_rfl) (by decide) (by decide) Fz16.ann [] _ rfl (fun avs r hr => ?_) (by kernel_rfl)
  obtain ⟨x, y, h1, h2, rfl⟩ := mkSig_run hr
  obtain rfl := Fz16.dec_eq h1
  obtain ⟨fuel, hk⟩ := hf x y h2
  exact ⟨fuel, (Fz16.red fFz11 some fuel x).trans (hk (fun r => some (Fz16.enc 0 r)))⟩
theorem Fz16.of_cl {fFz11 : Fz11.A → Option Fz11.B} (hFz11 : Fz11.S fFz11) {P : Fz16.A → Prop} {v : Fz16.A → Fz16.B} (hp : ∀ x, P x → ∀ k : Fz16.B → Option Res, Fz16.pf fFz11 BIG x k = k (v x)) : Fz16.S (cl P v) := Fz16.sound _ hFz11 _ (fun x r hr => by obtain ⟨h1, rfl⟩ := cl_some hr; exact ⟨BIG, hp x h1⟩)
noncomputable def Fz48.tab (fFz16 : Fz16.A → Option Fz16.B) : FuncId → Option Sig := tabOf [(111, Fz16.sig fFz16)]
noncomputable def Fz48.E (fFz16 : Fz16.A → Option Fz16.B) : Env := ⟨TT, small, Fz48.tab fFz16, 1, 19⟩
def Fz48.ann : Ann := (.two .nil (.two (.two .nil (.one (.loop [0, 1, 7, 8] .nil))) .nil))
noncomputable def Fz48.emb1 (e0 : TypeId) (p1_0 : Int) (p1_1 : (List Zb)) (x1 : Int) : St := { slots := mkSlots 19 [(0, .sl 0 [] none), (1, .fn 111 []), (7, .val (.int .i64) p1_0), (8, .val (.int .i64) x1)], objs := mkObjs 39 [(0, .dat ⟨e0, (.st (.pair (.int .u8) (.int .i16))), p1_1, false, false, none⟩)] }
noncomputable def Fz48.LB1 {α : Type} (fFz16 : Fz16.A → Option Fz16.B) (fuel : Nat) (cont : Ex → St → Option α) : (St → Option α) → St → Option α := roundV (Fz48.E fFz16) fuel [true, false, true, false] (bodyOf Try.f131) Fz48.ann cont
noncomputable def Fz48.C1 {α : Type} (fFz16 : Fz16.A → Option Fz16.B) (K : Res → Option α) (fuel : Nat) : Ex → St → Option α := contAt (Fz48.E fFz16) fuel [true, false, true, false] (bodyOf Try.f131) Fz48.ann [] (finK TT 1 [some 0, none] Try.f131 [] K)
noncomputable def Fz48.ex1_0 (e0 : TypeId) (p1_0 : Int) (p1_1 : (List Zb)) (x1 : Int) (r1001 : Bool) : St := { slots := mkSlots 19 [(0, .sl 0 [] none), (1, .fn 111 []), (4, .val (.int .i64) x1), (5, .val (.int .i64) x1), (7, .val (.int .i64) p1_0), (8, .val (.int .i64) x1), (9, .val .bool (decide (x1 < p1_0))), (10, .val (.int .i64) x1), (11, .fn 111 []), (12, .sl 0 [] none), (13, .val (.int .i64) x1), (14, .ptr 0 [.idx (x1 : Int).toNat] false), (15, .val (.st (.pair (.int .u8) (.int .i16))) (List.getD p1_1 (x1 : Int).toNat ((0 : Int), (0 : Int)))), (16, .val .bool r1001), (17, .val (.int .i64) x1)], objs := mkObjs 39 [(0, .dat ⟨e0, (.st (.pair (.int .u8) (.int .i16))), p1_1, false, false, none⟩)] }
noncomputable def Fz48.ex1_1 (e0 : TypeId) (p1_0 : Int) (p1_1 : (List Zb)) (x1 : Int) : St := { slots := mkSlots 19 [(0, .sl 0 [] none), (1, .fn 111 []), (7, .val (.int .i64) p1_0), (8, .val (.int .i64) x1), (9, .val .bool (decide (x1 < p1_0)))], objs := mkObjs 39 [(0, .dat ⟨e0, (.st (.pair (.int .u8) (.int .i16))), p1_1, false, false, none⟩)] }
noncomputable def Fz48.B1 {α : Type} (fFz16 : Fz16.A → Option Fz16.B) (p1_0 : Int) (p1_1 : (List Zb)) (K0 : Int → Bool → Option α) (K1 : Int → Option α) (rec : Int → Option α) (x1 : Int) : Option α :=
  cond (decide (x1 < p1_0)) (cond (inB x1 (List.length p1_1)) ((fFz16 (List.getD p1_1 (x1 : Int).toNat ((0 : Int), (0 : Int)))).bind fun r1001 => cond r1001 (K0 x1 r1001) (rec (IntKind.i64.wrap (x1 + (1 : Int))))) none) (K1 x1)
theorem Fz48.step1 {α : Type} (fFz16 : Fz16.A → Option Fz16.B) (fuel : Nat) (cont : Ex → St → Option α) (e0 : TypeId) (p1_0 : Int) (p1_1 : (List Zb)) (rec : St → Option α) (x1 : Int) : Fz48.LB1 fFz16 fuel cont rec (Fz48.emb1 e0 p1_0 p1_1 x1) = Fz48.B1 fFz16 p1_0 p1_1 (fun x1 r1001 => cont .ret (Fz48.ex1_0 e0 p1_0 p1_1 x1 r1001)) (fun x1 => cont (.exit 0) (Fz48.ex1_1 e0 p1_0 p1_1 x1)) (fun y => rec (Fz48.emb1 e0 p1_0 p1_1 y)) x1 := by kernel_rfl
theorem Fz48.loop1 {α : Type} (fFz16 : Fz16.A → Option Fz16.B) (fuel : Nat) (cont : Ex → St → Option α) (e0 : TypeId) (p1_0 : Int) (p1_1 : (List Zb)) (x1 : Int) : loopN (Fz48.LB1 fFz16 fuel cont) fuel (Fz48.emb1 e0 p1_0 p1_1 x1) = iter (Fz48.B1 fFz16 p1_0 p1_1 (fun x1 r1001 => cont .ret (Fz48.ex1_0 e0 p1_0 p1_1 x1 r1001)) (fun x1 => cont (.exit 0) (Fz48.ex1_1 e0 p1_0 p1_1 x1))) fuel x1 := loop_sim (fun rec x => Fz48.step1 fFz16 fuel cont e0 p1_0 p1_1 rec x) fuel x1
noncomputable def Fz48.pf {α : Type} (fFz16 : Fz16.A → Option Fz16.B) (fuel : Nat) (a0 : (List Zb)) (k : Int → Option α) : Option α :=
  iter (Fz48.B1 fFz16 (((List.length a0) : Nat) : Int) a0 (fun (x1 : Int) (r1001 : Bool) => k x1) (fun (x1 : Int) => k (-1 : Int))) fuel (0 : Int)
theorem Fz48.tail1 {α : Type} (fFz16 : Fz16.A → Option Fz16.B) (K : Res → Option α) (fuel : Nat) (e0 : TypeId) (a0 : (List Zb)) (x1 : Int) (r1001 : Bool) : Fz48.C1 fFz16 K fuel .ret (Fz48.ex1_0 e0 (((List.length a0) : Nat) : Int) a0 x1 r1001) = ((fun (k : Int → Option α) => k x1) (fun r => K (Fz48.enc 0 r))) := by kernel_rfl
theorem Fz48.tail2 {α : Type} (fFz16 : Fz16.A → Option Fz16.B) (K : Res → Option α) (fuel : Nat) (e0 : TypeId) (a0 : (List Zb)) (x1 : Int) : Fz48.C1 fFz16 K fuel (.exit 0) (Fz48.ex1_1 e0 (((List.length a0) : Nat) : Int) a0 x1) = ((fun (k : Int → Option α) => k (-1 : Int)) (fun r => K (Fz48.enc 0 r))) := by kernel_rfl
theorem Fz48.red_raw {α : Type} (fFz16 : Fz16.A → Option Fz16.B) (K : Res → Option α) (fuel : Nat) (e0 : TypeId) (a0 : (List Zb)) : run TT small (Fz48.tab fFz16) Try.f131 Fz48.ann [] fuel [.obj false ⟨e0, (.st (.pair (.int .u8) (.int .i16))), a0⟩, .fn 111 []] K = loopN (Fz48.LB1 fFz16 fuel (Fz48.C1 fFz16 K fuel)) fuel (Fz48.emb1 e0 (((List.length a0) : Nat) : Int) a0 (0 : Int)) := by kernel_rfl
theorem Fz48.red {α : Type} (fFz16 : Fz16.A → Option Fz16.B) (K : Res → Option α) (fuel : Nat) (e0 : TypeId) (a0 : (List Zb)) : run TT small (Fz48.tab fFz16) Try.f131 Fz48.ann [] fuel [.obj false ⟨e0, (.st (.pair (.int .u8) (.int .i16))), a0⟩, .fn 111 []] K = Fz48.pf fFz16 fuel a0 (fun r => K (Fz48.enc 0 r)) := by
  rw [Fz48.red_raw]
  simp only [Fz48.loop1, Fz48.tail1, Fz48.tail2]
  all_goals kernel_rfl
theorem Fz48.sound (fFz16 : Fz16.A → Option Fz16.B) (hFz16 : Fz16.S fFz16) (f : Fz48.A → Option Fz48.B) (hf : ∀ x r, f x = some r → ∃ fuel, ∀ k : Fz48.B → Option Res, Fz48.pf fFz16 fuel x k = k r) : Fz48.S f := by
  refine fn_sound (by kernel_rfl) (ttok _) (tab_sound [(111, Fz16.sig fFz16)] (List.forall_mem_cons.2 ⟨hFz16, fun p hp => nomatch hp⟩)) (fn := Try.f131) (by kernel_rfl) (by decide) (by decide) Fz48.ann [] _ rfl (fun avs r hr => ?_) (by kernel_rfl)
  obtain ⟨x, y, h1, h2, rfl⟩ := mkSig_run hr
  obtain ⟨e0, rfl⟩ := Fz48.dec_eq h1
  obtain ⟨fuel, hk⟩ := hf x y h2
  exact ⟨fuel, (Fz48.red fFz16 some fuel e0 x).trans (hk (fun r => some (Fz48.enc 0 r)))⟩
theorem Fz48.of_cl {fFz16 : Fz16.A → Option Fz16.B} (hFz16 : Fz16.S fFz16) {P : Fz48.A → Prop} {v : Fz48.A → Fz48.B} (hp : ∀ x, P x → ∀ k : Fz48.B → Option Res, Fz48.pf fFz16 BIG x k = k (v x)) : Fz48.S (cl P v) := Fz48.sound _ hFz16 _ (fun x r hr => by obtain ⟨h1, rfl⟩ := cl_some hr; exact ⟨BIG, hp x h1⟩)
noncomputable def Fz43.tab (fFz48 : Fz48.A → Option Fz48.B) : FuncId → Option Sig := tabOf [(131, Fz48.sig fFz48)]
noncomputable def Fz43.E (fFz48 : Fz48.A → Option Fz48.B) : Env := ⟨TT, small, Fz43.tab fFz48, 1, 9⟩
def Fz43.ann : Ann := .nil
noncomputable def Fz43.pf {α : Type} (fFz48 : Fz48.A → Option Fz48.B) (fuel : Nat) (a0 : (List Zb)) (k : Bool → Option α) : Option α :=
  (fFz48 a0).bind fun r1 => k (decide (r1 ≥ (0 : Int)))
theorem Fz43.red {α : Type} (fFz48 : Fz48.A → Option Fz48.B) (K : Res → Option α) (fuel : Nat) (e0 : TypeId) (a0 : (List Zb)) : run TT small (Fz43.tab fFz48) Try.f110 Fz43.ann [] fuel [.obj false ⟨e0, (.st (.pair (.int .u8) (.int .i16))), a0⟩, .fn 111 []] K = Fz43.pf fFz48 fuel a0 (fun r => K (Fz43.enc 0 r)) := by kernel_rfl
theorem Fz43.sound (fFz48 : Fz48.A → Option Fz48.B) (hFz48 : Fz48.S fFz48) (f : Fz43.A → Option Fz43.B) (hf : ∀ x r, f x = some r → ∃ fuel, ∀ k : Fz43.B → Option Res, Fz43.pf fFz48 fuel x k = k r) : Fz43.S f := by
  refine fn_sound (by kernel_rfl) (ttok _) (tab_sound [(131, Fz48.sig fFz48)] (List.forall_mem_cons.2 ⟨hFz48, fun p hp => nomatch hp⟩)) (fn := Try.f110) (by kernel_rfl) (by decide) (by decide) Fz43.ann [] _ rfl (fun avs r hr => ?_) (by kernel_rfl)
  obtain ⟨x, y, h1, h2, rfl⟩ := mkSig_run hr
  obtain ⟨e0, rfl⟩ := Fz43.dec_eq h1
  obtain ⟨fuel, hk⟩ := hf x y h2
  exact ⟨fuel, (Fz43.red fFz48 some fuel e0 x).trans (hk (fun r => some (Fz43.enc 0 r)))⟩
theorem Fz43.of_cl {fFz48 : Fz48.A → Option Fz48.B} (hFz48 : Fz48.S fFz48) {P : Fz43.A → Prop} {v : Fz43.A → Fz43.B} (hp : ∀ x, P x → ∀ k : Fz43.B → Option Res, Fz43.pf fFz48 BIG x k = k (v x)) : Fz43.S (cl P v) := Fz43.sound _ hFz48 _ (fun x r hr => by obtain ⟨h1, rfl⟩ := cl_some hr; exact ⟨BIG, hp x h1⟩)
noncomputable def Fz15.tab (fFz43 : Fz43.A → Option Fz43.B) : FuncId → Option Sig := tabOf [(110, Fz43.sig fFz43)]
noncomputable def Fz15.E (fFz43 : Fz43.A → Option Fz43.B) : Env := ⟨TT, small, Fz15.tab fFz43, 1, 6⟩
def Fz15.ann : Ann := .nil
noncomputable def Fz15.pf {α : Type} (fFz43 : Fz43.A → Option Fz43.B) (fuel : Nat) (a0 : (List Zb)) (k : Bool → Option α) : Option α :=
  (fFz43 a0).bind fun r1 => k (!r1)
theorem Fz15.red {α : Type} (fFz43 : Fz43.A → Option Fz43.B) (K : Res → Option α) (fuel : Nat) (e0 : TypeId) (a0 : (List Zb)) : run TT small (Fz15.tab fFz43) Try.f79 Fz15.ann [] fuel [.obj false ⟨e0, (.st (.pair (.int .u8) (.int .i16))), a0⟩] K = Fz15.pf fFz43 fuel a0 (fun r => K (Fz15.enc 0 r)) := by kernel_rfl
theorem Fz15.sound (fFz43 : Fz43.A → Option Fz43.B) (hFz43 : Fz43.S fFz43) (f : Fz15.A → Option Fz15.B) (hf : ∀ x r, f x = some r → ∃ fuel, ∀ k : Fz15.B → Option Res, Fz15.pf fFz43 fuel x k = k r) : Fz15.S f := by
  refine fn_sound (by kernel_rfl) (ttok _) (tab_sound [(110, Fz43.sig fFz43)] (List.forall_mem_cons.2 ⟨hFz43, fun p hp => nomatch hp⟩)) (fn := Try.f79) (by kernel_rfl) (by decide) (by decide) Fz15.ann [] _ rfl (fun avs r hr => ?_) (by kernel_rfl)
  obtain ⟨x, y, h1, h2, rfl⟩ := mkSig_run hr
  obtain ⟨e0, rfl⟩ := Fz15.dec_eq h1
  obtain ⟨fuel, hk⟩ := hf x y h2
  exact ⟨fuel, (Fz15.red fFz43 some fuel e0 x).trans (hk (fun r => some (Fz15.enc 0 r)))⟩
theorem Fz15.of_cl {fFz43 : Fz43.A → Option Fz43.B} (hFz43 : Fz43.S fFz43) {P : Fz15.A → Prop} {v : Fz15.A → Fz15.B} (hp : ∀ x, P x → ∀ k : Fz15.B → Option Res, Fz15.pf fFz43 BIG x k = k (v x)) : Fz15.S (cl P v) := Fz15.sound _ hFz43 _ (fun x r hr => by obtain ⟨h1, rfl⟩ := cl_some hr; exact ⟨BIG, hp x h1⟩)
noncomputable def Fz18.tab (fFz22 : Fz22.A → Option Fz22.B) : FuncId → Option Sig := tabOf [(102, Fz22.sig fFz22)]
noncomputable def Fz18.E (fFz22 : Fz22.A → Option Fz22.B) : Env := ⟨TT, small, Fz18.tab fFz22, 0, 5⟩
def Fz18.ann : Ann := .nil
noncomputable def Fz18.pf {α : Type} (fFz22 : Fz22.A → Option Fz22.B) (fuel : Nat) (a0 : Int) (k : Bool → Option α) : Option α :=
  (fFz22 (a0, (0 : Int), (2000 : Int))).bind fun r1 => k r1
theorem Fz18.red {α : Type} (fFz22 : Fz22.A → Option Fz22.B) (K : Res → Option α) (fuel : Nat) (a0 : Int) : run TT small (Fz18.tab fFz22) Try.f61 Fz18.ann [] fuel [.val (.int .i64) a0] K = Fz18.pf fFz22 fuel a0 (fun r => K (Fz18.enc 0 r)) := by kernel_rfl
theorem Fz18.sound (fFz22 : Fz22.A → Option Fz22.B) (hFz22 : Fz22.S fFz22) (f : Fz18.A → Option Fz18.B) (hf : ∀ x r, f x = some r → ∃ fuel, ∀ k : Fz18.B → Option Res, Fz18.pf fFz22 fuel x k = k r) : Fz18.S f := by
  refine fn_sound (by kernel_rfl) (ttok _) (tab_sound [(102, Fz22.sig fFz22)] (List.forall_mem_cons.2 ⟨hFz22, fun p hp => nomatch hp⟩)) (fn := Try.f61) (by kernel_rfl) (by decide) (by decide) Fz18.ann [] _ rfl (fun avs r hr => ?_) (by kernel_rfl)
  obtain ⟨x, y, h1, h2, rfl⟩ := mkSig_run hr
  obtain rfl := Fz18.dec_eq h1
  obtain ⟨fuel, hk⟩ := hf x y h2
  exact ⟨fuel, (Fz18.red fFz22 some fuel x).trans (hk (fun r => some (Fz18.enc 0 r)))⟩
theorem Fz18.of_tot {fFz22 : Fz22.A → Option Fz22.B} (hFz22 : Fz22.S fFz22) {v : Fz18.A → Fz18.B} (hp : ∀ x, ∀ k : Fz18.B → Option Res, Fz18.pf fFz22 BIG x k = k (v x)) : Fz18.S (tot v) := Fz18.sound _ hFz22 _ (fun x r hr => by obtain rfl := Option.some.inj hr; exact ⟨BIG, hp x⟩)
noncomputable def Fz17.tab : FuncId → Option Sig := tabOf []
noncomputable def Fz17.E : Env := ⟨TT, small, Fz17.tab , 0, 11⟩
def Fz17.ann : Ann := .nil
noncomputable def Fz17.pf {α : Type} (fuel : Nat) (a0 : Bool) (a1 : Bool) (k : Int → Option α) : Option α :=
  cond (!a0) (k (1 : Int)) (cond (!a1) (k (2 : Int)) (k (0 : Int)))
theorem Fz17.red {α : Type} (K : Res → Option α) (fuel : Nat) (a0 : Bool) (a1 : Bool) : run TT small Fz17.tab Try.f59 Fz17.ann [] fuel [.val .bool a0, .val .bool a1] K = Fz17.pf fuel a0 a1 (fun r => K (Fz17.enc 0 r)) := by kernel_rfl
theorem Fz17.sound (f : Fz17.A → Option Fz17.B) (hf : ∀ x r, f x = some r → ∃ fuel, ∀ k : Fz17.B → Option Res, Fz17.pf fuel x.1 x.2 k = k r) : Fz17.S f := by
  refine fn_sound (by kernel_rfl) (ttok _) (tab_sound [] (fun p hp => nomatch hp)) (fn := Try.f59) (by kernel_rfl) (by decide) (by decide) Fz17.ann [] _ rfl (fun avs r hr => ?_) (by kernel_rfl)
  obtain ⟨x, y, h1, h2, rfl⟩ := mkSig_run hr
  obtain rfl := Fz17.dec_eq h1
  obtain ⟨fuel, hk⟩ := hf x y h2
  exact ⟨fuel, (Fz17.red some fuel x.1 x.2).trans (hk (fun r => some (Fz17.enc 0 r)))⟩
theorem Fz17.of_tot {v : Fz17.A → Fz17.B} (hp : ∀ x, ∀ k : Fz17.B → Option Res, Fz17.pf BIG x.1 x.2 k = k (v x)) : Fz17.S (tot v) := Fz17.sound  _ (fun x r hr => by obtain rfl := Option.some.inj hr; exact ⟨BIG, hp x⟩)
noncomputable def Fz5.tab : FuncId → Option Sig := tabOf []
noncomputable def Fz5.E : Env := ⟨TT, small, Fz5.tab , 1, 21⟩
def Fz5.ann : Ann := (.two .nil (.two .nil (.two (.two .nil (.one (.loop [3, 7, 8, 9] .nil))) .nil)))
noncomputable def Fz5.emb1 (e0 : TypeId) (p1_0 : Int) (p1_1 : (List (List Zs))) (x1 : (Int × (List (List Zs)))) : St := { slots := mkSlots 21 [(3, .sl 43 [] none), (7, .sl 0 [] none), (8, .val (.int .i64) p1_0), (9, .val (.int .i64) x1.1)], objs := mkObjs 44 [(0, .dat ⟨e0, (.row 52 (.st (.pair (.st (.pair (.int .u8) (.int .i16))) (.int .i16)))), p1_1, false, false, none⟩), (43, .dat ⟨26, (.row 52 (.st (.pair (.st (.pair (.int .u8) (.int .i16))) (.int .i16)))), x1.2, true, true, none⟩)] }
noncomputable def Fz5.LB1 {α : Type} (fuel : Nat) (cont : Ex → St → Option α) : (St → Option α) → St → Option α := roundV Fz5.E fuel [true, true, false, true, false] (bodyOf Try.f67) Fz5.ann cont
noncomputable def Fz5.C1 {α : Type} (K : Res → Option α) (fuel : Nat) : Ex → St → Option α := contAt Fz5.E fuel [true, true, false, true, false] (bodyOf Try.f67) Fz5.ann [] (finK TT 1 [some 0] Try.f67 [] K)
noncomputable def Fz5.ex1_0 (e0 : TypeId) (p1_0 : Int) (p1_1 : (List (List Zs))) (x1 : (Int × (List (List Zs)))) : St := { slots := mkSlots 21 [(3, .sl 43 [] none), (7, .sl 0 [] none), (8, .val (.int .i64) p1_0), (9, .val (.int .i64) x1.1), (10, .val .bool (decide (x1.1 < p1_0)))], objs := mkObjs 44 [(0, .dat ⟨e0, (.row 52 (.st (.pair (.st (.pair (.int .u8) (.int .i16))) (.int .i16)))), p1_1, false, false, none⟩), (43, .dat ⟨26, (.row 52 (.st (.pair (.st (.pair (.int .u8) (.int .i16))) (.int .i16)))), x1.2, true, true, none⟩)] }
noncomputable def Fz5.B1 {α : Type} (p1_0 : Int) (p1_1 : (List (List Zs))) (K0 : (Int × (List (List Zs))) → Option α) (rec : (Int × (List (List Zs))) → Option α) (x1 : (Int × (List (List Zs)))) : Option α :=
  cond (decide (x1.1 < p1_0)) (cond (inB x1.1 (List.length p1_1)) (cond (okL (List.length ([] : List Zs) + List.length (List.getD p1_1 (x1.1 : Int).toNat ([] : List Zs)))) (cond (okL (List.length x1.2 + List.length [(([] : List Zs) ++ (List.getD p1_1 (x1.1 : Int).toNat ([] : List Zs)))])) (rec (((IntKind.i64.wrap (x1.1 + (1 : Int))), (x1.2 ++ [(([] : List Zs) ++ (List.getD p1_1 (x1.1 : Int).toNat ([] : List Zs)))])))) none) none) none) (K0 x1)
theorem Fz5.step1 {α : Type} (fuel : Nat) (cont : Ex → St → Option α) (e0 : TypeId) (p1_0 : Int) (p1_1 : (List (List Zs))) (rec : St → Option α) (x1 : (Int × (List (List Zs)))) : Fz5.LB1 fuel cont rec (Fz5.emb1 e0 p1_0 p1_1 x1) = Fz5.B1 p1_0 p1_1 (fun x1 => cont (.exit 0) (Fz5.ex1_0 e0 p1_0 p1_1 x1)) (fun y => rec (Fz5.emb1 e0 p1_0 p1_1 y)) x1 := by kernel_rfl
theorem Fz5.loop1 {α : Type} (fuel : Nat) (cont : Ex → St → Option α) (e0 : TypeId) (p1_0 : Int) (p1_1 : (List (List Zs))) (x1 : (Int × (List (List Zs)))) : loopN (Fz5.LB1 fuel cont) fuel (Fz5.emb1 e0 p1_0 p1_1 x1) = iter (Fz5.B1 p1_0 p1_1 (fun x1 => cont (.exit 0) (Fz5.ex1_0 e0 p1_0 p1_1 x1))) fuel x1 := loop_sim (fun rec x => Fz5.step1 fuel cont e0 p1_0 p1_1 rec x) fuel x1
noncomputable def Fz5.pf {α : Type} (fuel : Nat) (a0 : (List (List Zs))) (k : (List (List Zs)) → Option α) : Option α :=
  iter (Fz5.B1 (((List.length a0) : Nat) : Int) a0 (fun (x1 : (Int × (List (List Zs)))) => k x1.2)) fuel (((0 : Int), ([] : List (List Zs))))
theorem Fz5.tail1 {α : Type} (K : Res → Option α) (fuel : Nat) (e0 : TypeId) (a0 : (List (List Zs))) (x1 : (Int × (List (List Zs)))) : Fz5.C1 K fuel (.exit 0) (Fz5.ex1_0 e0 (((List.length a0) : Nat) : Int) a0 x1) = ((fun (k : (List (List Zs)) → Option α) => k x1.2) (fun r => K (Fz5.enc 0 r))) := by kernel_rfl
theorem Fz5.red_raw {α : Type} (K : Res → Option α) (fuel : Nat) (e0 : TypeId) (a0 : (List (List Zs))) : run TT small Fz5.tab Try.f67 Fz5.ann [] fuel [.obj false ⟨e0, (.row 52 (.st (.pair (.st (.pair (.int .u8) (.int .i16))) (.int .i16)))), a0⟩] K = loopN (Fz5.LB1 fuel (Fz5.C1 K fuel)) fuel (Fz5.emb1 e0 (((List.length a0) : Nat) : Int) a0 (((0 : Int), ([] : List (List Zs))))) := by kernel_rfl
theorem Fz5.red {α : Type} (K : Res → Option α) (fuel : Nat) (e0 : TypeId) (a0 : (List (List Zs))) : run TT small Fz5.tab Try.f67 Fz5.ann [] fuel [.obj false ⟨e0, (.row 52 (.st (.pair (.st (.pair (.int .u8) (.int .i16))) (.int .i16)))), a0⟩] K = Fz5.pf fuel a0 (fun r => K (Fz5.enc 0 r)) := by
  rw [Fz5.red_raw]
  simp only [Fz5.loop1, Fz5.tail1]
  all_goals kernel_rfl
theorem Fz5.sound (f : Fz5.A → Option Fz5.B) (hf : ∀ x r, f x = some r → ∃ fuel, ∀ k : Fz5.B → Option Res, Fz5.pf fuel x k = k r) : Fz5.S f := by
  refine fn_sound (by kernel_rfl) (ttok _) (tab_sound [] (fun p hp => nomatch hp)) (fn := Try.f67) (by kernel_rfl) (by decide) (by decide) Fz5.ann [] _ rfl (fun avs r hr => ?_) (by kernel_rfl)
  obtain ⟨x, y, h1, h2, rfl⟩ := mkSig_run hr
  obtain ⟨e0, rfl⟩ := Fz5.dec_eq h1
  obtain ⟨fuel, hk⟩ := hf x y h2
  exact ⟨fuel, (Fz5.red some fuel e0 x).trans (hk (fun r => some (Fz5.enc 0 r)))⟩
theorem Fz5.of_cl {P : Fz5.A → Prop} {v : Fz5.A → Fz5.B} (hp : ∀ x, P x → ∀ k : Fz5.B → Option Res, Fz5.pf BIG x k = k (v x)) : Fz5.S (cl P v) := Fz5.sound  _ (fun x r hr => by obtain ⟨h1, rfl⟩ := cl_some hr; exact ⟨BIG, hp x h1⟩)
end Go.Proofs.Yteaodjahafgbcaa.G
