/- For every input: the law FnExactAllWalkEvery holds of the program, and its arguments stay as they are. The walk, joined with the plain statement. -/
import Derived.Test.YtleeponhjgmioaaFacts
import Derived.Test.YtleeponhjgmioaaRows
import Derived.Test.YtleeponhjgmioaaPaf13
import Derived.Test.YtleeponhjgmioaaPaLaw0
import Derived.Test.YtleeponhjgmioaaPureFnExactAllWalkEvery
import Derived.Test.YtleeponhjgmioaaOpn
import Derived.WalkKit
import Derived.ProofKit
import Derived.OpenShut
import Derived.ShutString
import Derived.ChangeOld
import Derived.Below
import Derived.SizedLaws
namespace Go.Proofs.Ytleeponhjgmioaa.fnExactAllWalkEvery
open Go.ChangeShapes Go.WideShapes Go.ChangeAt Go.RowKit Go.Proofs.Ytleeponhjgmioaa.Pa Go.Proofs.Ytleeponhjgmioaa.Opn Go.Proofs.YtleeponhjgmioaaW.PrintWords
open Go.ChangeMaps (open_string shut_string)
set_option linter.unusedVariables false
theorem own : ownKnob Try.prog.godebug = none := by kernel_rfl
theorem laidOut : laidOutB Try.prog = true := by kernel_rfl
set_option maxRecDepth 100000 in
theorem lifted (os : Os) (started : os.Started) (H : Type) (enc : TypeId × Value → H) :
    ReturnsInHanded {} Try.checked os 13 .any (Rows.fnExactAllWalkEverySpec.pre6 enc Try.prog Try.f13 Rows.fnExactAllWalkEveryRow.domain false) (Rows.fnExactAllWalkEverySpec.post enc Try.prog Try.f13 false true false false) := by
  refine returnsInHanded_of_change_sized (C := Try.checked) own started (by kernel_rfl) Try.func13
    (ChangeSpec.witness6 (enc := enc) (C := Try.checked) false ⟨#[], #[.int .i64 0, .slice none 0 0], []⟩ 8 (by kernel_rfl) (by kernel_rfl) (by kernel_rfl) (by kernel_rfl)) ?_
  intro W base args ds gs before hval0 hW hcnd hsz0 _
  have hsz : (DataW.weightsEach Try.prog (Try.f13.params.toList ++ Rows.fnExactAllWalkEverySpec.plain.varTypes Try.prog) (ds ++ gs)).all (· ≤ reachBytes) = true := hsz0
  have hval : ∀ (j : Nat) t v, Try.f13.params[j]? = some t → args[j]? = some v → Value.okWide Try.prog W .any base t v := hval0
  have hW' := hW
  obtain ⟨p, q, hA0, hV, rfl, hfz, hnd⟩ := hW
  have hA : DataW.TrodAll enc Try.prog W 0 (fun _ => true) true Try.f13.params.toList args.toList ds p := hA0
  rw [Try.params13] at hA hval hsz
  obtain ⟨v0, vs0, d0, ds0, p0, q0, hargs, rfl, rfl, h0, r0⟩ := trodAll_cons hA
  obtain ⟨v1, vs1, d1, ds1, p1, q1, rfl, rfl, rfl, h1, r1⟩ := trodAll_cons r0
  obtain ⟨rfl, rfl, rfl⟩ := trodAll_nil r1
  obtain rfl : args = #[v0, v1] := by cases args; simp_all
  obtain ⟨rfl, rfl⟩ := trodVars_none hV
  have k0 := h0
  have lt0 : ∀ x ∈ p0, x.block < W.heap.size := by obtain ⟨m, hm⟩ := k0; exact DataW.trod_lt m _ _ _ hm
  obtain ⟨a0, rfl, w0⟩ := arg_int Try.underlying2 (hval 0 2 v0 rfl rfl) h0
  have k1 := h1
  have lt1 : ∀ x ∈ p1, x.block < W.heap.size := by obtain ⟨m, hm⟩ := k1; exact DataW.trod_lt m _ _ _ hm
  obtain ⟨A1, c1, l1, rfl, hc1, hC1, g1⟩ := arg_slice Try.underlying43 (hval 1 43 v1 rfl rfl) h1 (opn_slice Try.underlying43 (by kernel_rfl) opn_T37)
  obtain ⟨k, h⟩ := Pure.FnExactAllWalkEvery a0 l1 w0 g1.1 g1.2
  clear hA0 hval0 hsz0 hsz
  refine (laws_FnExactAllWalkEvery.calls k a0 _ _ l1 true W hC1 hc1 h).mono fun e W' ⟨he, bel0⟩ => ?_
  have bel : Below W.heap.size W W' := bel0
  subst he
  exact ⟨_, rfl, _, _, _, [], _, [], hW', trodAll_mk1 (shut_bool Try.underlying4 _), (trodAll_cons_mk (Below.trod laidOut (by kernel_rfl) (of_decide_eq_true (by kernel_rfl)) k0 bel lt0) (trodAll_cons_mk (Below.trod laidOut (by kernel_rfl) (of_decide_eq_true (by kernel_rfl)) k1 bel lt1) trodAll_mk0)), rfl, bel.frame _, fun h => by cases h⟩
theorem closed : joinedFacts Try.pinned.checked.prog 13 Try.f13 Rows.fnExactAllWalkEverySpec Rows.fnExactAllWalkEveryRow = true :=
  Facts.shape (by kernel_rfl) Facts.mayEnter (by rw [Facts.lifted]; rfl) (by rw [Facts.make]; rfl) (by kernel_rfl) (by kernel_rfl) (by kernel_rfl) (by kernel_rfl)
theorem over : Rows.fnExactAllWalkEveryRow.holds Try.pinned (OpenSpec.ofChange Rows.fnExactAllWalkEverySpec) :=
  OpenClaim.holds_of_wide 13 Try.f13 rfl rfl rfl rfl rfl rfl rfl ⟨rfl, rfl, rfl, rfl, rfl⟩ rfl rfl rfl rfl rfl (by kernel_rfl) Try.func13 closed
    (of_decide_eq_true (by kernel_rfl)) (by unfold Func.isWrapper; first | (rw [if_pos (by decide +kernel)]; kernel_rfl) | (rw [if_neg (by decide +kernel)]; exact ⟨rfl, rfl⟩))
    (fun os started H enc _ => lifted os started H enc)
theorem proved : Rows.FnExactAllWalkEverySaid := over
#print axioms proved
end Go.Proofs.Ytleeponhjgmioaa.fnExactAllWalkEvery
namespace Go.Proofs.Ytleeponhjgmioaa
/-- The row, under a short name, for the claim. -/
theorem fnExactAllWalkEvery_holds : Rows.FnExactAllWalkEverySaid := fnExactAllWalkEvery.proved
end Go.Proofs.Ytleeponhjgmioaa
