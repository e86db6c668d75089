/- For every input: the law FnPacked holds of the program, and its arguments stay as they are. The reading, joined with the plain proof. -/
import Derived.Test.YtlipfbihlmlplaaFacts
import Derived.Test.YtlipfbihlmlplaaRows
import Derived.Test.YtlipfbihlmlplaaX
import Derived.WalkKit
import Derived.ProofKit
import Derived.OpenShut
import Derived.ShutString
import Derived.ChangeOld
import Derived.Below
import Derived.SizedLaws
namespace Go.Proofs.Ytlipfbihlmlplaa.fnPacked
open Go.ChangeShapes Go.WideShapes Go.ChangeAt Go.RowKit Go.Proofs.Ytlipfbihlmlplaa.G
open Go.ChangeMaps (open_string shut_string)
set_option linter.unusedVariables false
theorem own : ownKnob Try.prog.godebug = none := by kernel_rfl
theorem laidOut : laidOutB Try.prog = true := by kernel_rfl
theorem typed : TTok Try.prog ⟨TT, small, fun _ => Option.none, 0, 0⟩ := ttok _
set_option maxRecDepth 100000 in
theorem lifted (os : Os) (started : os.Started) (H : Type) (enc : TypeId × Value → H) :
    ReturnsInHanded {} Try.checked os 4 .any (Rows.fnPackedSpec.pre6 enc Try.prog Try.f4 Rows.fnPackedRow.domain false) (Rows.fnPackedSpec.post enc Try.prog Try.f4 false true false false) := by
  refine returnsInHanded_of_change_sized (C := Try.checked) own started (by kernel_rfl) Try.func4
    (ChangeSpec.witness6 (enc := enc) (C := Try.checked) false ⟨#[], #[.slice none 0 0, .slice none 0 0], []⟩ 8 (by kernel_rfl) (by kernel_rfl) (by kernel_rfl) (by kernel_rfl)) ?_
  intro W base args ds gs before hval0 hW hcnd hsz0 _
  have hsz : (DataW.weightsEach Try.prog (Try.f4.params.toList ++ Rows.fnPackedSpec.plain.varTypes Try.prog) (ds ++ gs)).all (· ≤ reachBytes) = true := hsz0
  have hval : ∀ (j : Nat) t v, Try.f4.params[j]? = some t → args[j]? = some v → Value.okWide Try.prog W .any base t v := hval0
  have hW' := hW
  obtain ⟨p, q, hA0, hV, rfl, hfz, hnd⟩ := hW
  have hA : DataW.TrodAll enc Try.prog W 0 (fun _ => true) true Try.f4.params.toList args.toList ds p := hA0
  rw [Try.params4] at hA hval hsz
  obtain ⟨v0, vs0, d0, ds0, p0, q0, hargs, rfl, rfl, h0, r0⟩ := trodAll_cons hA
  obtain ⟨v1, vs1, d1, ds1, p1, q1, rfl, rfl, rfl, h1, r1⟩ := trodAll_cons r0
  obtain ⟨rfl, rfl, rfl⟩ := trodAll_nil r1
  obtain rfl : args = #[v0, v1] := by cases args; simp_all
  obtain ⟨rfl, rfl⟩ := trodVars_none hV
  have k0 := h0
  have lt0 : ∀ x ∈ p0, x.block < W.heap.size := by obtain ⟨m, hm⟩ := k0; exact DataW.trod_lt m _ _ _ hm
  obtain ⟨A0, c0, a0, locs0, rfl, m0, g0⟩ := arg_row typed (show (⟨TT, small, fun _ => Option.none, 0, 0⟩ : Env).TT 36 = some (.row 5 (.int .u8)) from by kernel_rfl) (hval 0 36 v0 rfl rfl) h0
  have k1 := h1
  have lt1 : ∀ x ∈ p1, x.block < W.heap.size := by obtain ⟨m, hm⟩ := k1; exact DataW.trod_lt m _ _ _ hm
  obtain ⟨A1, c1, a1, locs1, rfl, m1, g1⟩ := arg_row typed (show (⟨TT, small, fun _ => Option.none, 0, 0⟩ : Env).TT 36 = some (.row 5 (.int .u8)) from by kernel_rfl) (hval 1 36 v1 rfl rfl) h1
  have S : Sound Try.prog 4 (mkSig [] laws_FnPacked.dec _ fun avs r => laws_FnPacked.enc 0 r) := s_law_FnPacked
  clear hA0 hval0 hsz0 hsz
  refine (Sound.law S (fun _ _ => rfl) (W := W) (avs := [.obj false ⟨5, (.int .u8), a0⟩, .obj false ⟨5, (.int .u8), a1⟩]) (vs := [.slice A0 (List.length a0) c0, .slice A1 (List.length a1) c1]) (All2.cons_iff.2 ⟨⟨A0, c0, locs0, rfl, m0⟩, All2.cons_iff.2 ⟨⟨A1, c1, locs1, rfl, m1⟩, All2.nil _⟩⟩) (x := (a0, a1)) (by kernel_rfl) (b := true) (cl_eq ⟨(good_Us g0), (good_Us g1)⟩) (go0 rfl _ _)).mono fun e W' ⟨he, bel⟩ => ?_
  subst he
  exact ⟨_, rfl, _, _, _, [], _, [], hW', trodAll_mk1 (shut_bool Try.underlying4 _), (trodAll_cons_mk (Below.trod laidOut (by kernel_rfl) (of_decide_eq_true (by kernel_rfl)) k0 bel lt0) (trodAll_cons_mk (Below.trod laidOut (by kernel_rfl) (of_decide_eq_true (by kernel_rfl)) k1 bel lt1) trodAll_mk0)), rfl, bel.frame _, fun h => by cases h⟩
theorem closed : joinedFacts Try.pinned.checked.prog 4 Try.f4 Rows.fnPackedSpec Rows.fnPackedRow = true :=
  Facts.shape (by kernel_rfl) Facts.mayEnter (by rw [Facts.lifted]; rfl) (by rw [Facts.make]; rfl) (by kernel_rfl) (by kernel_rfl) (by kernel_rfl) (by kernel_rfl)
theorem over : Rows.fnPackedRow.holds Try.pinned (OpenSpec.ofChange Rows.fnPackedSpec) :=
  OpenClaim.holds_of_wide 4 Try.f4 rfl rfl rfl rfl rfl rfl rfl ⟨rfl, rfl, rfl, rfl, rfl⟩ rfl rfl rfl rfl rfl (by kernel_rfl) Try.func4 closed
    (of_decide_eq_true (by kernel_rfl)) (by unfold Func.isWrapper; first | (rw [if_pos (by decide +kernel)]; kernel_rfl) | (rw [if_neg (by decide +kernel)]; exact ⟨rfl, rfl⟩))
    (fun os started H enc _ => lifted os started H enc)
theorem proved : Rows.FnPackedSaid := over
#print axioms proved
end Go.Proofs.Ytlipfbihlmlplaa.fnPacked
namespace Go.Proofs.Ytlipfbihlmlplaa
theorem fnPacked_holds : Rows.FnPackedSaid := fnPacked.proved
end Go.Proofs.Ytlipfbihlmlplaa
