/- For every input: the law FnExactSwapsText holds of the program, and its arguments stay as they are. The reading, joined with the plain proof. -/
import Derived.Test.YtjajlmaldeoobaaDoorCards
import Derived.Test.YtjajlmaldeoobaaDoorTie
import Derived.SevenTiedAt
import Derived.LaidMore
import Derived.Stop.Joined
import Derived.Test.YtjajlmaldeoobaaDoorRows
import Derived.Test.YtjajlmaldeoobaaDoorX
import Derived.WalkKit
import Derived.ProofKit
import Derived.OpenShut
import Derived.ShutString
import Derived.ChangeOld
import Derived.Below
import Derived.SizedLaws
namespace Go.Proofs.YtjajlmaldeoobaaDoor.fnExactSwapsText
open Go.ChangeShapes Go.WideShapes Go.ChangeAt Go.RowKit Go.Proofs.YtjajlmaldeoobaaDoor.G
open Go.ChangeMaps (open_string shut_string)
set_option linter.unusedVariables false
theorem own : ownKnob Tryd.prog.godebug = none := by kernel_rfl
theorem laidOut : laidOutB Tryd.prog = true := by kernel_rfl
theorem typed : TTok Tryd.prog ⟨TT, small, fun _ => Option.none, 0, 0⟩ := ttok _
set_option maxRecDepth 100000 in
theorem door_met (os : Os) (args : Array Value) : laidMetH Tryd.prog Rows.fnExactSwapsTextRow.laid ((World.doorLaid Tryd.prog 4000 os).forCall (fun _ _ => 0) ⟨#[], args, []⟩).memory :=
  laidMetH_of_parts3 (fuel := 8) (laidMet_of_run' 8 (by kernel_rfl) (by kernel_rfl)) (by kernel_rfl) (by kernel_rfl)
set_option maxRecDepth 100000 in
theorem lifted (os : Os) (started : os.Started) (H : Type) (enc : TypeId × Value → H) :
    ReturnsInHanded {} Tryd.checked os 3 .any (fun w args => (Rows.fnExactSwapsTextSpec.pre enc Tryd.prog Tryd.f3 Rows.fnExactSwapsTextRow.domain false w args ∧ laidMetH Tryd.prog Rows.fnExactSwapsTextRow.laid w) ∧ sizedMet enc Tryd.prog Tryd.f3 (OpenSpec.ofChange Rows.fnExactSwapsTextSpec) false w args) (Rows.fnExactSwapsTextSpec.post enc Tryd.prog Tryd.f3 false true false false) := by
  refine returnsInHanded_of_change_and (C := Tryd.checked) (X := fun w _ => laidMetH Tryd.prog Rows.fnExactSwapsTextRow.laid w) (fun _ _ _ hh h => h.of_heap hh) own started (by kernel_rfl) Tryd.func3
    (ChangeSpec.witness_shaped (enc := enc) (C := Tryd.checked) (os := os) (X := fun w _ => laidMetH Tryd.prog Rows.fnExactSwapsTextRow.laid w) false (World.doorLaid Tryd.prog 4000 os) #[.slice none 0 0] 8 rfl (World.shaped_of_RefB (by kernel_rfl) (by kernel_rfl)) (by kernel_rfl) (by kernel_rfl) (by kernel_rfl) (door_met os _)) ?_
  intro W base args ds gs before hval0 hW hcnd hsz0 hL _
  have hsz : (DataW.weightsEach Tryd.prog (Tryd.f3.params.toList ++ Rows.fnExactSwapsTextSpec.plain.varTypes Tryd.prog) (ds ++ gs)).all (· ≤ reachBytes) = true := hsz0
  have hval : ∀ (j : Nat) t v, Tryd.f3.params[j]? = some t → args[j]? = some v → Value.okWide Tryd.prog W .any base t v := hval0
  have hW' := hW
  obtain ⟨p, q, hA0, hV, rfl, hfz, hnd⟩ := hW
  have hA : DataW.TrodAll enc Tryd.prog W 0 (fun _ => true) true Tryd.f3.params.toList args.toList ds p := hA0
  rw [Tryd.params3] at hA hval hsz
  obtain ⟨v0, vs0, d0, ds0, p0, q0, hargs, rfl, rfl, h0, r0⟩ := trodAll_cons hA
  obtain ⟨rfl, rfl, rfl⟩ := trodAll_nil r0
  obtain rfl : args = #[v0] := by cases args; simp_all
  obtain ⟨rfl, rfl⟩ := trodVars_none hV
  have k0 := h0
  have lt0 : ∀ x ∈ p0, x.block < W.heap.size := by obtain ⟨m, hm⟩ := k0; exact DataW.trod_lt m _ _ _ hm
  obtain ⟨A0, c0, a0, locs0, rfl, m0, g0⟩ := arg_row typed (show (⟨TT, small, fun _ => Option.none, 0, 0⟩ : Env).TT 22 = some (.row 38 (.st (.pair (.int .i8) (.int .i8)))) from by kernel_rfl) (hval 0 22 v0 rfl rfl) h0
  have S : Sound Tryd.prog 3 (mkSig [] laws_FnExactSwapsText.dec _ fun avs r => laws_FnExactSwapsText.enc 0 r) := s_law_SwapsText
  clear hA0 hval0 hsz0 hsz
  refine (Sound.law S (fun _ _ => rfl) (W := W) (avs := [.obj false ⟨38, (.st (.pair (.int .i8) (.int .i8))), a0⟩]) (vs := [.slice A0 (List.length a0) c0]) (All2.cons_iff.2 ⟨⟨A0, c0, locs0, rfl, m0⟩, All2.nil _⟩) (x := a0) (by kernel_rfl) (b := true) (cl_eq (good_Ws g0))).mono fun e W' ⟨he, bel⟩ => ?_
  subst he
  exact ⟨_, rfl, _, _, _, [], _, [], hW', trodAll_mk1 (shut_bool Tryd.underlying4 _), (trodAll_cons_mk (Below.trod laidOut (by kernel_rfl) (of_decide_eq_true (by kernel_rfl)) k0 bel lt0) trodAll_mk0), rfl, bel.frame _, fun h => by cases h⟩
theorem closed : joinedFacts Tryd.pinned.checked.prog 3 Tryd.f3 Rows.fnExactSwapsTextSpec Rows.fnExactSwapsTextRow = true := by kernel_rfl
theorem over : Rows.fnExactSwapsTextRow.holds Tryd.pinned (OpenSpec.ofChange Rows.fnExactSwapsTextSpec) :=
  OpenClaim.holds_of_wide 3 Tryd.f3 rfl rfl rfl rfl rfl rfl rfl ⟨rfl, rfl, rfl, rfl, rfl⟩ rfl rfl rfl rfl rfl (by kernel_rfl) Tryd.func3 closed
    (of_decide_eq_true (by kernel_rfl)) (by unfold Func.isWrapper; first | (rw [if_pos (by decide +kernel)]; kernel_rfl) | (rw [if_neg (by decide +kernel)]; exact ⟨rfl, rfl⟩))
    (fun os started H enc _ => lifted os started H enc)
theorem proved : Rows.FnExactSwapsTextSaid := over
#print axioms proved
end Go.Proofs.YtjajlmaldeoobaaDoor.fnExactSwapsText
namespace Go.Proofs.YtjajlmaldeoobaaDoor
/-- The tied card. -/
theorem fnExactSwapsText_card_holds : Rows.FnExactSwapsTextCardSaid :=
  Claim7.holds_tied_plain_at .later [] [.data, .data, .data] true (true, "49bdee1d191f5b65aa0a9d0d4f9dd547b69c8f68fe4b1833ffebb5002ee39eb9") true
    fnExactSwapsText.proved (fun _ h => by cases h) (by kernel_rfl) (fun _ h => by cases h) fnExactSwapsText_row_tie rfl ⟨rfl, rfl⟩ (by kernel_rfl) rfl
    (fun f fn hf hfn => by
      obtain rfl : f = 3 := Option.some.inj ((show Tryd.prog.funcNamed Rows.fnExactSwapsTextRow.func = some 3 by kernel_rfl).symm.trans hf) |>.symm
      obtain rfl : fn = Tryd.f3 := (Option.some.inj (Tryd.func3.symm.trans hfn)).symm
      exact ⟨by kernel_rfl, fun j t ht => by
        rw [Tryd.params3] at ht
        have hm : t ∈ [22] := by simpa using Array.mem_of_getElem? ht
        have hall : ([22].all fun u => !Tryd.prog.wantsStandIn u) = true := by kernel_rfl
        exact (show Tryd.prog.wantsStandIn t = false by simpa using List.all_eq_true.1 hall t hm)⟩)
    (by kernel_rfl)
#print axioms fnExactSwapsText_card_holds
end Go.Proofs.YtjajlmaldeoobaaDoor
