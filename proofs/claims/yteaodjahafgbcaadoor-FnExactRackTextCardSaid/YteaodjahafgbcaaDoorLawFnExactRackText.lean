/- For every input: the law FnExactRackText holds of the program, and its arguments stay as they are. The reading, joined with the plain proof. -/
import Derived.Test.YteaodjahafgbcaaDoorCards
import Derived.Test.YteaodjahafgbcaaDoorTie
import Derived.SevenTiedAt
import Derived.LaidMore
import Derived.Stop.Joined
import Derived.Stop.LaidErr
import Derived.Lib.LaidTab
import Derived.LaidLaws
import Derived.MakeChecks
import Derived.Test.YteaodjahafgbcaaDoorRows
import Derived.Test.YteaodjahafgbcaaDoorX
import Derived.WalkKit
import Derived.ProofKit
import Derived.OpenShut
import Derived.ShutString
import Derived.ChangeOld
import Derived.Below
import Derived.SizedLaws
namespace Go.Proofs.YteaodjahafgbcaaDoor.fnExactRackText
open Go.ChangeShapes Go.WideShapes Go.ChangeAt Go.RowKit Go.Proofs.YteaodjahafgbcaaDoor.G
open Go.ChangeMaps (open_string shut_string)
set_option linter.unusedVariables false
theorem own : ownKnob Tryd.prog.godebug = none := by kernel_rfl
theorem laidOut : laidOutB Tryd.prog = true := by kernel_rfl
theorem typed : TTok Tryd.prog ⟨TT, small, fun _ => Option.none, 0, 0⟩ := ttok _
theorem heap_of {W : World} {n : String} {g : Nat} {cs : Array Value} (hg : Tryd.prog.globalNamed n = some g) (h : W.var? Tryd.prog n = some cs) : ∃ t fr, W.heap[g]? = some (.cells cs t fr) := by
  unfold World.var? at h
  rw [hg, Option.bind_some] at h
  split at h
  · rename_i cs' t fr e
    obtain rfl := Option.some.inj h
    exact ⟨t, fr, e⟩
  · cases h
theorem laid_facts {W : World} (hL : laidMetH Tryd.prog Rows.fnExactRackTextRow.laid W) :
    ∃ t fr, W.heap[1]? = some (.cells (Go.Lib.pow10Tab.map fun z => Value.int .u64 z).toArray t fr) := by
  rw [Go.MakeChecks.laidMetH_plain _ _ _ (by kernel_rfl)] at hL
  have h2 := laidMet.tail (laidMet.tail hL)
  have e : (Rows.laid_internal_strconv_uint64pow10 : DataW Unit) = Go.Lib.tabData .u64 Go.Lib.pow10Tab := by kernel_rfl
  rw [e] at h2
  obtain ⟨t, fr, h⟩ := heap_of (g := 1) (by kernel_rfl) (Go.Lib.tabIs_of_head (g := 1) (t := 124) (e := 105) (n := 20) (by kernel_rfl) (by kernel_rfl) (by kernel_rfl) (by kernel_rfl) (by kernel_rfl) (by kernel_rfl) h2)
  exact ⟨t, fr, h⟩
theorem go_here {W : World} (hL : laidMetH Tryd.prog Rows.fnExactRackTextRow.laid W) : GO W [] := by
  obtain ⟨t1, f1, h1⟩ := laid_facts hL
  have lt : ∀ {g : Nat} {o : Obj}, W.heap[g]? = some o → g < W.heap.size := fun h => (Array.getElem?_eq_some_iff.1 h).1
  refine ⟨fun x hx => ?_, fun x hx => ?_⟩
  · simp only [GV, List.mem_cons, List.not_mem_nil, or_false] at hx
    obtain rfl := hx
    refine ⟨_, t1, f1, h1, ?_⟩
    show (Go.Lib.pow10Tab.map fun z => Value.int .u64 z).toArray = _
    unfold Go.Lib.pow10Tab
    rw [List.map_map]
    rfl
  · simp only [GV, List.mem_cons, List.not_mem_nil, or_false] at hx
    obtain rfl := hx
    exact ⟨lt h1, List.not_mem_nil⟩
/-- A start: the heap that the door's run leaves, with the pinned table laid in. -/
noncomputable def W0 (os : Os) : World := { World.doorLaid Tryd.prog 4000 os with heap := (World.doorLaid Tryd.prog 4000 os).heap.modify 4 fun
  | .cells _ t f => .cells (Go.Pinned.utf8FirstZ.map fun (n : Nat) => Value.int .u8 (Int.ofNat n)).toArray t f
  | o => o }

set_option maxRecDepth 100000 in
theorem door_met (os : Os) (args : Array Value) : laidMetH Tryd.prog Rows.fnExactRackTextRow.laid ((W0 os).forCall (fun _ _ => 0) ⟨#[], args, []⟩).memory :=
  laidMetH_of_parts3 (fuel := 8) (laidMet_of_run' 8 (by kernel_rfl) (by kernel_rfl)) (by kernel_rfl) (by kernel_rfl)
set_option maxRecDepth 100000 in
theorem lifted (os : Os) (started : os.Started) (H : Type) (enc : TypeId × Value → H) :
    ReturnsInHanded {} Tryd.checked os 3 .any (fun w args => (Rows.fnExactRackTextSpec.pre enc Tryd.prog Tryd.f3 Rows.fnExactRackTextRow.domain false w args ∧ laidMetH Tryd.prog Rows.fnExactRackTextRow.laid w) ∧ sizedMet enc Tryd.prog Tryd.f3 (OpenSpec.ofChange Rows.fnExactRackTextSpec) false w args) (Rows.fnExactRackTextSpec.post enc Tryd.prog Tryd.f3 false true false false) := by
  refine returnsInHanded_of_change_and (C := Tryd.checked) (X := fun w _ => laidMetH Tryd.prog Rows.fnExactRackTextRow.laid w) (fun _ _ _ hh h => h.of_heap hh) own started (by kernel_rfl) Tryd.func3
    (ChangeSpec.witness_shaped (enc := enc) (C := Tryd.checked) (os := os) (X := fun w _ => laidMetH Tryd.prog Rows.fnExactRackTextRow.laid w) false (W0 os) #[.slice none 0 0] 8 rfl (World.shaped_of_RefB (by kernel_rfl) (by kernel_rfl)) (by kernel_rfl) (by kernel_rfl) (by kernel_rfl) (door_met os _)) ?_
  intro W base args ds gs before hval0 hW hcnd hsz0 hL _
  have hsz : (DataW.weightsEach Tryd.prog (Tryd.f3.params.toList ++ Rows.fnExactRackTextSpec.plain.varTypes Tryd.prog) (ds ++ gs)).all (· ≤ reachBytes) = true := hsz0
  have hval : ∀ (j : Nat) t v, Tryd.f3.params[j]? = some t → args[j]? = some v → Value.okWide Tryd.prog W .any base t v := hval0
  have hW' := hW
  obtain ⟨p, q, hA0, hV, rfl, hfz, hnd⟩ := hW
  have hA : DataW.TrodAll enc Tryd.prog W 0 (fun _ => true) true Tryd.f3.params.toList args.toList ds p := hA0
  rw [Tryd.params3] at hA hval hsz
  obtain ⟨v0, vs0, d0, ds0, p0, q0, hargs, rfl, rfl, h0, r0⟩ := trodAll_cons hA
  obtain ⟨rfl, rfl, rfl⟩ := trodAll_nil r0
  obtain rfl : args = #[v0] := by cases args; simp_all
  obtain ⟨rfl, rfl⟩ := trodVars_none hV
  have k0 := h0
  have lt0 : ∀ x ∈ p0, x.block < W.heap.size := by obtain ⟨m, hm⟩ := k0; exact DataW.trod_lt m _ _ _ hm
  obtain ⟨A0, c0, a0, locs0, rfl, m0, g0⟩ := arg_row typed (show (⟨TT, small, fun _ => Option.none, 0, 0⟩ : Env).TT 22 = some (.row 35 (.row 75 (.st (.pair (.st (.pair (.int .u8) (.int .i16))) (.int .i16))))) from by kernel_rfl) (hval 0 22 v0 rfl rfl) h0
  have S : Sound Tryd.prog 3 (mkSig [] laws_FnExactRackText.dec _ fun avs r => laws_FnExactRackText.enc 0 r) := s_law_RackText
  clear hA0 hval0 hsz0 hsz
  refine (Sound.law S (fun _ _ => rfl) (W := W) (avs := [.obj false ⟨35, (.row 75 (.st (.pair (.st (.pair (.int .u8) (.int .i16))) (.int .i16)))), a0⟩]) (vs := [.slice A0 (List.length a0) c0]) (All2.cons_iff.2 ⟨⟨A0, c0, locs0, rfl, m0⟩, All2.nil _⟩) (x := a0) (by kernel_rfl) (b := true) (cl_eq (good_rack g0)) (go_here hL)).mono fun e W' ⟨he, bel⟩ => ?_
  subst he
  exact ⟨_, rfl, _, _, _, [], _, [], hW', trodAll_mk1 (shut_bool Tryd.underlying4 _), (trodAll_cons_mk (Below.trod laidOut (by kernel_rfl) (of_decide_eq_true (by kernel_rfl)) k0 bel lt0) trodAll_mk0), rfl, bel.frame _, fun h => by cases h⟩
theorem closed : joinedFacts Tryd.pinned.checked.prog 3 Tryd.f3 Rows.fnExactRackTextSpec Rows.fnExactRackTextRow = true := by kernel_rfl
theorem over : Rows.fnExactRackTextRow.holds Tryd.pinned (OpenSpec.ofChange Rows.fnExactRackTextSpec) :=
  OpenClaim.holds_of_wide 3 Tryd.f3 rfl rfl rfl rfl rfl rfl rfl ⟨rfl, rfl, rfl, rfl, rfl⟩ rfl rfl rfl rfl rfl (by kernel_rfl) Tryd.func3 closed
    (of_decide_eq_true (by kernel_rfl)) (by unfold Func.isWrapper; first | (rw [if_pos (by decide +kernel)]; kernel_rfl) | (rw [if_neg (by decide +kernel)]; exact ⟨rfl, rfl⟩))
    (fun os started H enc _ => lifted os started H enc)
theorem proved : Rows.FnExactRackTextSaid := over
#print axioms proved
end Go.Proofs.YteaodjahafgbcaaDoor.fnExactRackText
namespace Go.Proofs.YteaodjahafgbcaaDoor
/-- The tied card. -/
theorem fnExactRackText_card_holds : Rows.FnExactRackTextCardSaid :=
  Claim7.holds_tied_plain_at .later [] [.data, .data, .data] true (true, "d6fe1aec9183d27980d2a010290d4d8f8f06e8e96ee8879b5414436de606af00") true
    fnExactRackText.proved (fun _ h => by cases h) (by kernel_rfl) (fun _ h => by cases h) fnExactRackText_row_tie rfl ⟨rfl, rfl⟩ (by kernel_rfl) rfl
    (fun f fn hf hfn => by
      obtain rfl : f = 3 := Option.some.inj ((show Tryd.prog.funcNamed Rows.fnExactRackTextRow.func = some 3 by kernel_rfl).symm.trans hf) |>.symm
      obtain rfl : fn = Tryd.f3 := (Option.some.inj (Tryd.func3.symm.trans hfn)).symm
      exact ⟨by kernel_rfl, fun j t ht => by
        rw [Tryd.params3] at ht
        have hm : t ∈ [22] := by simpa using Array.mem_of_getElem? ht
        have hall : ([22].all fun u => !Tryd.prog.wantsStandIn u) = true := by kernel_rfl
        exact (show Tryd.prog.wantsStandIn t = false by simpa using List.all_eq_true.1 hall t hm)⟩)
    (by kernel_rfl)
#print axioms fnExactRackText_card_holds
end Go.Proofs.YteaodjahafgbcaaDoor
