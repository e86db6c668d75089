-- Written by this claim's own program (printg.py) out of the translation; Lean checks it.
import Derived.Test.YtleeponhjgmioaaPa0
import Derived.Test.YtleeponhjgmioaaPaf82
namespace Go.Proofs.Ytleeponhjgmioaa.Pa
open Go.RowKit Go.Proofs.YtleeponhjgmioaaW.PrintWords Go.Proofs.YtleeponhjgmioaaW.PrintLast Go.Proofs.YtleeponhjgmioaaW.PrintMore
attribute [local go_sem] max2_int min2_int max_two min_two max_three min_three max_four min_four   -- for this text's walks alone
set_option linter.unusedVariables false
set_option linter.unusedSimpArgs false

/-! ### slices_ContainsFunc_impl_Walker_impl_Walker: function 63 -/

set_option maxHeartbeats 4000000 in
theorem slices_ContainsFunc_impl_Walker_impl_Walker.calls_p (p : S40 → Bool) (g : Nat) (lb : Array Value) (eg : ∀ args w, (callFunc g args).run Try.prog w = .ok (.enter g args) w) (A0 : Option Addr) (c0 : Nat) (l0 : List (S40)) (w : World) (hr0 : Kd.C k40 w A0 l0.length l0)
    (hp : ∀ (W : World) (j : Nat), j < l0.length → Below w.heap.size w W → Calls Try.prog g (#[.agg #[.int .i16 ((rd_T40 l0 (j : Int)).f0), .int .i16 ((rd_T40 l0 (j : Int)).f1), .int .i16 ((rd_T40 l0 (j : Int)).f2), .int .i16 ((rd_T40 l0 (j : Int)).f3), .int .i16 ((rd_T40 l0 (j : Int)).f4), .int .i8 ((rd_T40 l0 (j : Int)).f5)]] ++ lb) W fun e w' => e = .returned (.bool (p (rd_T40 l0 (j : Int)))) ∧ Below w.heap.size w w') :
    Calls Try.prog 63 #[.slice A0 l0.length c0, .func (.func g) #[] lb] w fun e w' => e = .returned (.bool (l0.any p)) ∧ Below w.heap.size w w' := by
  have HC := Aside0.mk (slices_IndexFunc_impl_Walker_impl_Walker.calls_p p g lb eg A0 c0 l0 w hr0 hp)
  have hany : (∃ j : Nat, j < l0.length ∧ p (rd_T40 l0 (j : Int)) = true) ↔ l0.any p = true := by
    rw [List.any_eq_true]
    constructor
    · rintro ⟨j, hj, hpj⟩
      refine ⟨_, ?_, hpj⟩
      simp only [rd_T40, Int.toNat_natCast, List.getD_eq_getElem?_getD, List.getElem?_eq_getElem hj, Option.getD_some]
      exact List.getElem_mem hj
    · rintro ⟨x, hx, hpx⟩
      obtain ⟨j, hj, rfl⟩ := List.getElem_of_mem hx
      refine ⟨j, hj, ?_⟩
      simpa only [rd_T40, Int.toNat_natCast, List.getD_eq_getElem?_getD, List.getElem?_eq_getElem hj, Option.getD_some] using hpx
  have HA := Aside0.mk hany
  clear hr0 hp hany
  go_enter Try.func63, Try.ntmps63
  go_wp2_with (go_at_call 82; refine HC.out.mono ?_; rintro e w' ⟨⟨r, rfl, hr⟩, hb⟩; have HR := Aside0.mk hr; clear hr)
  go_ret
  refine ⟨?_, hb⟩
  have e : decide (0 ≤ r) = l0.any p := by rw [Bool.eq_iff_iff, decide_eq_true_eq, HR.out, HA.out]
  rw [← e]; rfl

end Go.Proofs.Ytleeponhjgmioaa.Pa
