-- Written by this claim's own program (printg.py) out of the translation; Lean checks it.
import Derived.Test.YtleeponhjgmioaaPa0
import Derived.Test.YtleeponhjgmioaaPaf52
import Derived.Test.YtleeponhjgmioaaPaf53
namespace Go.Proofs.Ytleeponhjgmioaa.Pa
open Go.RowKit Go.Proofs.YtleeponhjgmioaaW.PrintWords Go.Proofs.YtleeponhjgmioaaW.PrintLast Go.Proofs.YtleeponhjgmioaaW.PrintMore
attribute [local go_sem] max2_int min2_int max_two min_two max_three min_three max_four min_four   -- for this text's walks alone
set_option linter.unusedVariables false
set_option linter.unusedSimpArgs false

/-! ### impl_ValidRow: function 20 -/

def impl_ValidRow.f (l0 : List Int) : Option Bool := some (decide (1 ≤ (l0.length : Int) ∧ (l0.length : Int) ≤ 60) && !l0.any (fun x => decide (7 < x)))
theorem impl_ValidRow.closure (x : Int) (W : World) : Calls Try.prog 54 #[.int .u8 x] W fun e w' => e = .returned (.bool (decide (7 < x))) ∧ W = w' := by
  go_enter Try.func54, Try.ntmps54
  go_wp2
  go_ret
  exact ⟨rfl, rfl⟩
set_option maxHeartbeats 4000000 in
theorem impl_ValidRow.calls (A0 : Option Addr) (c0 : Nat) (l0 : List Int) (r : Bool) (w : World) (hr0 : Kd.C (Kd.int .u8) w A0 l0.length l0) (hc0 : l0.length ≤ c0) (h : impl_ValidRow.f l0 = some r) :
    Calls Try.prog 20 #[.slice A0 l0.length c0] w fun e w' => e = .returned (.bool r) ∧ Below w.heap.size w w' := by
  obtain rfl := Option.some.inj h
  have eg : ∀ args w, (callFunc 54 args).run Try.prog w = .ok (.enter 54 args) w := enters_of Try.func54 (by kernel_rfl) rfl
  have HC := Aside0.mk (slices_ContainsFunc_impl_Row_uint8.calls_p (fun x => decide (7 < x)) 54 #[] eg A0 c0 l0 w hr0 (fun W j hj hb => (impl_ValidRow.closure _ W).mono (by rintro e w' ⟨rfl, rfl⟩; exact ⟨rfl, hb⟩)))
  have W1 := Aside0.mk (impl_within.same (l0.length : Int) 1 60 w)
  clear hr0 hc0 eg
  generalize l0.any (fun x => decide (7 < x)) = q at HC ⊢
  generalize decide (1 ≤ (l0.length : Int) ∧ (l0.length : Int) ≤ 60) = b at W1 ⊢
  cases b with
  | true =>
    go_enter Try.func20, Try.ntmps20
    go_wp2_with (first | (go_at_call 52; refine W1.out.mono ?_; rintro e w' ⟨rfl, rfl⟩) | (go_at_call 53; refine HC.out.mono ?_; rintro e w' ⟨rfl, hb⟩))
    go_ret
    exact ⟨rfl, hb⟩
  | false =>
    go_enter Try.func20, Try.ntmps20
    go_wp2_with (first | (go_at_call 52; refine W1.out.mono ?_; rintro e w' ⟨rfl, rfl⟩) | (go_at_call 53; refine HC.out.mono ?_; rintro e w' ⟨rfl, hb⟩))
    go_ret
    exact ⟨rfl, Below.refl _ _⟩

end Go.Proofs.Ytleeponhjgmioaa.Pa
