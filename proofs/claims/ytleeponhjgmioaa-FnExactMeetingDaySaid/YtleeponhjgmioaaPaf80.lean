-- Written by this claim's own program (printg.py) out of the translation; Lean checks it.
import Derived.Test.YtleeponhjgmioaaPa0
import Derived.Test.YtleeponhjgmioaaPaf52
import Derived.Test.YtleeponhjgmioaaPaf84
namespace Go.Proofs.Ytleeponhjgmioaa.Pa
open Go.RowKit Go.Proofs.YtleeponhjgmioaaW.PrintWords Go.Proofs.YtleeponhjgmioaaW.PrintLast Go.Proofs.YtleeponhjgmioaaW.PrintMore
attribute [local go_sem] max2_int min2_int max_two min_two max_three min_three max_four min_four   -- for this text's walks alone
set_option linter.unusedVariables false
set_option linter.unusedSimpArgs false

/-! ### impl_allWithin: function 80 -/

def impl_allWithin.f (l0 : List Int) (a1 : Int) (a2 : Int) : Option Bool := some (!l0.any (fun x => !decide (a1 ≤ x ∧ x ≤ a2)))
set_option maxHeartbeats 4000000 in
theorem impl_allWithin.closure (x a b : Int) (B1 B2 : Nat) (W : World) (h1 : W.cell? ⟨B1, 0, none⟩ = some (.int .i64 a)) (h2 : W.cell? ⟨B2, 0, none⟩ = some (.int .i64 b)) :
    Calls Try.prog 85 #[.int .i64 x, .pointer (some ⟨B1, 0, none⟩), .pointer (some ⟨B2, 0, none⟩)] W fun e w' => e = .returned (.bool (!decide (a ≤ x ∧ x ≤ b))) ∧ Below W.heap.size W w' := by
  have W1 := Aside0.mk (fun W => impl_within.same x a b W)
  generalize decide (a ≤ x ∧ x ≤ b) = q at W1 ⊢
  go_enter Try.func85, Try.ntmps85
  go_wp2_with (go_at_call 52; refine (W1.out _).mono ?_; rintro e w' ⟨rfl, rfl⟩)
  go_ret
  exact ⟨rfl, Below.refl _ _⟩
set_option maxHeartbeats 4000000 in
theorem impl_allWithin.calls (A0 : Option Addr) (c0 : Nat) (l0 : List Int) (a1 : Int) (a2 : Int) (r : Bool) (w : World) (hr0 : Kd.C (Kd.int .i64) w A0 l0.length l0) (hc0 : l0.length ≤ c0) (h : impl_allWithin.f l0 a1 a2 = some r) :
    Calls Try.prog 80 #[.slice A0 l0.length c0, .int .i64 a1, .int .i64 a2] w fun e w' => e = .returned (.bool r) ∧ Below w.heap.size w w' := by
  obtain rfl := Option.some.inj h
  have eg : ∀ args w, (callFunc 85 args).run Try.prog w = .ok (.enter 85 args) w := enters_of Try.func85 (by kernel_rfl) rfl
  have hb2 : Below w.heap.size w ((w.alloc (.cells #[.int .i64 a1] 2)).alloc (.cells #[.int .i64 a2] 2)) := ((Below.refl _ _).alloc (Nat.le_refl _) _).alloc (by simp) _
  have HC := Aside0.mk (slices_ContainsFunc_int64_int64.calls_p (fun x => !decide (a1 ≤ x ∧ x ≤ a2)) 85 #[.pointer (some ⟨w.heap.size, 0, none⟩), .pointer (some ⟨w.heap.size + 1, 0, none⟩)] eg A0 c0 l0 ((w.alloc (.cells #[.int .i64 a1] 2)).alloc (.cells #[.int .i64 a2] 2)) (Kd.C_below hr0 hb2) (fun W j hj hb => (impl_allWithin.closure (rd l0 (j : Int)) a1 a2 w.heap.size (w.heap.size + 1) W ((hb.cell (p := ⟨w.heap.size, 0, none⟩) (by simp; omega)).trans (by simp)) ((hb.cell (p := ⟨w.heap.size + 1, 0, none⟩) (by simp)).trans (by simp))).mono (by rintro e w' ⟨rfl, hb'⟩; exact ⟨rfl, below_step hb hb'⟩)))
  have HB2 := Aside0.mk hb2
  clear hr0 hc0 eg hb2
  generalize l0.any (fun x => !decide (a1 ≤ x ∧ x ≤ a2)) = q at HC ⊢
  go_enter Try.func80, Try.ntmps80
  go_wp2_with (go_at_call 84; refine HC.out.mono ?_; rintro e w' ⟨rfl, hb⟩)
  go_ret
  exact ⟨rfl, below_step HB2.out hb⟩

end Go.Proofs.Ytleeponhjgmioaa.Pa
