-- Written by this claim's own program (printg.py) out of the translation; Lean checks it.
import Derived.Test.YtleeponhjgmioaaPa0
import Derived.Test.YtleeponhjgmioaaPaf52
import Derived.Test.YtleeponhjgmioaaPaf63
namespace Go.Proofs.Ytleeponhjgmioaa.Pa
open Go.RowKit Go.Proofs.YtleeponhjgmioaaW.PrintWords Go.Proofs.YtleeponhjgmioaaW.PrintLast Go.Proofs.YtleeponhjgmioaaW.PrintMore
attribute [local go_sem] max2_int min2_int max_two min_two max_three min_three max_four min_four   -- for this text's walks alone
set_option linter.unusedVariables false
set_option linter.unusedSimpArgs false

/-! ### impl_ValidWalkers: function 33 -/

def walkerBad (b : Int) (x : S40) : Bool := !(decide (0 ≤ wrap64 x.f0 ∧ wrap64 x.f0 ≤ 10000) && (decide (1 ≤ wrap64 x.f1 ∧ wrap64 x.f1 ≤ 100) && (decide (0 ≤ wrap64 x.f2 ∧ wrap64 x.f2 ≤ wrap64 (b - 1)) && (decide (0 ≤ wrap64 x.f3 ∧ wrap64 x.f3 ≤ 60) && (decide (1 ≤ wrap64 x.f4 ∧ wrap64 x.f4 ≤ 60) && (decide ((-7) ≤ wrap64 x.f5 ∧ wrap64 x.f5 ≤ 7)))))))
def impl_ValidWalkers.f (a0 : Int) (l1 : List (S40)) : Option Bool := some (decide (1 ≤ a0 ∧ a0 ≤ 60) && (decide ((l1.length : Int) ≤ 8) && !l1.any (walkerBad a0)))
set_option maxHeartbeats 8000000 in
set_option maxRecDepth 100000 in
theorem impl_ValidWalkers.closure (x : S40) (b : Int) (B : Nat) (w : World) (h1 : w.cell? ⟨B, 0, none⟩ = some (.int .i64 b)) :
    Calls Try.prog 64 #[.agg #[.int .i16 ((x).f0), .int .i16 ((x).f1), .int .i16 ((x).f2), .int .i16 ((x).f3), .int .i16 ((x).f4), .int .i8 ((x).f5)], .pointer (some ⟨B, 0, none⟩)] w fun e w' => e = .returned (.bool (walkerBad b x)) ∧ Below w.heap.size w w' := by
  have hB : B < w.heap.size := World.block_lt_of_cell? w ⟨B, 0, none⟩ h1
  have hne : B ≠ w.heap.size := by omega
  have V0 := Aside0.mk (fun W => impl_within.same (wrap64 x.f0) 0 (10000) W)
  have V1 := Aside0.mk (fun W => impl_within.same (wrap64 x.f1) 1 (100) W)
  have V2 := Aside0.mk (fun W => impl_within.same (wrap64 x.f2) 0 (wrap64 (b - 1)) W)
  have V3 := Aside0.mk (fun W => impl_within.same (wrap64 x.f3) 0 (60) W)
  have V4 := Aside0.mk (fun W => impl_within.same (wrap64 x.f4) 1 (60) W)
  have V5 := Aside0.mk (fun W => impl_within.same (wrap64 x.f5) (-7) (7) W)
  unfold walkerBad
  generalize decide (0 ≤ wrap64 x.f0 ∧ wrap64 x.f0 ≤ 10000) = q0 at V0 ⊢
  generalize decide (1 ≤ wrap64 x.f1 ∧ wrap64 x.f1 ≤ 100) = q1 at V1 ⊢
  generalize decide (0 ≤ wrap64 x.f2 ∧ wrap64 x.f2 ≤ wrap64 (b - 1)) = q2 at V2 ⊢
  generalize decide (0 ≤ wrap64 x.f3 ∧ wrap64 x.f3 ≤ 60) = q3 at V3 ⊢
  generalize decide (1 ≤ wrap64 x.f4 ∧ wrap64 x.f4 ≤ 60) = q4 at V4 ⊢
  generalize decide ((-7) ≤ wrap64 x.f5 ∧ wrap64 x.f5 ≤ 7) = q5 at V5 ⊢
  have hu := Try.underlying40
  cases q0 with
  | false =>
    go_enter Try.func64, Try.ntmps64
    go_wp2_with (go_at_call 52; (first | ((with_reducible refine (V0.out _).mono ?_); rintro e w' ⟨rfl, rfl⟩) | ((with_reducible refine (V1.out _).mono ?_); rintro e w' ⟨rfl, rfl⟩) | ((with_reducible refine (V2.out _).mono ?_); rintro e w' ⟨rfl, rfl⟩) | ((with_reducible refine (V3.out _).mono ?_); rintro e w' ⟨rfl, rfl⟩) | ((with_reducible refine (V4.out _).mono ?_); rintro e w' ⟨rfl, rfl⟩) | ((with_reducible refine (V5.out _).mono ?_); rintro e w' ⟨rfl, rfl⟩)))
    go_ret
    exact ⟨rfl, (Below.refl _ _).alloc (Nat.le_refl _) _⟩
  | true =>
    cases q1 with
    | false =>
      go_enter Try.func64, Try.ntmps64
      go_wp2_with (go_at_call 52; (first | ((with_reducible refine (V0.out _).mono ?_); rintro e w' ⟨rfl, rfl⟩) | ((with_reducible refine (V1.out _).mono ?_); rintro e w' ⟨rfl, rfl⟩) | ((with_reducible refine (V2.out _).mono ?_); rintro e w' ⟨rfl, rfl⟩) | ((with_reducible refine (V3.out _).mono ?_); rintro e w' ⟨rfl, rfl⟩) | ((with_reducible refine (V4.out _).mono ?_); rintro e w' ⟨rfl, rfl⟩) | ((with_reducible refine (V5.out _).mono ?_); rintro e w' ⟨rfl, rfl⟩)))
      go_ret
      exact ⟨rfl, (Below.refl _ _).alloc (Nat.le_refl _) _⟩
    | true =>
      cases q2 with
      | false =>
        go_enter Try.func64, Try.ntmps64
        go_wp2_with (go_at_call 52; (first | ((with_reducible refine (V0.out _).mono ?_); rintro e w' ⟨rfl, rfl⟩) | ((with_reducible refine (V1.out _).mono ?_); rintro e w' ⟨rfl, rfl⟩) | ((with_reducible refine (V2.out _).mono ?_); rintro e w' ⟨rfl, rfl⟩) | ((with_reducible refine (V3.out _).mono ?_); rintro e w' ⟨rfl, rfl⟩) | ((with_reducible refine (V4.out _).mono ?_); rintro e w' ⟨rfl, rfl⟩) | ((with_reducible refine (V5.out _).mono ?_); rintro e w' ⟨rfl, rfl⟩)))
        go_ret
        exact ⟨rfl, (Below.refl _ _).alloc (Nat.le_refl _) _⟩
      | true =>
        cases q3 with
        | false =>
          go_enter Try.func64, Try.ntmps64
          go_wp2_with (go_at_call 52; (first | ((with_reducible refine (V0.out _).mono ?_); rintro e w' ⟨rfl, rfl⟩) | ((with_reducible refine (V1.out _).mono ?_); rintro e w' ⟨rfl, rfl⟩) | ((with_reducible refine (V2.out _).mono ?_); rintro e w' ⟨rfl, rfl⟩) | ((with_reducible refine (V3.out _).mono ?_); rintro e w' ⟨rfl, rfl⟩) | ((with_reducible refine (V4.out _).mono ?_); rintro e w' ⟨rfl, rfl⟩) | ((with_reducible refine (V5.out _).mono ?_); rintro e w' ⟨rfl, rfl⟩)))
          go_ret
          exact ⟨rfl, (Below.refl _ _).alloc (Nat.le_refl _) _⟩
        | true =>
          cases q4 with
          | false =>
            go_enter Try.func64, Try.ntmps64
            go_wp2_with (go_at_call 52; (first | ((with_reducible refine (V0.out _).mono ?_); rintro e w' ⟨rfl, rfl⟩) | ((with_reducible refine (V1.out _).mono ?_); rintro e w' ⟨rfl, rfl⟩) | ((with_reducible refine (V2.out _).mono ?_); rintro e w' ⟨rfl, rfl⟩) | ((with_reducible refine (V3.out _).mono ?_); rintro e w' ⟨rfl, rfl⟩) | ((with_reducible refine (V4.out _).mono ?_); rintro e w' ⟨rfl, rfl⟩) | ((with_reducible refine (V5.out _).mono ?_); rintro e w' ⟨rfl, rfl⟩)))
            go_ret
            exact ⟨rfl, (Below.refl _ _).alloc (Nat.le_refl _) _⟩
          | true =>
            cases q5 with
            | false =>
              go_enter Try.func64, Try.ntmps64
              go_wp2_with (go_at_call 52; (first | ((with_reducible refine (V0.out _).mono ?_); rintro e w' ⟨rfl, rfl⟩) | ((with_reducible refine (V1.out _).mono ?_); rintro e w' ⟨rfl, rfl⟩) | ((with_reducible refine (V2.out _).mono ?_); rintro e w' ⟨rfl, rfl⟩) | ((with_reducible refine (V3.out _).mono ?_); rintro e w' ⟨rfl, rfl⟩) | ((with_reducible refine (V4.out _).mono ?_); rintro e w' ⟨rfl, rfl⟩) | ((with_reducible refine (V5.out _).mono ?_); rintro e w' ⟨rfl, rfl⟩)))
              go_ret
              exact ⟨rfl, (Below.refl _ _).alloc (Nat.le_refl _) _⟩
            | true =>
              go_enter Try.func64, Try.ntmps64
              go_wp2_with (go_at_call 52; (first | ((with_reducible refine (V0.out _).mono ?_); rintro e w' ⟨rfl, rfl⟩) | ((with_reducible refine (V1.out _).mono ?_); rintro e w' ⟨rfl, rfl⟩) | ((with_reducible refine (V2.out _).mono ?_); rintro e w' ⟨rfl, rfl⟩) | ((with_reducible refine (V3.out _).mono ?_); rintro e w' ⟨rfl, rfl⟩) | ((with_reducible refine (V4.out _).mono ?_); rintro e w' ⟨rfl, rfl⟩) | ((with_reducible refine (V5.out _).mono ?_); rintro e w' ⟨rfl, rfl⟩)))
              go_ret
              exact ⟨rfl, (Below.refl _ _).alloc (Nat.le_refl _) _⟩
set_option maxHeartbeats 4000000 in
theorem impl_ValidWalkers.calls (a0 : Int) (A1 : Option Addr) (c1 : Nat) (l1 : List (S40)) (r : Bool) (w : World) (hr1 : Kd.C k40 w A1 l1.length l1) (hc1 : l1.length ≤ c1) (h : impl_ValidWalkers.f a0 l1 = some r) :
    Calls Try.prog 33 #[.int .i64 a0, .slice A1 l1.length c1] w fun e w' => e = .returned (.bool r) ∧ Below w.heap.size w w' := by
  obtain rfl := Option.some.inj h
  have eg : ∀ args w, (callFunc 64 args).run Try.prog w = .ok (.enter 64 args) w := enters_of Try.func64 (by kernel_rfl) rfl
  have hb2 : Below w.heap.size w (w.alloc (.cells #[.int .i64 a0] 2)) := (Below.refl _ _).alloc (Nat.le_refl _) _
  have HC := Aside0.mk (slices_ContainsFunc_impl_Walker_impl_Walker.calls_p (walkerBad a0) 64 #[.pointer (some ⟨w.heap.size, 0, none⟩)] eg A1 c1 l1 (w.alloc (.cells #[.int .i64 a0] 2)) (Kd.C_below hr1 hb2) (fun W j hj hb => (impl_ValidWalkers.closure (rd_T40 l1 (j : Int)) a0 w.heap.size W ((hb.cell (p := ⟨w.heap.size, 0, none⟩) (by simp)).trans (by simp))).mono (by rintro e w' ⟨rfl, hb'⟩; exact ⟨rfl, below_step hb hb'⟩)))
  have HB2 := Aside0.mk hb2
  have V := Aside0.mk (fun W => impl_within.same a0 1 60 W)
  have hm : l1.length ≤ 9223372036854775807 := hr1.2.1
  clear hr1 hc1 eg hb2
  generalize l1.any (walkerBad a0) = q at HC ⊢
  generalize decide (1 ≤ a0 ∧ a0 ≤ 60) = b1 at V ⊢
  generalize hb2 : decide ((l1.length : Int) ≤ 8) = b2
  cases b1 with
  | false =>
    clear hb2
    go_enter Try.func33, Try.ntmps33
    go_wp2_with (go_at_call 52; (with_reducible refine (V.out _).mono ?_); rintro e w' ⟨rfl, rfl⟩)
    go_ret
    exact ⟨rfl, HB2.out⟩
  | true =>
    cases b2 with
    | false =>
      have hb3 : decide (l1.length ≤ 8) = false := by (simp at hb2 ⊢; omega)
      go_enter Try.func33, Try.ntmps33
      go_wp2_with (go_at_call 52; (with_reducible refine (V.out _).mono ?_); rintro e w' ⟨rfl, rfl⟩)
      go_ret
      exact ⟨rfl, HB2.out⟩
    | true =>
      have hb3 : decide (l1.length ≤ 8) = true := by (simp at hb2 ⊢; omega)
      go_enter Try.func33, Try.ntmps33
      go_wp2_with (first | (go_at_call 52; (with_reducible refine (V.out _).mono ?_); rintro e w' ⟨rfl, rfl⟩) | (go_at_call 63; (with_reducible refine HC.out.mono ?_); rintro e w' ⟨rfl, hb⟩))
      go_ret
      exact ⟨rfl, below_step HB2.out hb⟩

end Go.Proofs.Ytleeponhjgmioaa.Pa
