/- The structs among the laws' parameters. -/
import Derived.Test.YtnppegmilcocoaaPa0
import Derived.Test.YtnppegmilcocoaaOpn
namespace Go.Proofs.Ytnppegmilcocoaa.Pa
open Go.RowKit Go.Proofs.YtnppegmilcocoaaW.PrintWords Go.Proofs.YtnppegmilcocoaaW.PrintLast Go.Proofs.YtnppegmilcocoaaW.PrintMore Go.Proofs.Ytnppegmilcocoaa.Opn
set_option linter.unusedVariables false
set_option linter.unusedSimpArgs false

def good_T53 (x : S53) : Prop := ((fun n => (Lit.int .i16 n).wf = true) x.f0) ∧ ((fun n => (Lit.int .i16 n).wf = true) x.f1) ∧ ((fun n => (Lit.int .i16 n).wf = true) x.f2) ∧ ((fun n => (Lit.int .i16 n).wf = true) x.f3) ∧ ((fun n => (Lit.int .i16 n).wf = true) x.f4) ∧ ((fun n => (Lit.int .i8 n).wf = true) x.f5)
set_option maxRecDepth 100000 in
theorem opn_T53 {H : Type} {enc : TypeId × Value → H} {W : World} {base : Nat} {sp : Nat → Bool} {hd : Bool} : Opn enc Try.prog W base sp hd 53 k53 good_T53 := by
  intro fuel cs x h
  have hl : cs.length = 6 := (struct_len Try.underlying53 h).trans (by kernel_rfl)
  obtain ⟨a0, h0, g0⟩ := fld Try.underlying53 h 0 _ rfl 0 1 rfl (by kernel_rfl) (opn_int Try.underlying48)
  obtain ⟨a1, h1, g1⟩ := fld Try.underlying53 h 1 _ rfl 1 1 rfl (by kernel_rfl) (opn_int Try.underlying48)
  obtain ⟨a2, h2, g2⟩ := fld Try.underlying53 h 2 _ rfl 2 1 rfl (by kernel_rfl) (opn_int Try.underlying48)
  obtain ⟨a3, h3, g3⟩ := fld Try.underlying53 h 3 _ rfl 3 1 rfl (by kernel_rfl) (opn_int Try.underlying48)
  obtain ⟨a4, h4, g4⟩ := fld Try.underlying53 h 4 _ rfl 4 1 rfl (by kernel_rfl) (opn_int Try.underlying48)
  obtain ⟨a5, h5, g5⟩ := fld Try.underlying53 h 5 _ rfl 5 1 rfl (by kernel_rfl) (opn_int Try.underlying49)
  have p5 := last_at (o := 5) (s := 1) h5 (by omega)
  have p4 := pair_at (o := 4) (s := 1) h4 (rfl : 5 = 4 + 1) p5
  have p3 := pair_at (o := 3) (s := 1) h3 (rfl : 4 = 3 + 1) p4
  have p2 := pair_at (o := 2) (s := 1) h2 (rfl : 3 = 2 + 1) p3
  have p1 := pair_at (o := 1) (s := 1) h1 (rfl : 2 = 1 + 1) p2
  have p0 := pair_at (o := 0) (s := 1) h0 (rfl : 1 = 0 + 1) p1
  exact ⟨⟨a0, a1, a2, a3, a4, a5⟩, p0, ⟨g0, g1, g2, g3, g4, g5⟩⟩
end Go.Proofs.Ytnppegmilcocoaa.Pa
