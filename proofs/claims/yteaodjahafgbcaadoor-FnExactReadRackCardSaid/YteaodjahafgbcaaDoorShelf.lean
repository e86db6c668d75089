/- The library's strconv.ParseInt, strconv.FormatInt, strings.Index, strings.Count; impl.readDecimal over them. -/
import Derived.Shelf.Lay
import Derived.Shelf.LaySoft
import Derived.Shelf.LaysM
import Derived.Shelf.LaysC
import Derived.Shelf.Strconv.Itoa4
import Derived.Shelf.Strconv.ParseIntPublic10
import Derived.Shelf.Strings.Search3
import Derived.Shelf.Strings.Count
import Derived.Test.YteaodjahafgbcaaDoorProg
import Derived.Ground.NamesProg
import Derived.KernelRfl
import Derived.Below
import Derived.Lib.ParseIntBTie
import Derived.Laws.Strings
import Derived.Lib.AtoiTie
namespace Go.Proofs
open Go.Shelf
shelf_lay LaysM.n173 Nm 173 at Tryd as Tryd.laysM173
shelf_lay LaysC.n174 Nm 174 at Tryd as Tryd.laysC174
shelf_lay Lays.n219 Nm 219 at Tryd as Tryd.lays219
shelf_lay Lays.n138 Nm 138 at Tryd as Tryd.lays138
open Go.RowKit Go.Lib Go.Sort
set_option maxHeartbeats 2000000
theorem Tryd.below_grown {w : World} (k : Nat) (os : Array Obj) : Below w.heap.size w (grow (w.drewN k) os) := by
  refine ⟨rfl, rfl, rfl, ?_, fun i hi => ?_⟩
  · unfold grow World.drewN; simp
  · unfold grow World.drewN
    simp only
    rw [Array.getElem?_append_left hi]
theorem Tryd.calls_within (n lo hi : Int) (w : World) : Calls Tryd.prog 54 #[.int .i64 n, .int .i64 lo, .int .i64 hi] w fun e w' => e = .returned (.bool (decide (lo ≤ n) && decide (n ≤ hi))) ∧ w' = w := by
  go_enter Tryd.func54, Tryd.ntmps54
  go_wp2
  · go_ret
    exact ⟨by rw [decide_eq_true (by omega : lo ≤ n), Bool.true_and]; rfl, rfl⟩
  · go_ret
    exact ⟨by rw [decide_eq_false (by omega : ¬ lo ≤ n), Bool.false_and]; rfl, rfl⟩
theorem Tryd.calls_decimal (n : Int) (h0 : -9223372036854775808 ≤ n) (h1 : n ≤ 9223372036854775807) (w : World) (htab : Lib.TabIs Tryd.prog w "internal/strconv.uint64pow10" .u64 Lib.pow10Tab) :
    Calls Tryd.prog 20 #[.int .i64 n] w fun e w' => e = .returned (.string ⟨(Lib.itoa n).toArray⟩) ∧ ∃ k os, w' = grow (w.drewN k) os := by
  have hcon := Any.strconv_FormatInt_10 Tryd.laysM173 n h0 h1 w htab
  change Calls Tryd.prog 44 _ _ _ at hcon
  generalize Lib.itoa n = r at hcon ⊢
  go_enter Tryd.func20, Tryd.ntmps20
  go_wp2_with (go_at_call 44; refine hcon.mono ?_; rintro e w' ⟨rfl, k, os, rfl⟩)
  go_ret
  exact ⟨rfl, k, os, rfl⟩
theorem Tryd.calls_read_err (s : ByteArray) (lo hi z : Int) (w : World) (h : Calls Tryd.prog 53 #[.string s, .int .i64 10, .int .i64 64] w fun e w' => ∃ N, e = .returned (.tuple #[.int .i64 z, .iface 120 (.pointer (some ⟨N, 0, none⟩))]) ∧ Below w.heap.size w w') :
    Calls Tryd.prog 31 #[.string s, .int .i64 lo, .int .i64 hi] w fun e w' => e = .returned (.tuple #[.int .i64 z, .bool false]) ∧ Below w.heap.size w w' := by
  go_enter Tryd.func31, Tryd.ntmps31
  go_wp2_with (go_at_call 53; refine h.mono ?_; rintro e w1 ⟨N, rfl, hb⟩)
  go_ret2
  exact ⟨rfl, hb⟩
theorem Tryd.calls_read_ok (s : ByteArray) (lo hi v : Int) (h0 : -9223372036854775808 ≤ v) (h1 : v ≤ 9223372036854775807) (w : World) (hg : 1 < w.heap.size) (htab : Lib.TabIs Tryd.prog w "internal/strconv.uint64pow10" .u64 Lib.pow10Tab)
    (h : Calls Tryd.prog 53 #[.string s, .int .i64 10, .int .i64 64] w fun e w' => e = .returned (.tuple #[.int .i64 v, .nilIface]) ∧ Below w.heap.size w w') :
    Calls Tryd.prog 31 #[.string s, .int .i64 lo, .int .i64 hi] w fun e w' => e = .returned (.tuple #[.int .i64 v, .bool (decide ((⟨(Lib.itoa v).toArray⟩ : ByteArray).toList = s.toList) && (decide (lo ≤ v) && decide (v ≤ hi)))]) ∧ Below w.heap.size w w' := by
  have htab' : ∀ w', Below w.heap.size w w' → Lib.TabIs Tryd.prog w' "internal/strconv.uint64pow10" .u64 Lib.pow10Tab := fun w' hb => by
    unfold Lib.TabIs World.var? at *
    rw [show Tryd.prog.globalNamed "internal/strconv.uint64pow10" = some 1 by kernel_rfl] at *
    simp only [Option.bind_some] at *
    rw [hb.block 1 hg]
    exact htab
  have hd := fun w' hb => Tryd.calls_decimal v h0 h1 w' (htab' w' hb)
  clear htab htab'
  have hw := fun w' => Tryd.calls_within v lo hi w'
  generalize (Lib.itoa v).toArray = r at *
  go_enter Tryd.func31, Tryd.ntmps31
  go_wp2_with (first | (go_at_call 53; refine h.mono ?_; rintro e w1 ⟨rfl, hb⟩) | (go_at_call 20; refine (hd _ hb).mono ?_; rintro e w2 ⟨rfl, k, os, rfl⟩) | (go_at_call 54; refine (hw _).mono ?_; rintro e w3 ⟨rfl, rfl⟩))
  · rename_i hh
    go_ret2
    exact ⟨by rw [decide_eq_true hh, Bool.true_and]; rfl, hb.trans ((Tryd.below_grown k os).mono hb.size)⟩
  · rename_i hh
    go_ret2
    exact ⟨by rw [decide_eq_false hh, Bool.false_and]; rfl, hb.trans ((Tryd.below_grown k os).mono hb.size)⟩
theorem Tryd.heap_var {w : World} {n : String} {g : Nat} {cs : Array Value} (hg : Tryd.prog.globalNamed n = some g) {t : TypeId} {fr : Nat × Nat} (h : w.heap[g]? = some (.cells cs t fr)) : w.var? Tryd.prog n = some cs := by
  unfold World.var?
  rw [hg, Option.bind_some, h]
theorem Tryd.calls_read (s : ByteArray) (lo hi : Int) (w : World) (hs : s.size ≤ 281474976710656)
    (h1 : ∃ t fr, w.heap[1]? = some (.cells ((List.range 20).map fun i => Value.int .u64 ((10 ^ i : Nat) : Int)).toArray t fr))
    (h2 : ∃ t p a fr, w.heap[2]? = some (.cells #[.iface t p] a fr)) (h3 : ∃ t p a fr, w.heap[3]? = some (.cells #[.iface t p] a fr)) :
    Calls Tryd.prog 31 #[.string s, .int .i64 lo, .int .i64 hi] w fun e w' => Below w.heap.size w w' ∧ match Lib.parseIntB 64 s.data.toList with
      | .ok v => e = .returned (.tuple #[.int .i64 v, .bool (decide ((⟨(Lib.itoa v).toArray⟩ : ByteArray).toList = s.toList) && (decide (lo ≤ v) && decide (v ≤ hi)))])
      | .syntax => e = .returned (.tuple #[.int .i64 0, .bool false])
      | .range => e = .returned (.tuple #[.int .i64 (Lib.intSat 64 s.data.toList), .bool false]) := by
  have hlt : ∀ {g : Nat} {o : Obj}, w.heap[g]? = some o → g < w.heap.size := fun h => (Array.getElem?_eq_some_iff.1 h).1
  have cell : ∀ {g : Nat} {v : Value} {a : TypeId} {fr : Nat × Nat}, w.heap[g]? = some (.cells #[v] a fr) → w.cell? ⟨g, 0, none⟩ = some v := fun h => by
    rw [Lib.cell_of_heap h]
    rfl
  cases hp : Lib.parseIntB 64 s.data.toList with
  | ok v =>
    obtain ⟨t, fr, h1⟩ := h1
    have hb : -9223372036854775808 ≤ v ∧ v ≤ 9223372036854775807 := by
      have := Lib.parseIntB_bounds hp
      simp only [show ((2 ^ (64 - 1) : Nat) : Int) = 9223372036854775808 from by decide] at this
      omega
    have C := Any.strconv_ParseInt_10_at64_ok Tryd.laysC174 s (by omega) v hp w
    change Calls Tryd.prog 53 _ _ _ at C
    refine (Tryd.calls_read_ok s lo hi v hb.1 hb.2 w (hlt h1) (Tryd.heap_var (by kernel_rfl) h1) (C.mono fun e w' ⟨he, hw⟩ => ⟨he, ?_⟩)).mono fun e w' ⟨he, hw⟩ => ⟨hw, he⟩
    rcases hw with rfl | ⟨t, rfl⟩
    · exact Below.refl _ _
    · exact Lib.bytesWorld_below _ _ _
  | «syntax» =>
    obtain ⟨t, p, a, fr, h2⟩ := h2
    have C := Any.strconv_ParseInt_10_at64_syntax Tryd.laysC174 s hs hp (.iface t p) w (cell h2) (.inr ⟨_, _, rfl⟩)
    change Calls Tryd.prog 53 _ _ _ at C
    exact (Tryd.calls_read_err s lo hi 0 w (C.mono fun e w' ⟨N, he, _, _, hw⟩ => ⟨N, he, hw⟩)).mono fun e w' ⟨he, hw⟩ => ⟨hw, he⟩
  | range =>
    obtain ⟨t, p, a, fr, h3⟩ := h3
    have C := Any.strconv_ParseInt_10_at64_range Tryd.laysC174 s hs hp (.iface t p) w (cell h3) (.inr ⟨_, _, rfl⟩)
    change Calls Tryd.prog 53 _ _ _ at C
    exact (Tryd.calls_read_err s lo hi (Lib.intSat 64 s.data.toList) w (C.mono fun e w' ⟨N, he, _, _, hw⟩ => ⟨N, he, hw⟩)).mono fun e w' ⟨he, hw⟩ => ⟨hw, he⟩
end Go.Proofs
