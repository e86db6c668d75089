/- Plain proofs: what the functions answer, in plain lists and numbers. -/
import Derived.Test.YtjajlmaldeoobaaDoorRd0
import Derived.Test.YtjajlmaldeoobaaDoorShelf
namespace Go.Proofs.YtjajlmaldeoobaaDoor.G
open Go
set_option linter.unusedVariables false
set_option linter.unusedSimpArgs false
set_option maxRecDepth 10000
abbrev DB := Int × Int
abbrev DS := DB × Int
/-- A copy, element by element. -/
theorem copied {β : Type} {l o : List β} {k : Nat} {d : β} (h : k < l.length) (ho : o.length = l.length) (hp : o.take k = l.take k) : (o.set k l[k]).take (k + 1) = l.take (k + 1) ∧ (o.set k l[k]).length = l.length := by
  refine ⟨?_, by simpa using ho⟩
  rw [List.take_succ_eq_append_getElem (by simpa [ho] using h), List.take_succ_eq_append_getElem h, List.take_set_of_le (Nat.le_refl k), hp]
  simp
/-- Lists of one length are alike where no pair of elements differs. -/
theorem any_eq {β : Type} [DecidableEq β] : ∀ (a b : List β), a.length = b.length → (a.zip b).any (fun p => !decide (p.1 = p.2)) = !decide (a = b)
  | [], [], _ => by simp
  | [], _ :: _, h => by simp at h
  | _ :: _, [], h => by simp at h
  | x :: a, y :: b, h => by
    rw [List.zip_cons_cons, List.any_cons, any_eq a b (by simpa using h)]
    by_cases c : x = y <;> by_cases c2 : a = b <;> simp [c, c2]
theorem zip_at {β γ : Type} {a : List β} {b : List γ} {k : Nat} (h : k < (a.zip b).length) : (a.zip b)[k] = (a[k]'(by simp at h; omega), b[k]'(by simp at h; omega)) := by simp
theorem s_l00In : spec_l00In.S (tot fun x => decide (x.2.1 ≤ x.1) && decide (x.1 ≤ x.2.2)) := spec_l00In.of_tot fun x k => by
  unfold spec_l00In.pf
  by_cases c : x.2.1 ≤ x.1
  · rw [decT (show x.1 ≥ x.2.1 from c)]; rfl
  · rw [decF (show ¬ x.1 ≥ x.2.1 from c)]; rfl
theorem s_within : Fz6.S (tot fun x => decide (x.2.1 ≤ x.1) && decide (x.1 ≤ x.2.2)) := Fz6.of_tot fun x k => by
  unfold Fz6.pf
  by_cases c : x.2.1 ≤ x.1
  · rw [decT c]; rfl
  · rw [decF c]; rfl
theorem any_not {β : Type} (l : List β) (p : β → Bool) : (l.any fun x => !p x) = !l.all p := by
  induction l with
  | nil => rfl
  | cons x l ih => rw [List.any_cons, List.all_cons, ih, Bool.not_and]
/-- Where the first one is. -/
def indexI {β : Type} (p : β → Bool) (l : List β) : Int := match l.findIdx? p with
  | some i => i
  | none => -1
theorem firstOr_index {α β : Type} (p : β → Bool) (k : Int → Option α) : ∀ (l : List β) (j : Nat), firstOr p (fun i _ => k (i : Int)) (k (-1)) j l = k (match l.findIdx? p with | some i => ((j + i : Nat) : Int) | none => -1)
  | [], _ => rfl
  | x :: l, j => by
    rw [firstOr, List.findIdx?_cons]
    cases p x with
    | true => simp
    | false =>
      rw [cond_false, firstOr_index p k l]
      cases l.findIdx? p with
      | none => rfl
      | some i => simp [Nat.add_assoc, Nat.add_comm 1 i]
theorem indexI_nn {β : Type} (p : β → Bool) (l : List β) : decide (indexI p l ≥ 0) = l.any p := by
  unfold indexI
  cases h : l.findIdx? p with
  | none =>
    have := List.findIdx?_eq_none_iff.1 h
    simp only
    rw [decF (by omega)]
    symm
    rw [List.any_eq_false]
    intro x hx
    simpa using this x hx
  | some i =>
    simp only
    rw [decT (by omega)]
    symm
    obtain ⟨hi, hp, _⟩ := List.findIdx?_eq_some_iff_getElem.1 h
    exact List.any_eq_true.2 ⟨_, List.getElem_mem hi, hp⟩
theorem okS {n : Nat} (h : n ≤ 4294967296) : okL n = true := okL_true h
/-- Few lanes, each of them short. -/
def Few (o : List (List DS)) : Prop := o.length ≤ 8 ∧ ∀ x, x ∈ o → x.length ≤ 6
theorem Few.set {o : List (List DS)} (h : Few o) {n : Nat} {x : List DS} (hx : x.length ≤ 6) : Few (o.set n x) := ⟨by rw [List.length_set]; exact h.1, fun y hy => by
  rcases List.mem_or_eq_of_mem_set hy with q | rfl
  · exact h.2 y q
  · exact hx⟩
def PszB (x : List DB × Int) : Prop := x.1.length ≤ maxLen ∧ 0 ≤ x.2 ∧ x.2 ≤ 1048576
def vszB (x : List DB × Int) : Int := if x.2 < x.1.length then -1 else x.2 - x.1.length
/-- All that lies in a rack. -/
def AllIn (Q : DS → Prop) (o : List (List DS)) : Prop := ∀ l, l ∈ o → ∀ s, s ∈ l → Q s
theorem AllIn.set {Q : DS → Prop} {o : List (List DS)} (h : AllIn Q o) {n : Nat} {x : List DS} (hx : ∀ s, s ∈ x → Q s) : AllIn Q (o.set n x) := fun l hl s hs => by
  rcases List.mem_or_eq_of_mem_set hl with q | rfl
  · exact h l q s hs
  · exact hx s hs
theorem szB_ok {l : List DB} {n : Int} (h : ¬ vszB (l, n) < 0) (h1 : n ≤ 1048576) : l.length ≤ 1048576 := by
  unfold vszB at h
  simp only at h
  by_cases c : n < l.length
  · rw [if_pos c] at h; omega
  · omega
theorem s_l01Place : Fz20.S (tot fun x => decide (0 ≤ x) && decide (x ≤ 11)) := Fz20.of_tot s_l00In fun x k => by
  unfold Fz20.pf
  rw [tot_eq]
  rfl
def PSw (s : Int × Int) : Prop := (-128 ≤ s.1 ∧ s.1 ≤ 127) ∧ -128 ≤ s.2 ∧ s.2 ≤ 127
theorem s_l03Can : Fz21.S (cl PSw fun s => (decide (0 ≤ s.1) && decide (s.1 ≤ 11)) && (decide (0 ≤ s.2) && decide (s.2 ≤ 11))) := Fz21.of_cl s_l01Place fun s ⟨⟨h1, h2⟩, h3, h4⟩ k => by
  unfold Fz21.pf
  rw [w64 (n := s.1) (by omega) (by omega), w64 (n := s.2) (by omega) (by omega), tot_eq, Option.bind_some]
  cases decide (0 ≤ s.1) && decide (s.1 ≤ 11) <;> rfl
theorem s_eqSwap : Fz10.S (tot fun x => decide (x.1 = x.2)) := Fz10.of_tot fun x k => by
  obtain ⟨⟨a1, a2⟩, b1, b2⟩ := x
  unfold Fz10.pf
  by_cases h1 : a1 = b1
  · by_cases h2 : a2 = b2
    · simp [h1, h2]
    · simp [h1, h2, bneT h2]
  · simp [h1, bneT h1]
theorem s_eqSwapS : Fz11.S (cl PL1 fun x => decide (x.1 = x.2)) := Fz11.of_cl s_eqSwap fun x h k => by
  obtain ⟨a, b⟩ := x
  have h : a.length ≤ 1073741824 := h
  show Fz11.pf _ BIG a b k = k (decide (a = b))
  unfold Fz11.pf
  by_cases c : a.length = b.length
  · rw [show (((a.length : Nat) : Int) != ((b.length : Nat) : Int)) = false by simp [c], cond_false]
    have hz : (a.zip b).length = a.length := by simp [c]
    rw [iter_first (a.zip b) (fun i => (i : Int)) (fun p => !decide (p.1 = p.2)) (fun _ _ => k false) (k true) (x := 0) rfl (big_lt (by omega)) ?_ ?_, firstOr_const, any_eq a b c]
    · by_cases e : a = b <;> simp [e]
    · intro i hi rec
      have h1 : i < a.length := by omega
      have h2 : i < b.length := by omega
      unfold Fz11.B1
      rw [zip_at hi]
      simp only [decT (show (i : Int) < (a.length : Int) by omega), inB_nat h1, inB_nat h2, cond_true, Int.toNat_natCast, getD_lt h1, getD_lt h2, tot_eq, Option.bind_some, w64n (show i < 9223372036854775807 by omega)]
    · intro rec
      unfold Fz11.B1
      rw [decF (by omega)]
      rfl
  · rw [show (((a.length : Nat) : Int) != ((b.length : Nat) : Int)) = true by simpa using fun q => c (by omega), cond_true]
    rw [decF (fun e => c (by rw [e]))]
def PJoin (x : List ByteArray × ByteArray) : Prop := x.1.length ≤ 1000000 ∧ (Lib.join (x.1.map (·.data.toList)) x.2.data.toList).length ≤ 140737488355328
def vJoin (x : List ByteArray × ByteArray) : ByteArray := ⟨(Lib.join (x.1.map (·.data.toList)) x.2.data.toList).toArray⟩
theorem s_Join : Fz24.S (cl PJoin vJoin) where
  fn := ⟨Tryd.f19, by kernel_rfl, by decide, by decide⟩
  does := fun avs r hr vs w gh MBb hR => by
    obtain ⟨x, y, h1, h2, rfl⟩ := mkSig_run hr
    obtain ⟨e0, rfl⟩ := Fz24.dec_eq h1
    obtain ⟨⟨p1, p2⟩, rfl⟩ := cl_some h2
    have hR : R 2 w ⟨MBb, _⟩ ⟨[.sl 0 [] none, .val .str x.2], [some (.dat ⟨e0, .str, x.1, false, false, none⟩)]⟩ gh ⟨vs.toArray, []⟩ w := hR
    have hsz : vs.length = 2 := by simpa using hR.tm
    match vs, hsz with
    | [v0, v1], _ =>
      have a0 : SlRel [some (.dat ⟨e0, .str, x.1, false, false, none⟩)] gh 0 [] none v0 := hR.slots 0 (by omega)
      have a1 : v1 = .string x.2 := (hR.slots 1 (by omega)).2.2
      subst a1
      obtain ⟨d, A, c, locs, q1, rfl, q3, E2⟩ := sl_elems hR a0 (u := .str) (l := x.1) rfl
      have hcall : Calls Tryd.prog 19 #[.slice A x.1.length c, .string x.2] w fun e w' => e = .returned (.string (vJoin x)) ∧ Go.RowKit.Below w.heap.size w w' := by
        rcases Nat.eq_zero_or_pos x.1.length with h0 | h0
        · have hn : x.1 = [] := List.eq_nil_of_length_eq_zero h0
          rw [h0]
          refine (Tryd.strings_Join_none A c x.2 w).mono fun e w' ⟨he, hw⟩ => ⟨?_, hw ▸ Go.RowKit.Below.refl _ _⟩
          rw [he]
          unfold vJoin
          rw [hn]
          rfl
        · obtain ⟨b, o, rfl, hb, hr⟩ := E2.at_ h0
          have hc : rowCells .str x.1 locs = x.1.map Value.string := by
            have e1 : rowCells .str x.1 locs = (List.range x.1.length).map fun i => Value.string (List.getD x.1 i ByteArray.empty) := by
              rw [List.map_eq_flatMap]
              rfl
            rw [e1]
            refine List.ext_getElem (by simp) fun i h1 h2 => ?_
            have hi : i < x.1.length := by simpa using h2
            simp only [List.getElem_map, List.getElem_range]
            rw [getD_lt hi]
          exact Tryd.strings_Join b o c x.1 x.2 w (fun j z hz => hr j _ (by rw [hc, List.getElem?_map, hz]; rfl)) hb (by omega) q3 p2
      refine hcall.mono fun e w' ⟨he, hb⟩ => ?_
      subst he
      exact ⟨_, gh, [.val .str (vJoin x)], [.string (vJoin x)], hR.ret hb _ _ (All2.cons_iff.2 ⟨⟨rfl, trivial, rfl⟩, All2.nil _⟩), rfl, rfl, rfl⟩
def P11 (n : Int) : Prop := 0 ≤ n ∧ n ≤ 11
def decB (n : Int) : ByteArray := if n < 10 then strOf [48 + n] else strOf [48 + n / 10] ++ strOf [48 + n % 10]
theorem p11 {n : Int} (h : P11 n) : n = 0 ∨ n = 1 ∨ n = 2 ∨ n = 3 ∨ n = 4 ∨ n = 5 ∨ n = 6 ∨ n = 7 ∨ n = 8 ∨ n = 9 ∨ n = 10 ∨ n = 11 := by
  obtain ⟨h1, h2⟩ := h
  omega
theorem decB_size {n : Int} (h : P11 n) : (decB n).size ≤ 2 := by
  rcases p11 h with rfl | rfl | rfl | rfl | rfl | rfl | rfl | rfl | rfl | rfl | rfl | rfl <;> decide
theorem s_small : Fz8.S (cl P11 decB) := Fz8.of_cl fun n h k => by
  unfold Fz8.pf
  rcases p11 h with rfl | rfl | rfl | rfl | rfl | rfl | rfl | rfl | rfl | rfl | rfl | rfl <;> exact congrArg k (by kernel_rfl)
theorem s_FormatInt0 : Fz7.S (cl (fun x => P11 x.1 ∧ x.2 = 10) fun x => decB x.1) := Fz7.of_cl s_small fun x h k => by
  obtain ⟨n, b⟩ := x
  obtain ⟨hn, hb⟩ := h
  have hb : b = 10 := hb
  subst hb
  have hn : P11 n := hn
  show Fz7.pf _ BIG n 10 k = k (decB n)
  unfold Fz7.pf
  rw [beqT rfl, decT (show (0 : Int) ≤ n from hn.1), decT (show n < 100 by have := hn.2; omega)]
  simp only [cond_true]
  rw [cl_eq hn, Option.bind_some]
theorem s_FormatInt : Fz23.S (cl (fun x => P11 x.1 ∧ x.2 = 10) fun x => decB x.1) := Fz23.of_cl s_FormatInt0 fun x h k => by
  unfold Fz23.pf
  rw [cl_eq (P := fun x : Int × Int => P11 x.1 ∧ x.2 = 10) h, Option.bind_some]
theorem s_decimal : Fz1.S (cl P11 decB) := Fz1.of_cl s_FormatInt fun n h k => by
  unfold Fz1.pf
  rw [cl_eq (P := fun x : Int × Int => P11 x.1 ∧ x.2 = 10) (x := (n, 10)) ⟨h, rfl⟩, Option.bind_some]
theorem s_Decimal0 : Fz17.S (fun _ => none) := Sound.never ⟨Tryd.f27, by kernel_rfl, by decide, by decide⟩ fun _ => rfl
theorem decimal_pf {α : Type} (f : Int → Option ByteArray) (n : Int) (h1 : 0 ≤ n) (h2 : n ≤ 11) (hf : 10 ≤ n → f (n / 10) = some (strOf [48 + n / 10])) (k : ByteArray → Option α) : Fz17.pf f BIG n k = k (decB n) := by
  unfold Fz17.pf
  have e : Int.tmod n 10 = n % 10 := Int.tmod_eq_emod_of_nonneg h1
  have e1 : Int.tdiv n 10 = n / 10 := Int.tdiv_eq_ediv_of_nonneg h1
  rw [e, e1, w64 (n := 48 + n % 10) (by omega) (by omega), w64 (n := n / 10) (by omega) (by omega)]
  have e2 : IntKind.u8.wrap (48 + n % 10) = 48 + n % 10 := by rw [IntKind.wrap_u8]; omega
  rw [e2]
  simp only [beqF (show (10 : Int) ≠ 0 by omega), cond_false]
  unfold decB
  by_cases c : n < 10
  · have e3 : n % 10 = n := by omega
    rw [decT c, if_pos c, e3]
    rfl
  · rw [decF c, if_neg c, cond_false, hf (by omega), Option.bind_some]
    have hsz : ∀ m : Int, (strOf [m]).size = 1 := fun m => rfl
    rw [hsz, hsz]
    rfl
def P9 (n : Int) : Prop := 0 ≤ n ∧ n ≤ 9
theorem s_Decimal1 : Fz17.S (cl P9 decB) := Fz17.of_cl s_Decimal0 fun n h k => decimal_pf _ n h.1 (Int.le_trans h.2 (by omega)) (fun q => absurd q (by have := h.2; omega)) k
theorem dec_half (n : Int) (h2 : n ≤ 11) (q : 10 ≤ n) : cl P9 decB (n / 10) = some (strOf [48 + n / 10]) := by
  rw [cl_eq (show P9 (n / 10) from ⟨by omega, by omega⟩)]
  exact congrArg some (if_pos (by omega))
theorem s_Decimal : Fz17.S (cl P11 decB) := Fz17.of_cl s_Decimal1 fun n h k => decimal_pf _ n h.1 h.2 (dec_half n h.2) k
def gW (l : List DB) : Prop := l.length ≤ maxLen ∧ ∀ s, s ∈ l → PSw s
theorem good_W {b : DB} (h : goodV (.st (.pair (.int .i8) (.int .i8))) b) : PSw b := by
  obtain ⟨h1, h2⟩ := h
  simp only [goodV, Lit.wf, IntKind.min, IntKind.max, IntKind.bits, IntKind.signed] at h1 h2
  simp at h1 h2
  unfold PSw
  omega
theorem good_Ws {e : TypeId} {l : List DB} (h : goodV (.row e (.st (.pair (.int .i8) (.int .i8)))) l) : gW l := by
  obtain ⟨h1, h2⟩ := h
  refine ⟨h1, fun s hs => ?_⟩
  obtain ⟨i, hi, rfl⟩ := List.mem_iff_getElem.1 hs
  have := h2 i hi
  rw [getD_lt hi] at this
  exact good_W this
def wW (l : List DB) : Prop := PL l ∧ ∀ s, s ∈ l → PSw s
def okSw (s : DB) : Bool := (decide (0 ≤ s.1) && decide (s.1 ≤ 11)) && (decide (0 ≤ s.2) && decide (s.2 ≤ 11))
theorem okSw_p {s : DB} (h : okSw s = true) : P11 s.1 ∧ P11 s.2 := by
  simp only [okSw, Bool.and_eq_true, decide_eq_true_eq] at h
  exact h
theorem s_toSwap : Fz13.S (tot fun x => x) := Fz13.of_tot fun x k => rfl
theorem s_toSwapS : Fz14.S (cl PL fun l => l) := Fz14.of_cl s_toSwap fun l h k => by
  have h : l.length ≤ 1073741824 := h
  unfold Fz14.pf
  rw [inW_true (by omega) (by omega) (by unfold LIM; omega)]
  simp only [cond_true]
  refine (iter_list (B := Fz14.B1 (tot fun x => x) l fun x1 => k x1.2) l (fun i (c : List DB) => ((i : Int), c)) (fun _ _ => k l) (fun i c => c.length = l.length ∧ c.take i = l.take i) (c := List.replicate l.length (0, 0)) (by simp) (big_lt (by omega)) (by simp) ?_ ?_)
  · rintro i hi c rec ⟨h1, h2⟩ hrec
    unfold Fz14.B1
    simp only [decT (show (i : Int) < (l.length : Int) by omega), inB_nat hi, inB_nat (h1 ▸ hi : i < c.length), cond_true, Int.toNat_natCast, getD_lt hi, tot_eq, Option.bind_some, w64n (show i < 9223372036854775807 by omega)]
    have := copied (d := ((0, 0) : DB)) hi h1 h2
    exact hrec _ ⟨this.2, this.1⟩
  · rintro c rec ⟨h1, h2⟩
    unfold Fz14.B1
    rw [decF (by omega)]
    rw [List.take_of_length_le (by omega), List.take_of_length_le (Nat.le_refl _)] at h2
    simp only [cond_false, h2]
theorem s_szSwapS : Fz12.S (cl PszB vszB) :=
  Fz12.of_cl fun x ⟨h1, h2, h3⟩ k => by
    unfold maxLen at h1
    unfold Fz12.pf vszB
    rw [w64 (by omega) (by omega)]
    by_cases c : x.2 < x.1.length
    · rw [decT (by omega), if_pos c]; rfl
    · rw [decF (by omega), if_neg c]; rfl
def word (s : DB) : ByteArray := (decB s.1 ++ bytesOf [45]) ++ decB s.2
theorem bsize (a b : ByteArray) : (a ++ b).size = a.size + b.size := ByteArray.size_append
theorem word_size {s : DB} (h : okSw s = true) : (word s).size ≤ 5 := by
  have h1 := decB_size (okSw_p h).1
  have h2 := decB_size (okSw_p h).2
  have h3 : (bytesOf [45]).size = 1 := rfl
  unfold word
  rw [bsize, bsize]
  omega
def txtF : Nat → ByteArray → List DB → ByteArray
  | _, x, [] => x
  | i, x, s :: l => txtF (i + 1) ((if i = 0 then x else x ++ bytesOf [32]) ++ word s) l
def PTx (l : List DB) : Prop := l.length ≤ 60 ∧ l.all okSw = true
theorem limT {n : Nat} (h : n ≤ 4294967296) : decide (n ≤ LIM) = true := decide_eq_true h
theorem s_l03Text : Fz22.S (cl PTx fun l => txtF 0 (bytesOf []) l) := Fz22.of_cl s_Decimal fun l h k => by
  obtain ⟨hl, hall⟩ := h
  unfold Fz22.pf
  refine iter_list l (fun i (x : ByteArray) => (x, (i : Int))) (fun q x => k (txtF (l.length - q.length) x q)) (fun i x => x.size ≤ 6 * i) (c := bytesOf []) rfl (big_lt (by omega)) (Nat.le_refl 0) ?_ ?_ |>.trans (by rw [Nat.sub_self])
  · rintro i hi x rec hx hrec
    have hok := List.all_eq_true.1 hall _ (List.getElem_mem hi)
    obtain ⟨o1, o2⟩ := okSw_p hok
    have d1 := decB_size o1
    have d2 := decB_size o2
    have hw := word_size hok
    have c32 : (bytesOf [32]).size = 1 := rfl
    have c45 : (bytesOf [45]).size = 1 := rfl
    have e1 : l.length - (l[i] :: l.drop (i + 1)).length = i := by rw [List.length_cons, List.length_drop]; omega
    have e2 : l.length - (l.drop (i + 1)).length = i + 1 := by rw [List.length_drop]; omega
    have w1 : IntKind.i64.wrap (l[i]).1 = (l[i]).1 := w64 (by have := o1.1; omega) (by have := o1.2; omega)
    have w2 : IntKind.i64.wrap (l[i]).2 = (l[i]).2 := w64 (by have := o2.1; omega) (by have := o2.2; omega)
    unfold Fz22.B1
    rw [e1]
    rw [e2] at hrec
    simp only [decT (show (i : Int) < (l.length : Int) by omega), inB_nat hi, cond_true, Int.toNat_natCast, getD_lt hi, w1, w2, cl_eq o1, cl_eq o2, Option.bind_some, w64n (show i < 9223372036854775807 by omega), txtF]
    rw [limT (show (decB (l[i]).1).size + (bytesOf [45]).size ≤ 4294967296 by omega), limT (show (decB (l[i]).1 ++ bytesOf [45]).size + (decB (l[i]).2).size ≤ 4294967296 by rw [bsize]; omega)]
    simp only [cond_true]
    by_cases c : i = 0
    · rw [decF (by omega), if_pos c]
      have hz : (x ++ ((decB (l[i]).1 ++ bytesOf [45]) ++ decB (l[i]).2)).size ≤ 6 * (i + 1) := by
        have : ((decB (l[i]).1 ++ bytesOf [45]) ++ decB (l[i]).2).size ≤ 5 := hw
        rw [bsize]; omega
      rw [limT (show x.size + ((decB (l[i]).1 ++ bytesOf [45]) ++ decB (l[i]).2).size ≤ 4294967296 by rw [bsize] at hz; omega)]
      exact hrec _ hz
    · rw [decT (by omega), if_neg c]
      have hz : ((x ++ bytesOf [32]) ++ ((decB (l[i]).1 ++ bytesOf [45]) ++ decB (l[i]).2)).size ≤ 6 * (i + 1) := by
        have : ((decB (l[i]).1 ++ bytesOf [45]) ++ decB (l[i]).2).size ≤ 5 := hw
        rw [bsize, bsize]; omega
      rw [limT (show x.size + (bytesOf [32]).size ≤ 4294967296 by omega), limT (show (x ++ bytesOf [32]).size + ((decB (l[i]).1 ++ bytesOf [45]) ++ decB (l[i]).2).size ≤ 4294967296 by rw [bsize] at hz; omega)]
      exact hrec _ hz
  · rintro x rec _
    unfold Fz22.B1
    rw [decF (by simp)]
    simp [txtF]
def swapsText (l : List DB) : ByteArray := if (l.all okSw && decide (l.length ≤ 60)) = true then txtF 0 (bytesOf []) l else bytesOf []
theorem s_spec_SwapsText : Fz18.S (cl wW swapsText) := Fz18.of_cl s_l03Can s_l03Text fun l h k => by
  obtain ⟨hl, hw⟩ := h
  have hl : l.length ≤ 1073741824 := hl
  unfold Fz18.pf swapsText
  rw [iter_first l (fun i => (i : Int)) (fun s => !okSw s) (fun _ _ => k (bytesOf [])) (cond (decide ((l.length : Int) > 60)) (k (bytesOf [])) ((cl PTx (fun l => txtF 0 (bytesOf []) l) l).bind fun r1 => k r1)) (x := 0) rfl (big_lt (by omega)) ?_ ?_, firstOr_const, any_not]
  · cases c : l.all okSw with
    | false => rfl
    | true =>
      simp only [Bool.not_true, cond_false, Bool.true_and]
      by_cases d : l.length ≤ 60
      · rw [decF (show ¬ (l.length : Int) > 60 by omega), decT d, if_pos rfl, cond_false, cl_eq (show PTx l from ⟨d, c⟩), Option.bind_some]
      · rw [decT (show (l.length : Int) > 60 by omega), decF d, if_neg (by simp)]
        rfl
  · intro i hi rec
    unfold Fz18.B1
    simp only [decT (show (i : Int) < (l.length : Int) by omega), inB_nat hi, cond_true, Int.toNat_natCast, getD_lt hi, cl_eq (hw _ (List.getElem_mem hi)), Option.bind_some, w64n (show i < 9223372036854775807 by omega)]
    rfl
  · intro rec
    unfold Fz18.B1
    rw [decF (by omega)]
    rfl
theorem s_isPlace : Fz2.S (tot fun x => decide (0 ≤ x) && decide (x ≤ 11)) := Fz2.of_tot s_within fun x k => by
  unfold Fz2.pf
  rw [tot_eq]
  rfl
theorem s_isSwap : Fz3.S (cl PSw okSw) := Fz3.of_cl s_isPlace fun s ⟨⟨h1, h2⟩, h3, h4⟩ k => by
  unfold Fz3.pf okSw
  rw [w64 (n := s.1) (by omega) (by omega), w64 (n := s.2) (by omega) (by omega), tot_eq, Option.bind_some]
  cases decide (0 ≤ s.1) && decide (s.1 ≤ 11) <;> rfl
theorem s_swapCode_1 : Fz5.S (cl PSw fun s => !okSw s) := Fz5.of_cl s_isSwap fun s h k => by
  unfold Fz5.pf
  rw [cl_eq h]; rfl
theorem s_index_sc : Fz16.S (cl wW fun l => indexI (fun s => !okSw s) l) := Fz16.of_cl s_swapCode_1 fun x h k => by
  have hl : x.length ≤ 1073741824 := h.1
  unfold Fz16.pf
  rw [iter_first x (fun i => (i : Int)) (fun s => !okSw s) (fun i _ => k (i : Int)) (k (-1)) (x := 0) rfl (big_lt (by omega)) ?_ ?_, firstOr_index]
  · unfold indexI
    congr 1
    cases x.findIdx? (fun s => !okSw s) <;> simp
  · intro i hi rec
    unfold Fz16.B1
    simp only [decT (show (i : Int) < (x.length : Int) by omega), inB_nat hi, cond_true, Int.toNat_natCast, getD_lt hi, cl_eq (h.2 _ (List.getElem_mem hi)), Option.bind_some, w64n (show i < 9223372036854775807 by omega)]
  · intro rec
    unfold Fz16.B1
    rw [decF (by omega)]
    rfl
theorem s_contains_sc : Fz15.S (cl wW fun l => !l.all okSw) := Fz15.of_cl s_index_sc fun x h k => by
  unfold Fz15.pf
  rw [cl_eq h, Option.bind_some, indexI_nn, any_not]
theorem s_swapCode : Fz4.S (cl (fun x => wW x.2) fun x => if x.1 = true then (if x.2.length ≤ 60 then (if x.2.all okSw = true then 0 else 2) else 3) else 1) := Fz4.of_cl s_contains_sc fun x h k => by
  obtain ⟨b, l⟩ := x
  have h : wW l := h
  show Fz4.pf _ BIG b l k = k (if b = true then (if l.length ≤ 60 then (if l.all okSw = true then 0 else 2) else 3) else 1)
  unfold Fz4.pf
  cases b with
  | false => rfl
  | true =>
    simp only [Bool.not_true, cond_false, if_true]
    by_cases d : l.length ≤ 60
    · rw [decF (show ¬ (l.length : Int) > 60 by omega), if_pos d, cond_false, cl_eq h, Option.bind_some]
      cases l.all okSw <;> rfl
    · rw [decT (show (l.length : Int) > 60 by omega), if_neg d]
      rfl
theorem dapp (a b : ByteArray) : (a ++ b).data.toList = a.data.toList ++ b.data.toList := by
  rw [ByteArray.data_append, Array.toList_append]
theorem join_txt : ∀ (l : List DB) (i : Nat) (x : ByteArray), (txtF (i + 1) x l).data.toList = x.data.toList ++ Lib.joinTail [32] (l.map fun s => (word s).data.toList)
  | [], i, x => by simp [txtF, Lib.joinTail]
  | s :: l, i, x => by
    rw [txtF, join_txt l (i + 1), if_neg (by omega), dapp, dapp]
    have e : (bytesOf [32]).data.toList = [32] := rfl
    rw [e]
    simp [Lib.joinTail]
theorem join_all : ∀ l : List DB, (txtF 0 (bytesOf []) l).data.toList = Lib.join (l.map fun s => (word s).data.toList) [32]
  | [] => rfl
  | s :: l => by
    rw [txtF, join_txt, if_pos rfl, dapp, List.map_cons, Lib.join_cons]
    rfl
theorem s_impl_SwapsText : Fz0.S (cl wW swapsText) := Fz0.of_cl s_swapCode s_decimal s_Join fun l h k => by
  have hl : l.length ≤ 1073741824 := h.1
  unfold Fz0.pf swapsText
  rw [cl_eq (P := fun x : Bool × List DB => wW x.2) (x := (true, l)) h, Option.bind_some]
  simp only [if_true]
  by_cases d : l.length ≤ 60
  · rw [if_pos d, decT d, Bool.and_true]
    cases c : l.all okSw with
    | false => rfl
    | true =>
      simp only [if_true]
      rw [bneF rfl, cond_false]
      refine (iter_list l (fun i (o : List ByteArray) => ((i : Int), o)) (fun _ _ => k (txtF 0 (bytesOf []) l)) (fun i o => o = (l.take i).map word) (c := []) rfl (big_lt (by omega)) rfl ?_ ?_)
      · rintro i hi o rec rfl hrec
        have hok := List.all_eq_true.1 c _ (List.getElem_mem hi)
        obtain ⟨o1, o2⟩ := okSw_p hok
        have d1 := decB_size o1
        have d2 := decB_size o2
        have c45 : (bytesOf [45]).size = 1 := rfl
        have w1 : IntKind.i64.wrap (l[i]).1 = (l[i]).1 := w64 (by have := o1.1; omega) (by have := o1.2; omega)
        have w2 : IntKind.i64.wrap (l[i]).2 = (l[i]).2 := w64 (by have := o2.1; omega) (by have := o2.2; omega)
        unfold Fz0.B1
        simp only [decT (show (i : Int) < (l.length : Int) by omega), inB_nat hi, cond_true, Int.toNat_natCast, getD_lt hi, w1, w2, cl_eq o1, cl_eq o2, Option.bind_some, w64n (show i < 9223372036854775807 by omega)]
        rw [limT (show (decB (l[i]).1).size + (bytesOf [45]).size ≤ 4294967296 by omega), limT (show (decB (l[i]).1 ++ bytesOf [45]).size + (decB (l[i]).2).size ≤ 4294967296 by rw [bsize]; omega), okS (by simp; omega)]
        refine hrec _ ?_
        rw [List.take_succ_eq_append_getElem hi, List.map_append]
        rfl
      · rintro o rec rfl
        unfold Fz0.B1
        rw [decF (by simp), List.take_of_length_le (Nat.le_refl _)]
        simp only [cond_false]
        have hj : Lib.join ((l.map word).map (·.data.toList)) (bytesOf [32]).data.toList = (txtF 0 (bytesOf []) l).data.toList := by
          rw [join_all, List.map_map]
          rfl
        have hsz : (txtF 0 (bytesOf []) l).size ≤ 400 := by
          have key : ∀ (q : List DB) (i : Nat) (x : ByteArray), q.all okSw = true → (txtF i x q).size ≤ x.size + 6 * q.length := by
            intro q
            induction q with
            | nil => intro i x _; exact Nat.le_refl _
            | cons s q ih =>
              intro i x hq
              rw [List.all_cons, Bool.and_eq_true] at hq
              have := ih (i + 1) ((if i = 0 then x else x ++ bytesOf [32]) ++ word s) hq.2
              have hw := word_size hq.1
              have c32 : (bytesOf [32]).size = 1 := rfl
              rw [txtF, List.length_cons]
              refine Nat.le_trans this ?_
              rw [bsize]
              split
              · omega
              · rw [bsize]; omega
          have := key l 0 (bytesOf []) c
          have e : (bytesOf []).size = 0 := rfl
          omega
        have hP : PJoin (l.map word, bytesOf [32]) := by
          refine ⟨by simp only [List.length_map]; omega, ?_⟩
          simp only
          rw [hj, Array.length_toList]
          exact Nat.le_trans hsz (by decide)
        rw [cl_eq hP, Option.bind_some]
        exact congrArg k ((congrArg (fun z => (⟨List.toArray z⟩ : ByteArray)) hj).trans rfl)
  · rw [if_neg d, decF d, Bool.and_false]
    rfl
theorem s_law_SwapsText : laws_FnExactSwapsText.S (cl gW fun _ => true) := laws_FnExactSwapsText.of_cl s_szSwapS s_toSwapS s_spec_SwapsText s_impl_SwapsText s_eqSwapS fun l h k => by
  have hg : gW l := h
  unfold laws_FnExactSwapsText.pf
  rw [cl_eq (show PszB (l, 1048576) from ⟨hg.1, by simp, by simp⟩), Option.bind_some]
  by_cases c : vszB (l, 1048576) < 0
  · rw [decT c]; rfl
  · have hl := szB_ok c (by omega)
    have hp : PL l := by show l.length ≤ 1073741824; omega
    rw [decF c, cond_false]
    simp only [cl_eq hp, Option.bind_some, cl_eq (show wW l from ⟨hp, hg.2⟩), beq_self_eq_true, Bool.not_true, cond_false, cl_eq (show PL1 (l, l) from hp), decide_true]
end Go.Proofs.YtjajlmaldeoobaaDoor.G
