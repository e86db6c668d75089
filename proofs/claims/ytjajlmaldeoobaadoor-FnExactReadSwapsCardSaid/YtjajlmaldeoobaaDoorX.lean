/- Plain proofs: what the functions answer, in plain lists and numbers. -/
import Derived.Test.YtjajlmaldeoobaaDoorRd0
import Derived.Test.YtjajlmaldeoobaaDoorRd1
import Derived.Test.YtjajlmaldeoobaaDoorShelf
namespace Go.Proofs.YtjajlmaldeoobaaDoor.G
open Go
set_option linter.unusedVariables false
set_option linter.unusedSimpArgs false
set_option maxRecDepth 10000
abbrev DB := Int × Int
abbrev DS := DB × Int
/-- Lists of one length are alike where no pair of elements differs. -/
theorem any_eq {β : Type} [DecidableEq β] : ∀ (a b : List β), a.length = b.length → (a.zip b).any (fun p => !decide (p.1 = p.2)) = !decide (a = b)
  | [], [], _ => by simp
  | [], _ :: _, h => by simp at h
  | _ :: _, [], h => by simp at h
  | x :: a, y :: b, h => by
    rw [List.zip_cons_cons, List.any_cons, any_eq a b (by simpa using h)]
    by_cases c : x = y <;> by_cases c2 : a = b <;> simp [c, c2]
theorem zip_at {β γ : Type} {a : List β} {b : List γ} {k : Nat} (h : k < (a.zip b).length) : (a.zip b)[k] = (a[k]'(by simp at h; omega), b[k]'(by simp at h; omega)) := by simp
theorem setD_same {β : Type} {l : List β} {k : Nat} {x d : β} (h : k < l.length) : (l.set k x).getD k d = x := by
  rw [List.getD_eq_getElem?_getD, List.getElem?_set_self h]; rfl
theorem take_set {β : Type} {l : List β} {k : Nat} {x : β} (h : k < l.length) : (l.set k x).take (k + 1) = l.take k ++ [x] := by
  rw [List.take_succ_eq_append_getElem (by simpa using h), List.take_set_of_le (Nat.le_refl k)]
  simp
theorem s_l00In : spec_l00In.S (tot fun x => decide (x.2.1 ≤ x.1) && decide (x.1 ≤ x.2.2)) := spec_l00In.of_tot fun x k => by
  unfold spec_l00In.pf
  by_cases c : x.2.1 ≤ x.1
  · rw [decT (show x.1 ≥ x.2.1 from c)]; rfl
  · rw [decF (show ¬ x.1 ≥ x.2.1 from c)]; rfl
theorem bneS (a : Int) : (a != a) = false := by simp
theorem okS {n : Nat} (h : n ≤ 4294967296) : okL n = true := okL_true h
def cnt (l : List DS) (d : Int) : Int := match l with
  | [] => 0
  | s :: l => (if s.2 < d then 1 else 0) + cnt l d
/-- Few lanes, each of them short. -/
def Few (o : List (List DS)) : Prop := o.length ≤ 8 ∧ ∀ x, x ∈ o → x.length ≤ 6
theorem Few.set {o : List (List DS)} (h : Few o) {n : Nat} {x : List DS} (hx : x.length ≤ 6) : Few (o.set n x) := ⟨by rw [List.length_set]; exact h.1, fun y hy => by
  rcases List.mem_or_eq_of_mem_set hy with q | rfl
  · exact h.2 y q
  · exact hx⟩
/-- All that lies in a rack. -/
def AllIn (Q : DS → Prop) (o : List (List DS)) : Prop := ∀ l, l ∈ o → ∀ s, s ∈ l → Q s
theorem AllIn.set {Q : DS → Prop} {o : List (List DS)} (h : AllIn Q o) {n : Nat} {x : List DS} (hx : ∀ s, s ∈ x → Q s) : AllIn Q (o.set n x) := fun l hl s hs => by
  rcases List.mem_or_eq_of_mem_set hl with q | rfl
  · exact h l q s hs
  · exact hx s hs
theorem s_l01Place : Fz12.S (tot fun x => decide (0 ≤ x) && decide (x ≤ 11)) := Fz12.of_tot s_l00In fun x k => by
  unfold Fz12.pf
  rw [tot_eq]
  rfl
theorem s_eqSwap : Fz5.S (tot fun x => decide (x.1 = x.2)) := Fz5.of_tot fun x k => by
  obtain ⟨⟨a1, a2⟩, b1, b2⟩ := x
  unfold Fz5.pf
  by_cases h1 : a1 = b1
  · by_cases h2 : a2 = b2
    · simp [h1, h2]
    · simp [h1, h2, bneT h2]
  · simp [h1, bneT h1]
theorem s_eqSwapS : Fz6.S (cl PL1 fun x => decide (x.1 = x.2)) := Fz6.of_cl s_eqSwap fun x h k => by
  obtain ⟨a, b⟩ := x
  have h : a.length ≤ 1073741824 := h
  show Fz6.pf _ BIG a b k = k (decide (a = b))
  unfold Fz6.pf
  by_cases c : a.length = b.length
  · rw [show (((a.length : Nat) : Int) != ((b.length : Nat) : Int)) = false by simp [c], cond_false]
    have hz : (a.zip b).length = a.length := by simp [c]
    rw [iter_first (a.zip b) (fun i => (i : Int)) (fun p => !decide (p.1 = p.2)) (fun _ _ => k false) (k true) (x := 0) rfl (big_lt (by omega)) ?_ ?_, firstOr_const, any_eq a b c]
    · by_cases e : a = b <;> simp [e]
    · intro i hi rec
      have h1 : i < a.length := by omega
      have h2 : i < b.length := by omega
      unfold Fz6.B1
      rw [zip_at hi]
      simp only [decT (show (i : Int) < (a.length : Int) by omega), inB_nat h1, inB_nat h2, cond_true, Int.toNat_natCast, getD_lt h1, getD_lt h2, tot_eq, Option.bind_some, w64n (show i < 9223372036854775807 by omega)]
    · intro rec
      unfold Fz6.B1
      rw [decF (by omega)]
      rfl
  · rw [show (((a.length : Nat) : Int) != ((b.length : Nat) : Int)) = true by simpa using fun q => c (by omega), cond_true]
    rw [decF (fun e => c (by rw [e]))]
def markS : Int → List DB → Int × List DB
  | k, [] => (k, [])
  | k, _ :: l => ((markS (IntKind.i64.wrap (IntKind.i64.wrap (k + 1) + 1)) l).1, (IntKind.i8.wrap k, IntKind.i8.wrap (IntKind.i64.wrap (k + 1))) :: (markS (IntKind.i64.wrap (IntKind.i64.wrap (k + 1) + 1)) l).2)
def heldS : Int → List DB → Int
  | k, [] => k
  | k, x :: l => if x = (IntKind.i8.wrap k, IntKind.i8.wrap (IntKind.i64.wrap (k + 1))) then heldS (IntKind.i64.wrap (IntKind.i64.wrap (k + 1) + 1)) l else -1
theorem held_markS : ∀ (l : List DB) (k : Int), heldS k (markS k l).2 = (markS k l).1
  | [], _ => rfl
  | x :: l, k => by
    unfold markS heldS
    rw [if_pos rfl]
    exact held_markS l _
theorem markS_len : ∀ (l : List DB) (k : Int), (markS k l).2.length = l.length
  | [], _ => rfl
  | x :: l, k => by unfold markS; simp [markS_len l]
theorem markS_fst : ∀ (l : List DB) (k : Int), 0 ≤ k → k + 2 * l.length ≤ 9223372036854775807 → (markS k l).1 = k + 2 * l.length
  | [], k, _, _ => by simp [markS]
  | x :: l, k, h0, h => by
    simp only [List.length_cons] at h ⊢
    unfold markS
    rw [w64 (n := k + 1) (by omega) (by omega), w64 (n := k + 1 + 1) (by omega) (by omega)]
    simp only
    rw [markS_fst l _ (by omega) (by omega)]
    omega
theorem s_markSwapS : Fz8.S (cl PL1 fun x => markS x.2 x.1) := Fz8.of_cl fun x h k => by
  obtain ⟨l, n⟩ := x
  have h : l.length ≤ 1073741824 := h
  show Fz8.pf BIG l n k = k (markS n l)
  unfold Fz8.pf
  refine (iter_list l (fun i (c : Int × List DB) => (c.1, (i : Int), c.2)) (fun r c => k ((markS c.1 r).1, c.2.take (l.length - r.length) ++ (markS c.1 r).2)) (fun i c => c.2.length = l.length) (c := (n, l)) rfl (big_lt (by omega)) rfl ?_ ?_).trans (by simp)
  · rintro i hi ⟨m, c⟩ rec h1 hrec
    simp only at h1
    have hc : i < c.length := by omega
    unfold Fz8.B1
    have e1 : l.length - (l.drop (i + 1)).length = i + 1 := by rw [List.length_drop]; omega
    have e2 : l.length - (l[i] :: l.drop (i + 1)).length = i := by rw [List.length_cons, List.length_drop]; omega
    simp only [decT (show (i : Int) < (c.length : Int) by omega), inB_nat hc, cond_true, Int.toNat_natCast, List.length_set, List.set_set, setD_same hc, w64n (show i < 9223372036854775807 by omega)]
    refine (hrec (IntKind.i64.wrap (IntKind.i64.wrap (m + 1) + 1), c.set i (IntKind.i8.wrap m, IntKind.i8.wrap (IntKind.i64.wrap (m + 1)))) (by simpa using h1)).trans ?_
    simp only [e1, e2, take_set hc, markS, List.append_assoc, List.cons_append, List.nil_append]
  · rintro ⟨m, c⟩ rec h1
    simp only at h1
    unfold Fz8.B1
    rw [decF (by simp only; omega)]
    simp only [cond_false, markS, List.length_nil, Nat.sub_zero, List.append_nil]
    rw [List.take_of_length_le (by omega)]
theorem s_heldSwapS : Fz7.S (cl PL1 fun x => heldS x.2 x.1) := Fz7.of_cl fun x h k => by
  obtain ⟨l, n⟩ := x
  have h : l.length ≤ 1073741824 := h
  show Fz7.pf BIG l n k = k (heldS n l)
  unfold Fz7.pf
  refine iter_list l (fun i (c : Int) => (c, (i : Int))) (fun r c => k (heldS c r)) (fun i c => True) (c := n) rfl (big_lt (by omega)) trivial ?_ ?_
  · rintro i hi c rec _ hrec
    unfold Fz7.B1
    simp only [decT (show (i : Int) < (l.length : Int) by omega), inB_nat hi, cond_true, Int.toNat_natCast, getD_lt hi, w64n (show i < 9223372036854775807 by omega), heldS]
    generalize l[i] = x
    obtain ⟨x1, x2⟩ := x
    simp only [Prod.mk.injEq]
    by_cases c1 : x1 = IntKind.i8.wrap c
    · rw [bneF c1, cond_false]
      by_cases c2 : x2 = IntKind.i8.wrap (IntKind.i64.wrap (c + 1))
      · rw [bneF c2, cond_false, if_pos ⟨c1, c2⟩]
        exact hrec _ trivial
      · rw [bneT c2, if_neg (fun q => c2 q.2)]; rfl
    · rw [bneT c1, if_neg (fun q => c1 q.1)]; rfl
  · rintro c rec _
    unfold Fz7.B1
    rw [decF (by simp only; omega)]
    rfl
def POneB (x : ByteArray × ByteArray) : Prop := ∃ c, x.2 = ⟨#[c]⟩
def idxV (x : ByteArray × ByteArray) : Int := Lib.indexByte x.1.data.toList (x.2.data.getD 0 0)
def cntV (x : ByteArray × ByteArray) : Int := (Lib.countByte x.1.data.toList (x.2.data.getD 0 0) : Nat)
theorem s_stridx0 : Fz3.S (cl POneB idxV) where
  fn := ⟨Tryd.f48, by kernel_rfl, by decide, by decide⟩
  does := fun avs r hr vs w gh MBb hR => by
    obtain ⟨x, y, h1, h2, rfl⟩ := mkSig_run hr
    obtain rfl := Fz3.dec_eq h1
    obtain ⟨⟨c, hc⟩, rfl⟩ := cl_some h2
    obtain ⟨x1, x2⟩ := x
    simp only at hc
    subst hc
    have hR : R 2 w ⟨MBb, _⟩ ⟨[.val .str x1, .val .str ⟨#[c]⟩], []⟩ gh ⟨vs.toArray, []⟩ w := hR
    have hsz : vs.length = 2 := by simpa using hR.tm
    match vs, hsz with
    | [v0, v1], _ =>
      have a0 : v0 = .string x1 := (hR.slots 0 (by omega)).2.2
      have a1 : v1 = .string ⟨#[c]⟩ := (hR.slots 1 (by omega)).2.2
      subst a0 a1
      refine (Go.Proofs.Any.stringslite_Index_one Tryd.lays219 x1 c w).mono fun e w' ⟨he, hw⟩ => ?_
      subst he hw
      exact ⟨_, gh, [.val (.int .i64) (idxV (x1, ⟨#[c]⟩))], [.int .i64 (idxV (x1, ⟨#[c]⟩))], hR.ret (Go.RowKit.Below.refl _ _) (fun _ => Nat.le_refl _) _ _ (All2.cons_iff.2 ⟨⟨rfl, trivial, rfl⟩, All2.nil _⟩), rfl, rfl, rfl⟩
theorem s_stridx : Fz16.S (cl POneB idxV) := Fz16.of_cl s_stridx0 fun x h k => by
  unfold Fz16.pf
  rw [cl_eq (show POneB (x.1, x.2) from h), Option.bind_some]
theorem s_strcnt : Fz14.S (cl POneB cntV) where
  fn := ⟨Tryd.f46, by kernel_rfl, by decide, by decide⟩
  does := fun avs r hr vs w gh MBb hR => by
    obtain ⟨x, y, h1, h2, rfl⟩ := mkSig_run hr
    obtain rfl := Fz14.dec_eq h1
    obtain ⟨⟨c, hc⟩, rfl⟩ := cl_some h2
    obtain ⟨x1, x2⟩ := x
    simp only at hc
    subst hc
    have hR : R 2 w ⟨MBb, _⟩ ⟨[.val .str x1, .val .str ⟨#[c]⟩], []⟩ gh ⟨vs.toArray, []⟩ w := hR
    have hsz : vs.length = 2 := by simpa using hR.tm
    match vs, hsz with
    | [v0, v1], _ =>
      have a0 : v0 = .string x1 := (hR.slots 0 (by omega)).2.2
      have a1 : v1 = .string ⟨#[c]⟩ := (hR.slots 1 (by omega)).2.2
      subst a0 a1
      refine (Go.Proofs.Any.strings_Count_one Tryd.lays138 x1 c w).mono fun e w' ⟨he, hw⟩ => ?_
      subst he hw
      exact ⟨_, gh, [.val (.int .i64) (cntV (x1, ⟨#[c]⟩))], [.int .i64 (cntV (x1, ⟨#[c]⟩))], hR.ret (Go.RowKit.Below.refl _ _) (fun _ => Nat.le_refl _) _ _ (All2.cons_iff.2 ⟨⟨rfl, trivial, rfl⟩, All2.nil _⟩), rfl, rfl, rfl⟩
def PRd (x : ByteArray × Int × Int) : Prop := x.1.size ≤ 281474976710656
def vRd (x : ByteArray × Int × Int) : Int × Bool := match Lib.parseIntB 64 x.1.data.toList with
  | .ok v => (v, decide ((⟨(Lib.itoa v).toArray⟩ : ByteArray).toList = x.1.toList) && (decide (x.2.1 ≤ v) && decide (v ≤ x.2.2)))
  | .range => (Lib.intSat 64 x.1.data.toList, false)
  | _ => (0, false)
theorem gv_at {w : World} {B : List Nat} (h : GO w B) : (∃ t fr, w.heap[1]? = some (.cells ((List.range 20).map fun i => Value.int .u64 ((10 ^ i : Nat) : Int)).toArray t fr)) ∧ (∃ t p a fr, w.heap[2]? = some (.cells #[.iface t p] a fr)) ∧ (∃ t p a fr, w.heap[3]? = some (.cells #[.iface t p] a fr)) := by
  have h := h.1
  refine ⟨?_, ?_, ?_⟩
  · obtain ⟨cs, t, fr, h1, h2⟩ := h _ (List.mem_cons_self ..)
    have h2 : cs = _ := h2
    rw [h2] at h1
    exact ⟨t, fr, h1⟩
  · obtain ⟨cs, t, fr, h1, q, p, h2⟩ := h _ (List.mem_cons_of_mem _ (List.mem_cons_self ..))
    rw [h2] at h1
    exact ⟨q, p, t, fr, h1⟩
  · obtain ⟨cs, t, fr, h1, q, p, h2⟩ := h _ (List.mem_cons_of_mem _ (List.mem_cons_of_mem _ (List.mem_cons_self ..)))
    rw [h2] at h1
    exact ⟨q, p, t, fr, h1⟩
theorem s_readDec : Fz1.S (cl PRd vRd) where
  fn := ⟨Tryd.f26, by kernel_rfl, by decide, by decide⟩
  does := fun avs r hr vs w gh MBb hR => by
    obtain ⟨x, y, h1, h2, rfl⟩ := mkSig_run hr
    obtain rfl := Fz1.dec_eq h1
    obtain ⟨hp, rfl⟩ := cl_some h2
    obtain ⟨s, lo, hi⟩ := x
    have hR : R 3 w ⟨MBb, _⟩ ⟨[.val .str s, .val (.int .i64) lo, .val (.int .i64) hi], []⟩ gh ⟨vs.toArray, []⟩ w := hR
    have hsz : vs.length = 3 := by simpa using hR.tm
    match vs, hsz with
    | [v0, v1, v2], _ =>
      have a0 : v0 = .string s := (hR.slots 0 (by omega)).2.2
      have a1 : v1 = .int .i64 lo := (hR.slots 1 (by omega)).2.2
      have a2 : v2 = .int .i64 hi := (hR.slots 2 (by omega)).2.2
      subst a0 a1 a2
      obtain ⟨g1, g2, g3⟩ := gv_at hR.go
      refine (Go.Proofs.Tryd.calls_read s lo hi w hp g1 g2 g3).mono fun e w' ⟨hw, he⟩ => ?_
      have he2 : e = .returned (.tuple #[.int .i64 (vRd (s, lo, hi)).1, .bool (vRd (s, lo, hi)).2]) := by
        unfold vRd
        simp only
        cases hq : Lib.parseIntB 64 s.data.toList with
        | ok v => rw [hq] at he; exact he
        | range => rw [hq] at he; exact he
        | _ => rw [hq] at he; exact he
      subst he2
      exact ⟨_, gh, [.val (.int .i64) (vRd (s, lo, hi)).1, .val .bool (vRd (s, lo, hi)).2], [.int .i64 (vRd (s, lo, hi)).1, .bool (vRd (s, lo, hi)).2], hR.ret hw (fun h => h.elim) _ _ (All2.cons_iff.2 ⟨⟨rfl, trivial, rfl⟩, All2.cons_iff.2 ⟨⟨rfl, trivial, rfl⟩, All2.nil _⟩⟩), rfl, rfl, rfl⟩
abbrev lst (s : ByteArray) : List UInt8 := s.data.toList
def toB (l : List UInt8) : ByteArray := ⟨l.toArray⟩
theorem toB_lst (s : ByteArray) : toB (lst s) = s := by
  obtain ⟨d⟩ := s
  simp [toB]
theorem lst_toB (l : List UInt8) : lst (toB l) = l := rfl
theorem lst_inj {s t : ByteArray} (h : lst s = lst t) : s = t := by rw [← toB_lst s, h, toB_lst]
theorem size_lst (s : ByteArray) : s.size = (lst s).length := by
  exact Array.length_toList.symm
theorem ext_lst (s : ByteArray) (a b : Nat) : ByteArray.extract s a b = toB (((lst s).drop a).take (b - a)) := by
  refine lst_inj ?_
  rw [lst_toB]
  show (ByteArray.extract s a b).data.toList = _
  rw [ByteArray.data_extract, Array.toList_extract]
theorem list_lst (s : ByteArray) : ByteArray.toList s = lst s := Go.ByteArray.toList_eq s
theorem at_lst (s : ByteArray) {i : Nat} (h : i < (lst s).length) : strAt s i = (((lst s)[i]).toNat : Int) := by
  have h2 : i < s.size := by rw [size_lst]; exact h
  unfold strAt
  rw [dif_pos h2]
  congr 1
theorem empty_lst (s : ByteArray) : (ByteArray.toList s == ByteArray.toList (bytesOf [])) = decide (lst s = []) := by
  rw [list_lst, list_lst]
  have : lst (bytesOf []) = [] := rfl
  rw [this]
  cases lst s <;> rfl
def splitL (c : UInt8) : List UInt8 → List (List UInt8)
  | [] => [[]]
  | x :: l => if x = c then [] :: splitL c l else match splitL c l with
    | [] => [[x]]
    | p :: r => (x :: p) :: r
theorem splitL_ne (c : UInt8) (l : List UInt8) : splitL c l ≠ [] := by
  cases l with
  | nil => simp [splitL]
  | cons x l =>
    unfold splitL
    split
    · simp
    · split <;> simp
/-- A beginning before the first part. -/
def onto (q : List UInt8) : List (List UInt8) → List (List UInt8)
  | [] => [q]
  | p :: r => (q ++ p) :: r
theorem onto_nil {L : List (List UInt8)} (h : L ≠ []) : onto [] L = L := by
  cases L with
  | nil => exact absurd rfl h
  | cons p r => rfl
theorem onto_step (c x : UInt8) (q : List UInt8) (l : List UInt8) (h : x ≠ c) : onto q (splitL c (x :: l)) = onto (q ++ [x]) (splitL c l) := by
  conv => lhs; rw [splitL]
  rw [if_neg h]
  have := splitL_ne c l
  cases hs : splitL c l with
  | nil => exact absurd hs this
  | cons p r => simp [onto]
theorem onto_cut (c : UInt8) (q : List UInt8) (l : List UInt8) : onto q (splitL c (c :: l)) = q :: splitL c l := by
  conv => lhs; rw [splitL]
  rw [if_pos rfl]
  simp [onto]
theorem splitL_len (c : UInt8) : ∀ l : List UInt8, (splitL c l).length ≤ l.length + 1
  | [] => by simp [splitL]
  | x :: l => by
    have := splitL_len c l
    unfold splitL
    split
    · simp only [List.length_cons]; omega
    · split
      · simp
      · rename_i hs
        rw [hs] at this
        simp only [List.length_cons] at *
        omega
def PSpl (x : ByteArray × Int) : Prop := x.1.size ≤ 1073741824 ∧ 0 ≤ x.2 ∧ x.2 ≤ 255
def byteI (n : Int) : UInt8 := UInt8.ofNat n.toNat
theorem byteI_eq {n : Int} (h0 : 0 ≤ n) (h1 : n ≤ 255) (b : UInt8) : ((b.toNat : Int) == n) = decide (b = byteI n) := by
  have hb : (byteI n).toNat = n.toNat := by
    unfold byteI
    rw [UInt8.toNat_ofNat']
    omega
  by_cases c : b = byteI n
  · rw [decT c, c, hb]
    exact beqT (by omega)
  · rw [decF c]
    refine beqF fun e => c ?_
    refine UInt8.toNat_inj.1 ?_
    rw [hb]
    omega
theorem s_l01Split : Fz13.S (cl PSpl fun x => (splitL (byteI x.2) (lst x.1)).map toB) := Fz13.of_cl fun x h k => by
  obtain ⟨s, n⟩ := x
  obtain ⟨h1, h2, h3⟩ := h
  simp only at h1 h2 h3
  rw [size_lst] at h1
  show Fz13.pf BIG s n k = k ((splitL (byteI n) (lst s)).map toB)
  unfold Fz13.pf
  refine (iter_list (lst s) (fun i (c : Nat × List ByteArray) => ((c.1 : Int), (i : Int), c.2)) (fun r c => k (c.2 ++ (onto (((lst s).take ((lst s).length - r.length)).drop c.1) (splitL (byteI n) r)).map toB)) (fun i c => c.1 ≤ i ∧ c.2.length ≤ i) (c := (0, [])) rfl (big_lt (by omega)) ⟨Nat.le_refl _, Nat.le_refl _⟩ ?_ ?_).trans ?_
  · rintro i hi ⟨b, o⟩ rec ⟨q1, q2⟩ hrec
    simp only at q1 q2
    unfold Fz13.B1
    simp only
    rw [size_lst]
    simp only [decT (show (i : Int) < ((lst s).length : Int) by omega), inB_nat hi, cond_true, Int.toNat_natCast, at_lst s hi, byteI_eq h2 h3, w64n (show i < 9223372036854775807 by omega)]
    have el : (lst s).length - ((lst s)[i] :: (lst s).drop (i + 1)).length = i := by rw [List.length_cons, List.length_drop]; omega
    have el2 : (lst s).length - ((lst s).drop (i + 1)).length = i + 1 := by rw [List.length_drop]; omega
    rw [el]
    by_cases c : (lst s)[i] = byteI n
    · rw [decT c, cond_true, inW_true (by omega) (by omega) (by omega), cond_true, okS (by rw [List.length_singleton]; omega), cond_true]
      have := hrec (i + 1, o ++ [ByteArray.extract s b i]) ⟨Nat.le_refl _, by simp only [List.length_append, List.length_singleton]; omega⟩
      refine this.trans ?_
      simp only
      rw [el2, c, onto_cut, List.map_cons, List.append_assoc, List.drop_of_length_le (by rw [List.length_take]; omega), onto_nil (splitL_ne _ _), ext_lst, List.drop_take]
      rfl
    · rw [decF c, cond_false]
      have := hrec (b, o) ⟨by simp only; omega, by simp only; omega⟩
      refine this.trans ?_
      simp only
      rw [el2, onto_step _ _ _ _ c, List.take_succ_eq_append_getElem hi, List.drop_append_of_le_length (by rw [List.length_take]; omega)]
  · rintro ⟨b, o⟩ rec ⟨q1, q2⟩
    simp only at q1 q2
    unfold Fz13.B1
    simp only
    rw [size_lst, decF (by omega), cond_false, inW_true (by omega) (by omega) (by omega), cond_true, okS (by rw [List.length_singleton]; omega), cond_true]
    have e : ByteArray.extract s b (((lst s).length : Nat) : Int).toNat = toB ((lst s).drop b) := by rw [ext_lst, Int.toNat_natCast, List.take_of_length_le (by rw [List.length_drop]; omega)]
    simp only [Int.toNat_natCast] at e ⊢
    rw [e, List.length_nil, Nat.sub_zero, List.take_length]
    show _ = k (o ++ [toB (List.drop b (lst s) ++ [])])
    rw [List.append_nil]
  · simp only
    rw [Nat.sub_self, List.take_zero, List.drop_nil, onto_nil (splitL_ne _ _)]
    rfl

theorem idx_split (c : UInt8) : ∀ l : List UInt8, (Lib.indexByte l c = -1 ∧ l.count c = 0 ∧ splitL c l = [l] ∧ c ∉ l) ∨
    (∃ m : Nat, m < l.length ∧ Lib.indexByte l c = (m : Int) ∧ splitL c l = l.take m :: splitL c (l.drop (m + 1)) ∧ l.count c = (l.drop (m + 1)).count c + 1)
  | [] => .inl ⟨rfl, rfl, rfl, by simp⟩
  | x :: l => by
    by_cases e : x = c
    · subst e
      refine .inr ⟨0, by simp, ?_, ?_, ?_⟩
      · simp [Lib.indexByte]
      · rw [splitL, if_pos rfl]; rfl
      · simp
    · have hne : (x == c) = false := by simpa using e
      rcases idx_split c l with ⟨h1, h2, h3, h4⟩ | ⟨m, h1, h2, h3, h4⟩
      · refine .inl ⟨?_, ?_, ?_, ?_⟩
        · rw [Lib.indexByte, hne, h1]; rfl
        · rw [List.count_cons, h2, hne]; rfl
        · rw [splitL, if_neg e, h3]
        · intro q
          rcases List.mem_cons.1 q with q | q
          · exact e q.symm
          · exact h4 q
      · refine .inr ⟨m + 1, by simp only [List.length_cons]; omega, ?_, ?_, ?_⟩
        · have h5 : ((m : Int) == -1) = false := beqF (by omega)
          rw [Lib.indexByte, hne, h2]
          simp only [Bool.false_eq_true, if_false]
          rw [h5]
          simp
        · rw [splitL, if_neg e, h3]
          rfl
        · rw [List.count_cons, h4, hne]
          simp
theorem gen_loop {α : Type} (c : UInt8) (cnt : Nat) (hc : cnt ≤ 1073741824) (k : List ByteArray → Option α) (K0 : ByteArray × Int × List ByteArray → Int → Option α) (K1 : ByteArray × Int × List ByteArray → Option α)
    (hK1 : ∀ s' a, a.length = cnt + 1 → K1 (s', (cnt : Int), a) = k (a.take cnt ++ [s'])) :
    ∀ (j i fuel : Nat) (s' : ByteArray) (a : List ByteArray), i + j = cnt → j < fuel → (lst s').length ≤ 1073741824 → (lst s').count c = j → a.length = cnt + 1 →
      iter (Fz18.B1 (cl POneB idxV) ⟨#[c]⟩ 0 (cnt : Int) K0 K1) fuel (s', (i : Int), a) = k (a.take i ++ (splitL c (lst s')).map toB)
  | _, _, 0, _, _, _, hf, _, _, _ => absurd hf (Nat.not_lt_zero _)
  | 0, i, f + 1, s', a, hi, _, hs, hj, ha => by
    show Fz18.B1 (cl POneB idxV) ⟨#[c]⟩ 0 (cnt : Int) K0 K1 _ _ = _
    unfold Fz18.B1
    obtain rfl : i = cnt := by omega
    simp only
    rw [decF (by omega), cond_false, hK1 s' a ha]
    rcases idx_split c (lst s') with ⟨h1, h2, h3, _⟩ | ⟨m, h1, h2, h3, h4⟩
    · rw [h3, List.map_singleton, toB_lst]
    · omega
  | j + 1, i, f + 1, s', a, hi, hf, hs, hj, ha => by
    show Fz18.B1 (cl POneB idxV) ⟨#[c]⟩ 0 (cnt : Int) K0 K1 (iter (Fz18.B1 (cl POneB idxV) ⟨#[c]⟩ 0 (cnt : Int) K0 K1) f) _ = _
    rcases idx_split c (lst s') with ⟨h1, h2, h3, _⟩ | ⟨m, h1, h2, h3, h4⟩
    · omega
    · have ih := gen_loop c cnt hc k K0 K1 hK1 j (i + 1) f (toB ((lst s').drop (m + 1))) (a.set i (toB ((lst s').take m))) (by omega) (by omega) (by rw [lst_toB, List.length_drop]; omega) (by rw [lst_toB]; omega) (by rw [List.length_set]; exact ha)
      generalize iter (Fz18.B1 (cl POneB idxV) ⟨#[c]⟩ 0 (cnt : Int) K0 K1) f = rec at *
      unfold Fz18.B1
      simp only
      have hidx : idxV (s', ⟨#[c]⟩) = (m : Int) := h2
      have hI : cl POneB idxV (s', ⟨#[c]⟩) = some (m : Int) := by rw [cl_eq (show POneB (s', ⟨#[c]⟩) from ⟨c, rfl⟩), hidx]
      have hsz : (⟨#[c]⟩ : ByteArray).size = 1 := rfl
      rw [decT (show (i : Int) < (cnt : Int) by omega), cond_true, hI, Option.bind_some, decF (show ¬ ((m : Int) < 0) by omega), cond_false, hsz, Int.add_zero, w64 (show -9223372036854775808 ≤ (m : Int) by omega) (by omega), size_lst, inW_true (by omega) (by omega) (by omega), cond_true, inB_nat (by omega), cond_true]
      rw [show ((1 : Nat) : Int) = 1 from rfl, w64n (show m < 9223372036854775807 by omega), inW_true (by omega) (by omega) (by omega), cond_true, w64n (show i < 9223372036854775807 by omega)]
      simp only [Int.toNat_natCast]
      rw [ext_lst, ext_lst, List.take_of_length_le (show ((lst s').drop (m + 1)).length ≤ (lst s').length - (m + 1) by rw [List.length_drop]; omega), List.drop_zero, Nat.sub_zero, ih, lst_toB, h3, List.map_cons]
      congr 1
      have hi' : i < (a.set i (toB ((lst s').take m))).length := by rw [List.length_set]; omega
      rw [List.take_succ_eq_append_getElem hi', List.getElem_set_self, List.take_set_of_le (Nat.le_refl i), List.append_assoc]
      rfl
def PSplit (x : ByteArray × ByteArray) : Prop := x.1.size ≤ 1073741824 ∧ POneB x
def vSplit (x : ByteArray × ByteArray) : List ByteArray := (splitL (x.2.data.getD 0 0) (lst x.1)).map toB
def PGen (x : ByteArray × ByteArray × Int × Int) : Prop := PSplit (x.1, x.2.1) ∧ x.2.2.1 = 0 ∧ x.2.2.2 = -1
theorem s_genSplit : Fz18.S (cl PGen fun x => vSplit (x.1, x.2.1)) := Fz18.of_cl s_strcnt s_stridx fun x h k => by
  obtain ⟨s, t, n0, n1⟩ := x
  obtain ⟨⟨hs, c, ht⟩, h0, h1⟩ := h
  simp only at hs ht h0 h1
  subst ht h0 h1
  rw [size_lst] at hs
  show Fz18.pf _ _ BIG s ⟨#[c]⟩ 0 (-1) k = k ((splitL c (lst s)).map toB)
  have hc := List.count_le_length (a := c) (l := lst s)
  have hcnt : cl POneB cntV (s, ⟨#[c]⟩) = some (((lst s).count c : Nat) : Int) := cl_eq (show POneB (s, ⟨#[c]⟩) from ⟨c, rfl⟩)
  have he : (ByteArray.toList (⟨#[c]⟩ : ByteArray) == ByteArray.toList (bytesOf [])) = false := by
    rw [empty_lst]
    exact decF (by simp)
  have hm : (if IntKind.i64.wrap (((ByteArray.size s : Nat) : Int) + 1) < IntKind.i64.wrap ((((lst s).count c : Nat) : Int) + 1) then IntKind.i64.wrap (((ByteArray.size s : Nat) : Int) + 1) else IntKind.i64.wrap ((((lst s).count c : Nat) : Int) + 1)) = (((lst s).count c + 1 : Nat) : Int) := by
    rw [size_lst, w64n (by omega), w64n (by omega), if_neg (by omega)]
  unfold Fz18.pf
  rw [beqF (show (-1 : Int) ≠ 0 by omega), cond_false, he, cond_false, decT (show (-1 : Int) < 0 by omega), cond_true, hcnt, Option.bind_some, hm, inW_true (by omega) (Int.le_refl _) (by unfold LIM; omega), cond_true, w64 (by omega) (by omega), show (((lst s).count c + 1 : Nat) : Int) - 1 = (((lst s).count c : Nat) : Int) by omega, Int.toNat_natCast]
  refine (gen_loop c ((lst s).count c) (by omega) k _ _ ?_ ((lst s).count c) 0 BIG s (List.replicate ((lst s).count c + 1) ByteArray.empty) (by omega) (big_lt (by omega)) hs rfl (by simp)).trans (by rw [List.take_zero, List.nil_append])
  intro s' a ha
  have hlt : (lst s).count c < a.length := by omega
  simp only
  rw [inB_nat hlt, cond_true, w64n (by omega), List.length_set, inW_true (by omega) (by omega) (by omega), cond_true]
  simp only [Int.toNat_natCast, Int.sub_zero, List.drop_zero]
  congr 1
  have hi' : (lst s).count c < (a.set ((lst s).count c) s').length := by rw [List.length_set]; omega
  rw [List.take_succ_eq_append_getElem hi', List.getElem_set_self, List.take_set_of_le (Nat.le_refl _)]
theorem s_Split : Fz17.S (cl PSplit vSplit) := Fz17.of_cl s_genSplit fun x h k => by
  unfold Fz17.pf
  rw [cl_eq (show PGen (x.1, x.2, 0, -1) from ⟨h, rfl, rfl⟩), Option.bind_some]
def vCut (x : ByteArray × ByteArray) : ByteArray × ByteArray × Bool := if idxV x ≥ 0 then (toB ((lst x.1).take (idxV x).toNat), toB ((lst x.1).drop ((idxV x).toNat + 1)), true) else (x.1, bytesOf [], false)
theorem s_Cut0 : Fz2.S (cl PSplit vCut) := Fz2.of_cl s_stridx0 fun x h k => by
  obtain ⟨s, t⟩ := x
  obtain ⟨hs, c, ht⟩ := h
  simp only at hs ht
  subst ht
  rw [size_lst] at hs
  have hsz : (⟨#[c]⟩ : ByteArray).size = 1 := rfl
  show Fz2.pf _ BIG s ⟨#[c]⟩ k = k (vCut (s, ⟨#[c]⟩))
  unfold Fz2.pf vCut
  rw [cl_eq (show POneB (s, ⟨#[c]⟩) from ⟨c, rfl⟩), Option.bind_some, hsz, size_lst]
  have hd : idxV (s, ⟨#[c]⟩) = Lib.indexByte (lst s) c := rfl
  rcases idx_split c (lst s) with ⟨h1, _⟩ | ⟨m, h1, h2, _⟩
  · rw [hd, h1]
    rfl
  · rw [hd, h2, decT (show (m : Int) ≥ 0 by omega), if_pos (show (m : Int) ≥ 0 by omega), cond_true, inW_true (by omega) (by omega) (by omega), cond_true, show ((1 : Nat) : Int) = 1 from rfl, w64n (show m < 9223372036854775807 by omega), inW_true (by omega) (by omega) (by omega), cond_true]
    simp only [Int.toNat_natCast]
    rw [ext_lst, ext_lst, List.drop_zero, Nat.sub_zero, List.take_of_length_le (show ((lst s).drop (m + 1)).length ≤ (lst s).length - (m + 1) by rw [List.length_drop]; omega)]
theorem s_Cut : Fz15.S (cl PSplit vCut) := Fz15.of_cl s_Cut0 fun x h k => by
  unfold Fz15.pf
  rw [cl_eq (show PSplit (x.1, x.2) from h), Option.bind_some]
def dgL (n : Nat) : List UInt8 := if n < 10 then [UInt8.ofNat (48 + n)] else [49, UInt8.ofNat (38 + n)]
def numB (l : List UInt8) : Option Nat := (List.range 12).find? fun n => decide (dgL n = l)
theorem n12 {n : Nat} (h : n < 12) : n = 0 ∨ n = 1 ∨ n = 2 ∨ n = 3 ∨ n = 4 ∨ n = 5 ∨ n = 6 ∨ n = 7 ∨ n = 8 ∨ n = 9 ∨ n = 10 ∨ n = 11 := by omega
theorem numB_dg {n : Nat} (h : n < 12) : numB (dgL n) = some n := by
  rcases n12 h with rfl | rfl | rfl | rfl | rfl | rfl | rfl | rfl | rfl | rfl | rfl | rfl <;> decide
theorem numB_some {l : List UInt8} {n : Nat} (h : numB l = some n) : n < 12 ∧ l = dgL n := by
  have h1 := List.find?_some h
  have h2 := List.mem_of_find?_eq_some h
  exact ⟨by simpa using h2, (of_decide_eq_true h1).symm⟩
theorem itoa_dg {n : Nat} (h : n < 12) : Lib.itoa (n : Int) = dgL n := by
  unfold Lib.itoa dgL
  rw [if_neg (by omega), Int.toNat_natCast]
  by_cases c : n < 10
  · rw [if_pos c, Lib.decDigits, dif_pos c]
  · rw [if_neg c, Lib.decDigits, dif_neg c, Lib.decDigits, dif_pos (by omega)]
    have : n = 10 ∨ n = 11 := by omega
    rcases this with rfl | rfl <;> rfl
theorem parse_dg {n : Nat} (h : n < 12) : Lib.parseIntB 64 (dgL n) = .ok (n : Int) := by
  rcases n12 h with rfl | rfl | rfl | rfl | rfl | rfl | rfl | rfl | rfl | rfl | rfl | rfl <;> kernel_rfl
theorem rd_some {s : ByteArray} {n : Nat} (h : numB (lst s) = some n) : vRd (s, 0, 11) = ((n : Int), true) := by
  obtain ⟨h1, h2⟩ := numB_some h
  have hp : Lib.parseIntB 64 s.data.toList = .ok (n : Int) := by
    show Lib.parseIntB 64 (lst s) = _
    rw [h2]
    exact parse_dg h1
  unfold vRd
  simp only
  rw [hp]
  simp only
  have e : (⟨(Lib.itoa (n : Int)).toArray⟩ : ByteArray).toList = ByteArray.toList s := by
    rw [list_lst, list_lst, h2, itoa_dg h1]
  rw [decT e, decT (by omega), decT (by omega)]
  rfl
theorem rd_none {s : ByteArray} (h : numB (lst s) = none) : (vRd (s, 0, 11)).2 = false := by
  unfold vRd
  cases hp : Lib.parseIntB 64 s.data.toList with
  | ok v =>
    simp only
    by_cases c1 : 0 ≤ v
    · by_cases c2 : v ≤ 11
      · obtain ⟨n, rfl⟩ := Int.eq_ofNat_of_zero_le c1
        have hn : n < 12 := by omega
        have e : ¬ (⟨(Lib.itoa (n : Int)).toArray⟩ : ByteArray).toList = ByteArray.toList s := by
          rw [list_lst, list_lst, itoa_dg hn]
          intro q
          have q : dgL n = lst s := q
          rw [← q, numB_dg hn] at h
          cases h
        show (decide ((⟨(Lib.itoa (n : Int)).toArray⟩ : ByteArray).toList = ByteArray.toList s) && _) = false
        rw [decF e, Bool.false_and]
      · rw [decF c2, Bool.and_false, Bool.and_false]
    · rw [decF c1, Bool.false_and, Bool.and_false]
  | _ => rfl
def nvGo : Int → List UInt8 → Int × Bool
  | acc, [] => (acc, true)
  | acc, b :: r => if (b.toNat : Int) < 48 then (0, false) else if (b.toNat : Int) > 57 then (0, false) else nvGo (10 * acc + ((b.toNat : Int) - 48)) r
def nv (l : List UInt8) : Int × Bool := match l with
  | [] => (0, false)
  | b :: r => if (r.length : Int) > 8 then (0, false) else if b.toNat = 48 ∧ r ≠ [] then (0, false) else nvGo 0 (b :: r)
theorem nv_dg {n : Nat} (h : n < 12) : nv (dgL n) = ((n : Int), true) := by
  rcases n12 h with rfl | rfl | rfl | rfl | rfl | rfl | rfl | rfl | rfl | rfl | rfl | rfl <;> decide
theorem nvGo_ge : ∀ (l : List UInt8) (acc v : Int), 0 ≤ acc → nvGo acc l = (v, true) → acc ≤ v
  | [], acc, v, h0, h => by
    simp only [nvGo, Prod.mk.injEq] at h
    omega
  | b :: r, acc, v, h0, h => by
    unfold nvGo at h
    split at h
    · cases h
    · split at h
      · cases h
      · have := nvGo_ge r _ v (by omega) h
        omega
theorem u8_of {b : UInt8} {n : Nat} (h : b.toNat = n) : b = UInt8.ofNat n := by
  rw [← h]
  simp
theorem nv_small {l : List UInt8} {v : Int} (h : nv l = (v, true)) (h1 : v ≤ 11) : ∃ n : Nat, n < 12 ∧ v = n ∧ l = dgL n := by
  unfold nv at h
  split at h
  · cases h
  · rename_i b r
    split at h
    · cases h
    · split at h
      · cases h
      · rename_i c1 c2
        unfold nvGo at h
        split at h
        · cases h
        · split at h
          · cases h
          · rename_i d1 d2
            match r, h with
            | [], h =>
              simp only [nvGo, Prod.mk.injEq, and_true] at h
              refine ⟨b.toNat - 48, by omega, by omega, ?_⟩
              unfold dgL
              rw [if_pos (by omega)]
              congr 1
              exact u8_of (by omega)
            | b2 :: r2, h =>
              have hb : b.toNat ≠ 48 := fun q => c2 ⟨q, by simp⟩
              unfold nvGo at h
              split at h
              · cases h
              · split at h
                · cases h
                · rename_i d3 d4
                  match r2, h with
                  | [], h =>
                    simp only [nvGo, Prod.mk.injEq, and_true] at h
                    refine ⟨10 + (b2.toNat - 48), by omega, by omega, ?_⟩
                    unfold dgL
                    rw [if_neg (by omega), ← u8_of (show b2.toNat = 38 + (10 + (b2.toNat - 48)) by omega), u8_of (show b.toNat = 49 by omega)]
                    rfl
                  | b3 :: r3, h =>
                    exfalso
                    unfold nvGo at h
                    split at h
                    · cases h
                    · split at h
                      · cases h
                      · have := nvGo_ge r3 _ v (by omega) h
                        omega
def PRd0 (s : ByteArray) : Prop := s.size ≤ 1073741824
theorem s_l01Number : Fz11.S (cl PRd0 fun s => nv (lst s)) := Fz11.of_cl fun s h k => by
  have hs : (lst s).length ≤ 1073741824 := by rw [← size_lst]; exact h
  have pw : ∀ (i : Nat), (10 : Int) ^ (i + 1) = 10 * 10 ^ i := fun i => by rw [Int.pow_succ, Int.mul_comm]
  unfold Fz11.pf nv
  rw [empty_lst, size_lst]
  cases hl : lst s with
  | nil => rfl
  | cons b r =>
    rw [decF (by simp), cond_false]
    rw [List.length_cons]
    show _ = k (if (r.length : Int) > 8 then (0, false) else if b.toNat = 48 ∧ r ≠ [] then (0, false) else nvGo 0 (b :: r))
    by_cases c1 : (r.length : Int) > 8
    · rw [decT (by omega), if_pos c1]; rfl
    · rw [decF (by omega), if_neg c1, cond_false, inB_true (i := 0) (n := r.length + 1) (by omega) (by omega), cond_true]
      have ha : strAt s 0 = (b.toNat : Int) := by
        rw [at_lst s (i := 0) (by rw [hl]; simp)]
        simp [hl]
      have loop : iter (Fz11.B1 s (fun (x1 : DB) => k (0, false)) (fun (x1 : DB) => k (0, false)) (fun (x1 : DB) => k (x1.1, true))) BIG ((0 : Int), (0 : Int)) = k (nvGo 0 (lst s)) := by
        have h9 : (lst s).length ≤ 9 := by rw [hl, List.length_cons]; omega
        refine iter_list (lst s) (fun i (c : Int) => (c, (i : Int))) (fun q c => k (nvGo c q)) (fun i c => 0 ≤ c ∧ c < 10 ^ i) (c := 0) rfl (big_lt (by omega)) ⟨by omega, by decide⟩ ?_ ?_
        · rintro i hi c rec ⟨q1, q2⟩ hrec
          have h10 : (10 : Int) ^ i ≤ 100000000 := by
            have : i ≤ 8 := by omega
            have hh : i = 0 ∨ i = 1 ∨ i = 2 ∨ i = 3 ∨ i = 4 ∨ i = 5 ∨ i = 6 ∨ i = 7 ∨ i = 8 := by omega
            rcases hh with rfl | rfl | rfl | rfl | rfl | rfl | rfl | rfl | rfl <;> decide
          unfold Fz11.B1
          simp only
          rw [size_lst]
          simp only [decT (show (i : Int) < ((lst s).length : Int) by omega), inB_nat hi, cond_true, Int.toNat_natCast, at_lst s hi, w64n (show i < 9223372036854775807 by omega), nvGo]
          have hb := UInt8.toNat_lt ((lst s)[i])
          by_cases d1 : (((lst s)[i]).toNat : Int) < 48
          · rw [decT d1, if_pos d1]; rfl
          · rw [decF d1, if_neg d1, cond_false]
            by_cases d2 : (((lst s)[i]).toNat : Int) > 57
            · rw [decT d2, if_pos d2]; rfl
            · rw [decF d2, if_neg d2, cond_false]
              have e1 : IntKind.u8.wrap ((((lst s)[i]).toNat : Int) - 48) = (((lst s)[i]).toNat : Int) - 48 := by rw [IntKind.wrap_u8]; omega
              rw [e1, w64 (n := (((lst s)[i]).toNat : Int) - 48) (by omega) (by omega), w64 (n := 10 * c) (by omega) (by omega), w64 (by omega) (by omega)]
              exact hrec _ ⟨by omega, by rw [pw]; omega⟩
        · rintro c rec _
          unfold Fz11.B1
          simp only
          rw [size_lst, decF (by omega), cond_false]
          rfl
      rw [ha]
      by_cases c2 : b.toNat = 48
      · rw [beqT (by omega), cond_true]
        by_cases c3 : r = []
        · subst c3
          rw [decF (by simp), cond_false, loop, if_neg (by simp), hl]
        · have : 0 < r.length := List.length_pos_iff.2 c3
          rw [decT (by omega), cond_true, if_pos ⟨c2, c3⟩]
      · rw [beqF (by omega), cond_false, loop, if_neg (fun q => c2 q.1), hl]

theorem splitL_part (c : UInt8) : ∀ (l p : List UInt8), p ∈ splitL c l → p.length ≤ l.length
  | [], p, h => by
    rw [splitL, List.mem_singleton] at h
    rw [h]
    exact Nat.le_refl _
  | x :: l, p, h => by
    have ih := splitL_part c l
    unfold splitL at h
    split at h
    · rcases List.mem_cons.1 h with rfl | h
      · exact Nat.zero_le _
      · have := ih p h
        simp only [List.length_cons]; omega
    · split at h
      · rw [List.mem_singleton] at h
        rw [h]
        simp
      · rename_i p0 r hs
        rw [hs] at ih
        rcases List.mem_cons.1 h with rfl | h
        · have := ih p0 (List.mem_cons_self ..)
          simp only [List.length_cons]; omega
        · have := ih p (List.mem_cons_of_mem _ h)
          simp only [List.length_cons]; omega
/-- A swap's word. -/
def wordV (l : List UInt8) : Option DB := match splitL 45 l with
  | [a, b] => (match numB a, numB b with
    | some x, some y => some ((x : Int), (y : Int))
    | _, _ => none)
  | _ => none
theorem nv_none {a : List UInt8} (h : numB a = none) : (nv a).2 = false ∨ (decide (0 ≤ (nv a).1) && decide ((nv a).1 ≤ 11)) = false := by
  cases ht : (nv a).2 with
  | false => exact .inl rfl
  | true =>
    refine .inr ?_
    by_cases c : (nv a).1 ≤ 11
    · obtain ⟨n, h1, _, h3⟩ := nv_small (l := a) (v := (nv a).1) (by rw [← ht]) c
      rw [h3, numB_dg h1] at h
      cases h
    · rw [decF c, Bool.and_false]
theorem nv_some {a : List UInt8} {n : Nat} (h : numB a = some n) : nv a = ((n : Int), true) ∧ n < 12 := by
  obtain ⟨h1, h2⟩ := numB_some h
  rw [h2]
  exact ⟨nv_dg h1, h1⟩
theorem nv_two {α : Type} (a b : List UInt8) (E : Option α) (G : Int → Int → Option α) :
    cond (!(nv a).2) E (cond (!(nv b).2) E (cond (!(decide (0 ≤ (nv a).1) && decide ((nv a).1 ≤ 11))) E (cond (!(decide (0 ≤ (nv b).1) && decide ((nv b).1 ≤ 11))) E (G (nv a).1 (nv b).1)))) =
      (match numB a, numB b with
        | some x, some y => G x y
        | _, _ => E) := by
  cases ha : numB a with
  | none =>
    rcases nv_none ha with h | h
    · rw [h]; rfl
    · rw [h]
      cases (nv a).2 <;> cases (nv b).2 <;> rfl
  | some x =>
    obtain ⟨hx, hx2⟩ := nv_some ha
    rw [hx]
    cases hb : numB b with
    | none =>
      rcases nv_none hb with h | h
      · rw [h]; rfl
      · rw [h]
        cases (nv b).2 <;> cases (decide ((0 : Int) ≤ (x : Int)) && decide ((x : Int) ≤ 11)) <;> rfl
    | some y =>
      obtain ⟨hy, hy2⟩ := nv_some hb
      rw [hy, decT (show (0 : Int) ≤ (x : Int) by omega), decT (show (x : Int) ≤ 11 by omega), decT (show (0 : Int) ≤ (y : Int) by omega), decT (show (y : Int) ≤ 11 by omega)]
      rfl
theorem rd_two {α : Type} (s t : ByteArray) (E : Option α) (G : Int → Int → Option α) :
    cond (!(vRd (s, 0, 11)).2) E (cond (!(vRd (t, 0, 11)).2) E (G (vRd (s, 0, 11)).1 (vRd (t, 0, 11)).1)) =
      (match numB (lst s), numB (lst t) with
        | some x, some y => G x y
        | _, _ => E) := by
  cases ha : numB (lst s) with
  | none => rw [rd_none ha]; rfl
  | some x =>
    rw [rd_some ha]
    cases hb : numB (lst t) with
    | none => rw [rd_none hb]; rfl
    | some y => rw [rd_some hb]; rfl
def rdAll : List DB → List (List UInt8) → List DB × Int
  | o, [] => (o, 0)
  | o, w :: r => match wordV w with
    | some s => rdAll (o ++ [s]) r
    | none => ([], 5)
def rdLim : List DB → List (List UInt8) → List DB × Int
  | o, [] => (o, 0)
  | o, w :: r => match wordV w with
    | some s => if o.length = 60 then ([], 5) else rdLim (o ++ [s]) r
    | none => ([], 5)
theorem rdLim_eq : ∀ (W : List (List UInt8)) (o : List DB), o.length ≤ 60 → rdLim o W = if o.length + W.length > 60 then ([], 5) else rdAll o W
  | [], o, h => by
    rw [if_neg (by simp only [List.length_nil]; omega)]
    rfl
  | w :: r, o, h => by
    unfold rdLim rdAll
    cases wordV w with
    | none =>
      simp only
      split <;> rfl
    | some s =>
      simp only
      by_cases c : o.length = 60
      · rw [if_pos c, if_pos (by simp only [List.length_cons]; omega)]
      · rw [if_neg c, rdLim_eq r _ (by simp only [List.length_append, List.length_singleton]; omega)]
        simp only [List.length_append, List.length_cons, List.length_nil]
        by_cases d : o.length + (0 + 1) + r.length > 60
        · rw [if_pos d, if_pos (by omega)]
        · rw [if_neg d, if_neg (by omega)]
theorem rdAll_len : ∀ (W : List (List UInt8)) (o : List DB), (rdAll o W).1.length ≤ o.length + W.length
  | [], o => Nat.le_refl _
  | w :: r, o => by
    unfold rdAll
    split
    · rename_i s _
      have := rdAll_len r (o ++ [s])
      rw [List.length_append, List.length_singleton] at this
      rw [List.length_cons]
      omega
    · exact Nat.zero_le _
def readV (s : ByteArray) : List DB × Int := if lst s = [] then ([], 0) else if (splitL 32 (lst s)).length > 60 then ([], 5) else rdAll [] (splitL 32 (lst s))
theorem readV_len (s : ByteArray) : (readV s).1.length ≤ 60 := by
  unfold readV
  split
  · exact Nat.zero_le _
  · split
    · exact Nat.zero_le _
    · rename_i h
      have := rdAll_len (splitL 32 (lst s)) []
      simp only [List.length_nil] at this
      omega
theorem i8_12 {n : Nat} (h : n < 12) : IntKind.i8.wrap (n : Int) = (n : Int) := by
  rcases n12 h with rfl | rfl | rfl | rfl | rfl | rfl | rfl | rfl | rfl | rfl | rfl | rfl <;> decide
theorem s_spec_ReadSwaps : Fz9.S (cl PRd0 readV) := Fz9.of_cl s_l01Split s_l01Number s_l01Place fun s h k => by
  have hs : s.size ≤ 1073741824 := h
  have hl : (lst s).length ≤ 1073741824 := by rw [← size_lst]; exact h
  unfold Fz9.pf readV
  rw [empty_lst]
  by_cases c : lst s = []
  · rw [decT c, if_pos c]; rfl
  · rw [decF c, if_neg c, cond_false, cl_eq (show PSpl (s, 32) from ⟨hs, by simp, by simp⟩), Option.bind_some]
    have e32 : byteI 32 = 32 := by decide
    have e45 : byteI 45 = 45 := by decide
    simp only
    rw [e32, List.length_map]
    by_cases d : (splitL 32 (lst s)).length > 60
    · rw [decT (by omega), if_pos d]; rfl
    · rw [decF (by omega), if_neg d, cond_false]
      have hp := splitL_part 32 (lst s)
      generalize splitL 32 (lst s) = W at *
      have hlen : (W.map toB).length = W.length := List.length_map ..
      refine (iter_list W (fun i (o : List DB) => ((i : Int), o)) (fun q o => k (rdAll o q)) (fun i o => o.length ≤ i) (c := []) rfl (big_lt (by omega)) (Nat.le_refl _) ?_ ?_)
      · rintro i hi o rec ho hrec
        have hw := hp _ (List.getElem_mem hi)
        have hi2 : i < (W.map toB).length := by rw [hlen]; exact hi
        unfold Fz9.B1
        simp only [hlen, decT (show (i : Int) < (W.length : Int) by omega), inB_nat hi, cond_true, Int.toNat_natCast, getD_lt hi2, List.getElem_map, w64n (show i < 9223372036854775807 by omega)]
        rw [cl_eq (show PSpl (toB W[i], 45) from ⟨by simp only; rw [size_lst, lst_toB]; omega, by simp, by simp⟩), Option.bind_some]
        simp only
        rw [e45, lst_toB, List.length_map, rdAll, wordV]
        have hq := splitL_part 45 W[i]
        match hsp : splitL 45 W[i], hq with
        | [], _ => rfl
        | [_], _ => rfl
        | _ :: _ :: _ :: r, _ =>
          rw [bneT (by simp only [List.length_cons]; omega)]
          rfl
        | [a, b], hq =>
          have ha := hq a (by simp)
          have hb := hq b (by simp)
          have pa : PRd0 (toB a) := by show (toB a).size ≤ _; rw [size_lst, lst_toB]; omega
          have pb : PRd0 (toB b) := by show (toB b).size ≤ _; rw [size_lst, lst_toB]; omega
          simp only [List.length_cons, List.length_nil, List.map_cons, List.map_nil]
          rw [bneF (show (((0 + 1 + 1 : Nat)) : Int) = 2 by omega), cond_false, show inB (0 : Int) (0 + 1 + 1) = true from rfl, show inB (1 : Int) (0 + 1 + 1) = true from rfl]
          simp only [cond_true, List.getD_cons_zero, List.getD_cons_succ]
          rw [cl_eq pa, Option.bind_some, cl_eq pb, Option.bind_some, lst_toB, lst_toB]
          simp only [tot_eq, Option.bind_some]
          refine (nv_two a b (k (([] : List DB), 5)) fun x y => cond (okL (List.length o + 1)) (rec (((i + 1 : Nat) : Int), (o ++ [(IntKind.i8.wrap x, IntKind.i8.wrap y)]))) none).trans ?_
          cases hna : numB a with
          | none => rfl
          | some x =>
            cases hnb : numB b with
            | none => rfl
            | some y =>
              simp only
              rw [okS (by omega), cond_true, i8_12 (nv_some hna).2, i8_12 (nv_some hnb).2]
              exact hrec _ (by simp only [List.length_append, List.length_singleton]; omega)
      · rintro o rec _
        unfold Fz9.B1
        simp only
        rw [hlen, decF (by omega), cond_false]
        rfl
theorem dg45 {n : Nat} (h : n < 12) : (45 : UInt8) ∉ dgL n := by
  rcases n12 h with rfl | rfl | rfl | rfl | rfl | rfl | rfl | rfl | rfl | rfl | rfl | rfl <;> decide
theorem cut_word (w : ByteArray) : wordV (lst w) = if (vCut (w, bytesOf [45])).2.2 = true then (match numB (lst (vCut (w, bytesOf [45])).1), numB (lst (vCut (w, bytesOf [45])).2.1) with
    | some x, some y => some ((x : Int), (y : Int))
    | _, _ => none) else none := by
  have hi : idxV (w, bytesOf [45]) = Lib.indexByte (lst w) 45 := rfl
  unfold wordV vCut
  rw [hi]
  rcases idx_split 45 (lst w) with ⟨h1, _, h3, _⟩ | ⟨m, h1, h2, h3, h4⟩
  · rw [h1, h3]
    rfl
  · rw [h2, h3, if_pos (show (m : Int) ≥ 0 by omega), if_pos rfl]
    simp only [Int.toNat_natCast, lst_toB]
    rcases idx_split 45 ((lst w).drop (m + 1)) with ⟨_, _, g3, _⟩ | ⟨m2, g1, _, g3, _⟩
    · rw [g3]
    · have hn : numB ((lst w).drop (m + 1)) = none := by
        cases hq : numB ((lst w).drop (m + 1)) with
        | none => rfl
        | some n =>
          obtain ⟨q1, q2⟩ := numB_some hq
          exfalso
          rcases idx_split 45 ((lst w).drop (m + 1)) with ⟨_, _, f3, _⟩ | ⟨m3, f1, _, _, f4⟩
          · rw [f3] at g3
            have := congrArg List.length g3
            have hne := splitL_ne 45 (((lst w).drop (m + 1)).drop (m2 + 1))
            have : 0 < (splitL 45 (((lst w).drop (m + 1)).drop (m2 + 1))).length := List.length_pos_iff.2 hne
            simp only [List.length_cons, List.length_nil] at *
            omega
          · have hmem : (45 : UInt8) ∈ (lst w).drop (m + 1) := List.count_pos_iff.1 (by omega)
            rw [q2] at hmem
            exact dg45 q1 hmem
      rw [g3, hn]
      have hne := splitL_ne 45 (((lst w).drop (m + 1)).drop (m2 + 1))
      cases hs : splitL 45 (((lst w).drop (m + 1)).drop (m2 + 1)) with
      | nil => exact absurd hs hne
      | cons p r => cases numB ((lst w).take m) <;> rfl
theorem vCut_size (w : ByteArray) (t : ByteArray) : (lst (vCut (w, t)).1).length ≤ (lst w).length ∧ (lst (vCut (w, t)).2.1).length ≤ (lst w).length := by
  unfold vCut
  split
  · simp only [lst_toB, List.length_take, List.length_drop]
    omega
  · exact ⟨Nat.le_refl _, Nat.zero_le _⟩
theorem s_impl_ReadSwaps : Fz0.S (cl PRd0 readV) := Fz0.of_cl s_Split s_Cut s_readDec fun s h k => by
  have hs : s.size ≤ 1073741824 := h
  have hl : (lst s).length ≤ 1073741824 := by rw [← size_lst]; exact h
  unfold Fz0.pf readV
  rw [empty_lst]
  by_cases c : lst s = []
  · rw [decT c, if_pos c]; rfl
  · rw [decF c, if_neg c, cond_false, cl_eq (show PSplit (s, bytesOf [32]) from ⟨hs, 32, rfl⟩), Option.bind_some]
    have e32 : vSplit (s, bytesOf [32]) = (splitL 32 (lst s)).map toB := rfl
    rw [e32]
    have hp := splitL_part 32 (lst s)
    have hW := splitL_len 32 (lst s)
    have hE : (if (splitL 32 (lst s)).length > 60 then (([], 5) : List DB × Int) else rdAll [] (splitL 32 (lst s))) = rdLim [] (splitL 32 (lst s)) := by
      rw [rdLim_eq _ _ (Nat.zero_le _), List.length_nil, Nat.zero_add]
    rw [hE]
    generalize splitL 32 (lst s) = W at *
    have hlen : (W.map toB).length = W.length := List.length_map ..
    refine (iter_list W (fun i (o : List DB) => ((i : Int), o)) (fun q o => k (rdLim o q)) (fun i o => o.length ≤ 60) (c := []) rfl (big_lt (by omega)) (Nat.zero_le _) ?_ ?_)
    · rintro i hi o rec ho hrec
      have hw := hp _ (List.getElem_mem hi)
      have hi2 : i < (W.map toB).length := by rw [hlen]; exact hi
      have hsz : (toB W[i]).size ≤ 1073741824 := by rw [size_lst, lst_toB]; omega
      obtain ⟨z1, z2⟩ := vCut_size (toB W[i]) (bytesOf [45])
      rw [lst_toB] at z1 z2
      have p1 : PRd ((vCut (toB W[i], bytesOf [45])).1, 0, 11) := by show (vCut (toB W[i], bytesOf [45])).1.size ≤ _; rw [size_lst]; omega
      have p2 : PRd ((vCut (toB W[i], bytesOf [45])).2.1, 0, 11) := by show (vCut (toB W[i], bytesOf [45])).2.1.size ≤ _; rw [size_lst]; omega
      have hc := cut_word (toB W[i])
      rw [lst_toB] at hc
      unfold Fz0.B1
      simp only [hlen, decT (show (i : Int) < (W.length : Int) by omega), inB_nat hi, cond_true, Int.toNat_natCast, getD_lt hi2, List.getElem_map, w64n (show i < 9223372036854775807 by omega)]
      rw [cl_eq (show PSplit (toB W[i], bytesOf [45]) from ⟨hsz, 45, rfl⟩), Option.bind_some, cl_eq p1, Option.bind_some, cl_eq p2, Option.bind_some, rdLim, hc]
      generalize vCut (toB W[i], bytesOf [45]) = r at *
      cases hf : r.2.2 with
      | false => rfl
      | true =>
        simp only [Bool.not_true, cond_false, if_true]
        refine (rd_two r.1 r.2.1 (k (([] : List DB), 5)) fun x y => cond (((List.length o : Nat) : Int) == 60) (k ([], 5)) (cond (okL (List.length o + 1)) (rec (((i + 1 : Nat) : Int), (o ++ [(IntKind.i8.wrap x, IntKind.i8.wrap y)]))) none)).trans ?_
        cases hna : numB (lst r.1) with
        | none => rfl
        | some x =>
          cases hnb : numB (lst r.2.1) with
          | none => rfl
          | some y =>
            simp only
            by_cases q : o.length = 60
            · rw [beqT (by omega), if_pos q]; rfl
            · rw [beqF (by omega), if_neg q, cond_false, okS (by omega), cond_true, i8_12 (nv_some hna).2, i8_12 (nv_some hnb).2]
              exact hrec _ (by simp only [List.length_append, List.length_singleton]; omega)
    · rintro o rec _
      unfold Fz0.B1
      simp only
      rw [hlen, decF (by omega), cond_false]
      rfl
def gT (s : ByteArray) : Prop := s.size ≤ 140737488351232
theorem s_law_ReadSwaps : laws_FnExactReadSwaps.S (cl gT fun _ => true) := laws_FnExactReadSwaps.of_cl s_spec_ReadSwaps s_impl_ReadSwaps s_eqSwapS s_markSwapS s_heldSwapS fun s h k => by
  unfold laws_FnExactReadSwaps.pf
  by_cases c : ((s.size : Nat) : Int) > 1048576
  · rw [decT c]; rfl
  · rw [decF c, cond_false]
    have hp : PRd0 s := by show s.size ≤ _; omega
    have hl := readV_len s
    have hm := markS_len (readV s).1 1
    have h1 := markS_fst (readV s).1 1 (by omega) (by omega)
    simp only [cl_eq hp, Option.bind_some, cl_eq (show PL1 ((readV s).1, (readV s).1) by unfold PL1; simp only; omega), decide_true, Bool.not_true, cond_false, bneS, cl_eq (show PL1 ((readV s).1, (1 : Int)) by unfold PL1; simp only; omega), cl_eq (show PL1 ((markS 1 (readV s).1).2, (1 : Int)) by unfold PL1; simp only; omega), held_markS]
    rw [decF (show ¬ (markS 1 (readV s).1).1 < 0 by omega)]
    rfl
end Go.Proofs.YtjajlmaldeoobaaDoor.G
