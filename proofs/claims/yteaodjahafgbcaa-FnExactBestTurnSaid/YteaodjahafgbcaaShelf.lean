/- The choice of the best turn, walked. -/
import Derived.Test.YteaodjahafgbcaaProg
import Derived.Maps.OwnOps
import Derived.WalkKit
import Derived.Carry
import Derived.KernelRfl
import Derived.Deep.RegionHeld3
import Derived.IntWalk
import Derived.Deep.AppendLies
import Derived.Tactics2
import Derived.Laws.EntriesVeiled
import Derived.Deep.RegionLaw
import Derived.Deep.RegionLawGrows
import Derived.StillTactics
import Derived.WalkSpells
import Derived.Laws.Pointers
namespace Go.Proofs
open Go Go.RowKit
set_option linter.unusedVariables false
set_option linter.unusedSimpArgs false
set_option maxRecDepth 100000
theorem run_append_keep {P : Program} (w : World) (base : Nat) (t ty e : TypeId) (i : TypeInfo) (z : Value) (bytes : Nat) (ht : P.underlying t = some (.slice e)) (hi : P.info? e = some i) (hz : i.zero = some z)
    (hsize : i.size = 1) (hby : i.bytes = bytes) (hzs : z.cells.size = 1)
    (g n cap : Nat) (xs : List Value) (hown : w.ownsRow base e 1 (.slice (some ⟨g, 0, none⟩) n cap) n xs)
    (a : Addr) (x : Value) (hnews : w.cell? (a.add 0) = some x) (h1 : x.oneCell' = true)
    (h63 : n + 1 ≤ maxLen) (hbytes : (n + 1) * bytes ≤ 140737488355328) (hbase : base ≤ w.heap.size) :
    ∃ g' cap' w', (Builtin.append_ #[t, t] ty #[.slice (some ⟨g, 0, none⟩) n cap, .slice (some a) 1 1]).run P w = .ok (.slice (some ⟨g', 0, none⟩) (n + 1) cap') w' ∧
      w'.ownsRow base e 1 (.slice (some ⟨g', 0, none⟩) (n + 1) cap') (n + 1) (xs ++ [x]) ∧ w.grownBy w' (some g) ∧ ((g' = g ∧ cap' = cap) ∨ (g' = w.heap.size ∧ w'.heap[g]? = w.heap[g]?)) := by
  have hnews' : ∀ j u, [x][j]? = some u → w.cell? (a.add j) = some u := fun j u hu => by
    match j, hu with
    | 0, hu => obtain rfl := Option.some.inj hu; exact hnews
  have h1' : ∀ u ∈ [x], u.oneCell' = true := fun u hu => by obtain rfl := List.mem_singleton.1 hu; exact h1
  have hlen : (xs ++ [x]).length = (n + 1) * 1 := by rw [List.length_append, hown.1]; simp
  rcases hown.2 with ⟨q, _⟩ | ⟨g2, cap2, cur, hv, hbg, hg, hnc, hcm, hcs, htake⟩
  · cases q
  · obtain ⟨rfl, rfl⟩ : g = g2 ∧ cap = cap2 := by simpa using hv
    by_cases hroom : n + 1 ≤ cap
    · have hfit : n * i.size + [x].length ≤ cur.size := by rw [hsize]; simp; omega
      have hr := run_append_room (P := P) w t ty e i ht hi g n cap cur hg a 1 1 [x] (by rw [hsize]; rfl) hnews' h1' hroom hfit
      refine ⟨g, cap, _, hr, ⟨hlen, .inr ⟨g, cap, _, rfl, hbg, setRow_heap w g cur _ e _ hg, hroom, hcm, ?_, ?_⟩⟩, ⟨rfl, rfl, rfl, by simp, fun k _ hk => setRow_other w g k _ (fun e => hk (by simp [e]))⟩, .inl ⟨rfl, rfl⟩⟩
      · simp only [hsize, List.size_toArray, List.length_append, List.length_take, List.length_drop, Array.length_toList, List.length_singleton]
        omega
      · simp only [hsize]
        rw [htake, ← hlen]
        exact List.take_left
    · have holds : ∀ j u, xs[j]? = some u → w.cell? ((⟨g, 0, none⟩ : Addr).add j) = some u := hown.cells (g := g) rfl
      have hr := run_append_grow (P := P) w t ty e i z ht hi hz ⟨g, 0, none⟩ n cap xs (by rw [hsize]; exact hown.1) holds a 1 1 [x] (by rw [hsize]; rfl) hnews' (by omega) (by simp only [maxLen] at h63; omega) (growslice_fits (by omega) (by rw [hby]; exact hbytes))
      have hge := grownCap_ge w (n + 1) cap e
      have hcm2 : grownCap w (n + 1) cap e ≤ maxLen := grownCap_le_maxLen w (n + 1) cap e h63
      have hlt : g < w.heap.size := (Array.getElem?_eq_some_iff.1 hg).1
      refine ⟨_, _, _, hr, ⟨hlen, .inr ⟨w.heap.size, _, _, rfl, hbase, heap_alloc_new w.drew _, hge, hcm2, ?_, ?_⟩⟩, ⟨rfl, rfl, rfl, by simp, fun k hk _ => heap_alloc_old w.drew _ hk⟩, .inr ⟨rfl, heap_alloc_old w.drew _ hlt⟩⟩
      · simp only [Array.size_append, List.size_toArray, size_zeroCells, hzs, hown.1, List.length_singleton]
        omega
      · simp only [Array.toList_append, List.append_assoc]
        rw [← List.append_assoc, ← hlen]
        exact List.take_left
theorem step_append_keep {P : Program} {ops : Array Oper} {o : Oper} {a : Act} {w : World} {K : Act → World → Prop} {Q : Exit → Act → World → Prop} {E : Prop} (hgd : o.guard = none) (s x : Operand) (t : TypeId)
    (ho : o.op = .call { callee := .builtin .append, args := #[s, x], argTypes := #[t, t] })
    (base : Nat) (e : TypeId) (i : TypeInfo) (z : Value) (bytes : Nat) (ht : P.underlying t = some (.slice e)) (hi : P.info? e = some i) (hz : i.zero = some z)
    (hsize : i.size = 1) (hby : i.bytes = bytes) (hzs : z.cells.size = 1)
    (g n cap : Nat) (xs : List Value) (hs : a.eval s = .slice (some ⟨g, 0, none⟩) n cap) (hown : w.ownsRow base e 1 (.slice (some ⟨g, 0, none⟩) n cap) n xs)
    (ad : Addr) (y : Value) (hx : a.eval x = .slice (some ad) 1 1) (hnews : w.cell? (ad.add 0) = some y) (h1 : y.oneCell' = true)
    (h63 : n + 1 ≤ maxLen) (hbytes : (n + 1) * bytes ≤ 140737488355328) (hbase : base ≤ w.heap.size) (H : Nat) (hH : w.heap.size = H)
    (h : ∀ g' cap' w', w'.ownsRow base e 1 (.slice (some ⟨g', 0, none⟩) (n + 1) cap') (n + 1) (xs ++ [y]) → w.grownBy w' (some g) → ((g' = g ∧ cap' = cap) ∨ (g' = H ∧ w'.heap[g]? = w.heap[g]?)) → K (a.put o.dst (.slice (some ⟨g', 0, none⟩) (n + 1) cap')) w') :
    if Region.wanted o (yielded ops a.tmps) = true then Oper.wp P o a w K Q else E := by
  have hw : Region.wanted o (yielded ops a.tmps) = true := by simp [Region.wanted, hgd]
  rw [if_pos hw]
  subst hH
  obtain ⟨g', cap', w', hr, h2, h3, h4⟩ := run_append_keep (P := P) w base t o.type e i z bytes ht hi hz hsize hby hzs g n cap xs hown ad y hnews h1 h63 hbytes hbase
  unfold Oper.wp execOp
  simp only [ho, resolve, invoke, builtin, Sem.run_bind, Sem.run_pure, Result.andThen_ok, List.map_toArray, List.map_cons, List.map_nil, hs, hx, hr]
  exact h g' cap' w' h2 h3 h4
theorem step_calls {P : Program} {ops : Array Oper} {o : Oper} {a : Act} {w : World} {K : Act → World → Prop} {Q : Exit → Act → World → Prop} {E : Prop} (hgd : o.guard = none) (x : Operand) (args : Array Operand) (ts : Array TypeId)
    (ho : o.op = .call { callee := .value x, args := args, argTypes := ts }) (F : FuncId) (caps : Array Value) (hx : a.eval x = .func (.func F) #[] caps) (vs : Array Value) (hvs : #[] ++ args.map a.eval ++ caps = vs)
    (fn : Go.Func) (f1 : P.funcs[F]? = some fn) (f2 : (fn.name == "runtime.NumGoroutine") = false) (f3 : fn.body.isNone = false) (R : Value → World → Prop) (h : Calls P F vs w fun e w' => ∃ v, e = .returned v ∧ R v w')
    (hk : ∀ v w', R v w' → K (a.put o.dst v) w') : if Region.wanted o (yielded ops a.tmps) = true then Oper.wp P o a w K Q else E := by
  have hw : Region.wanted o (yielded ops a.tmps) = true := by simp [Region.wanted, hgd]
  rw [if_pos hw]
  have hrun : (execOp a.eval o).run P w = .ok (.enter F vs) w := by
    unfold execOp
    rw [ho]
    simp only [resolve, Deferred.ofValue, hx, Sem.run_bind, Sem.run_pure, Result.andThen_ok, invoke, callFunc, run_program, f1, hvs]
    simp [f2, f3]
  unfold Oper.wp
  rw [hrun]
  refine h.mono fun e w' he => ?_
  obtain ⟨v, rfl, hr⟩ := he
  exact hk v w' hr
theorem Try.info2 : (Try.prog.info? 2).map (fun i => (i.zero, i.size, i.bytes)) = some (some (.int .i64 0), 1, 8) := by kernel_rfl
theorem Try.info34 : (Try.prog.info? 34).map (fun i => (i.zero, i.size, i.bytes)) = some (some (.slice none 0 0), 1, 24) := by kernel_rfl
def intV (l : List Int) : List Value := l.map (.int .i64)
theorem intV_len (l : List Int) : (intV l).length = l.length := by simp [intV]
theorem own_keep {w w' : World} {base : Nat} {e : TypeId} {size n : Nat} {v : Value} {xs : List Value} (h : w.ownsRow base e size v n xs) (hb : ∀ k, v.ownBlock = some k → w'.heap[k]? = w.heap[k]?) : w'.ownsRow base e size v n xs := by
  refine ⟨h.1, ?_⟩
  rcases h.2 with q | ⟨g, cap, cur, rfl, q2, q3, q4⟩
  · exact .inl q
  · exact .inr ⟨g, cap, cur, rfl, q2, (hb g rfl).trans q3, q4⟩
theorem own_mono {w : World} {B C : Nat} {e : TypeId} {size n : Nat} {v : Value} {xs : List Value} (h : w.ownsRow C e size v n xs) (hb : B ≤ C) : w.ownsRow B e size v n xs := by
  refine ⟨h.1, ?_⟩
  rcases h.2 with q | ⟨g, cap, cur, rfl, q2, q3⟩
  · exact .inl q
  · exact .inr ⟨g, cap, cur, rfl, Nat.le_trans hb q2, q3⟩
set_option maxHeartbeats 4000000 in
theorem Try.clone_calls (g cap : Nat) (L : List Int) (B : Nat) (w : World) (hown : w.ownsRow B 2 1 (.slice (some ⟨g, 0, none⟩) L.length cap) L.length (intV L)) (hL : L.length ≤ 1000000) :
    Calls Try.prog 115 #[.slice (some ⟨g, 0, none⟩) L.length cap] w fun e w' => ∃ x, e = .returned x ∧ w'.ownsRow w.heap.size 2 1 x L.length (intV L) ∧ Below w.heap.size w w' := by
  obtain ⟨i0, hi, hz0, hz1, hz2⟩ := info_parts Try.info2
  have ownE : (w.alloc (.cells #[] 2)).ownsRow w.heap.size 2 1 (.slice (some ⟨w.heap.size, 0, none⟩) 0 0) 0 [] :=
    World.ownsRow_made w #[] 0 (Nat.le_refl _) (by unfold maxLen; omega) rfl
  have holdc := hown.cells (g := g) rfl
  have hlt : g < w.heap.size := (hown.lt g rfl).2
  have hc1 : ∀ j u, (intV L)[j]? = some u → (w.alloc (.cells #[] 2)).cell? ((⟨g, 0, none⟩ : Addr).add j) = some u := fun j u hu => by
    have := holdc j u hu
    rw [← this]
    refine World.cell?_of_block ?_
    have e : ((⟨g, 0, none⟩ : Addr).add j).block = g := by unfold Addr.add; split <;> simp_all
    rw [e]
    exact heap_alloc_old w _ hlt
  have hc2 : ∀ u ∈ intV L, u.oneCell' = true := fun u hu => by
    unfold intV at hu
    obtain ⟨y, _, rfl⟩ := List.mem_map.1 hu
    rfl
  have hnil : (binOp BinOp.eql 34 (Value.slice (some ⟨g, 0, none⟩) L.length cap) (Value.slice none 0 0)).run Try.prog w = .ok (.bool false) w := Lib.run_eql_slice_nil w 34 2 (some ⟨g, 0, none⟩) L.length cap 0 0 Try.underlying34
  go_enter Try.func115, Try.ntmps115
  go_wp2_with (at_builtin; refine wpList_append_own _ rfl _ _ 34 rfl w.heap.size 2 i0 _ 1 8 Try.underlying34 hi hz0 hz1 hz2 rfl (by omega) _ 0 [] rfl ownE ⟨g, 0, none⟩ L.length cap (intV L) rfl (by rw [intV_len]; omega) hc1 hc2 (by unfold maxLen; omega) (by omega) (by simp) ?_)
  intro v' w1 hown1 hgrow _
  go_wp2
  go_ret
  refine ⟨v', rfl, by simpa using hown1, ((Below.refl _ w).alloc (Nat.le_refl _) _).grown hgrow (by simp) (fun k hk => (ownE.lt k hk).1)⟩
def ordF (n : Nat) : Nat → List Int → List (List Int)
  | 0, L => [L]
  | d + 1, L => (List.range n).flatMap fun (i : Nat) => if L.contains (i : Int) then [] else ordF n d (L ++ [(i : Int)])
structure OrdFr (w w' : World) (bo : Nat) (V : Value) (g : Nat) : Prop where
  os : w'.os = w.os
  tape : w'.tape = w.tape
  output : w'.output = w.output
  size : w.heap.size ≤ w'.heap.size
  block : ∀ k, k < w.heap.size → k ≠ bo → some k ≠ V.ownBlock → k ≠ g → w'.heap[k]? = w.heap[k]?
structure OrdInv (w : World) (B n bn bo be : Nat) (V : Value) (rv : List Value) (rows : List (List Int)) : Prop where
  hn : w.heap[bn]? = some (.cells #[.int .i64 n] 2 (0, 0))
  ho : w.heap[bo]? = some (.cells #[V] 105 (0, 0))
  he : w.heap[be]? = some (.cells #[.func (.func 114) #[] #[.pointer (some ⟨bn, 0, none⟩), .pointer (some ⟨bo, 0, none⟩), .pointer (some ⟨be, 0, none⟩)]] 138 (0, 0))
  lt : bn < B ∧ bn ≠ bo ∧ bn ≠ be ∧ bo ≠ be
  own : w.ownsRow B 34 1 V rv.length rv
  len : rv.length = rows.length
  row : ∀ i (h : i < rv.length) (h' : i < rows.length), w.ownsRow B 2 1 rv[i] rows[i].length (intV rows[i])
theorem own_cells {w : World} {B : Nat} {e : TypeId} {v : Value} {n : Nat} {xs : List Value} (h : w.ownsRow B e 1 v n xs) {k : Nat} (hk : v.ownBlock = some k) : ∃ cur, w.heap[k]? = some (.cells cur e (0, 0)) := by
  rcases h.2 with ⟨rfl, _⟩ | ⟨g, cap, cur, rfl, _, q, _⟩
  · cases hk
  · obtain rfl : g = k := by simpa [Value.ownBlock] using hk
    exact ⟨cur, q⟩
theorem own_apart {w : World} {B C : Nat} {e e' : TypeId} {v v' : Value} {n n' : Nat} {xs xs' : List Value} (h : w.ownsRow B e 1 v n xs) (h' : w.ownsRow C e' 1 v' n' xs') (hne : e ≠ e') {k : Nat} (hk : v.ownBlock = some k) : v'.ownBlock ≠ some k := fun q => by
  obtain ⟨c, h1⟩ := own_cells h hk
  obtain ⟨c', h2⟩ := own_cells h' q
  rw [h1] at h2
  injection h2 with h2
  injection h2 with _ h3 _
  exact hne h3
theorem own_ne {w : World} {B : Nat} {e t : TypeId} {v : Value} {n : Nat} {xs : List Value} {b : Nat} {cs : Array Value} {fr : Nat × Nat} (h : w.ownsRow B e 1 v n xs) (hb : w.heap[b]? = some (.cells cs t fr)) (hne : e ≠ t) : v.ownBlock ≠ some b := fun q => by
  obtain ⟨c, h1⟩ := own_cells h q
  rw [h1] at hb
  injection hb with hb
  injection hb with _ h3 _
  exact hne h3
theorem OrdInv.keep {w w' : World} {B n bn bo be : Nat} {V : Value} {rv : List Value} {rows : List (List Int)} (h : OrdInv w B n bn bo be V rv rows) (hb : ∀ k, k < w.heap.size → w'.heap[k]? = w.heap[k]?) : OrdInv w' B n bn bo be V rv rows := by
  have lt : ∀ {k : Nat} {o : Obj}, w.heap[k]? = some o → w'.heap[k]? = some o := fun {k o} q => (hb k (Array.getElem?_eq_some_iff.1 q).1).trans q
  exact ⟨lt h.hn, lt h.ho, lt h.he, h.lt, own_keep h.own (fun k hk => hb k (h.own.lt k hk).2), h.len, fun i h1 h2 => own_keep (h.row i h1 h2) (fun k hk => hb k ((h.row i h1 h2).lt k hk).2)⟩
theorem heap_set_ne (w : World) (b k : Nat) (v : Value) (h : k ≠ b) : (w.setCell ⟨b, 0, none⟩ v).heap[k]? = w.heap[k]? := Below.heap_setCell _ _ _ _ h
theorem heap_set_eq (w : World) (b : Nat) (u v : Value) (t : TypeId) (h : w.heap[b]? = some (.cells #[u] t (0, 0))) : (w.setCell ⟨b, 0, none⟩ v).heap[b]? = some (.cells #[v] t (0, 0)) := by
  simp [World.setCell, Array.getElem?_modify, h]
theorem ord_push {w w1 w3 : World} {B n bn bo be : Nat} {V V' x : Value} {rv : List Value} {rows : List (List Int)} {L : List Int} {g cap : Nat} (h : OrdInv w B n bn bo be V rv rows)
    (hL : w.ownsRow B 2 1 (.slice (some ⟨g, 0, none⟩) L.length cap) L.length (intV L)) (hBw : B ≤ w.heap.size)
    (hb1 : Below w.heap.size w w1) (hx : w1.ownsRow w.heap.size 2 1 x L.length (intV L)) (h3 : w3.ownsRow B 34 1 V' (rv.length + 1) (rv ++ [x]))
    (hg : (w1.alloc (.cells #[x] 34)).grownBy w3 V.ownBlock) (hV : V.ownBlock = V'.ownBlock ∨ V'.ownBlock = some (w1.heap.size + 1)) :
    OrdInv (w3.setCell ⟨bo, 0, none⟩ V') B n bn bo be V' (rv ++ [x]) (rows ++ [L]) ∧ (w3.setCell ⟨bo, 0, none⟩ V').ownsRow B 2 1 (.slice (some ⟨g, 0, none⟩) L.length cap) L.length (intV L) ∧ OrdFr w (w3.setCell ⟨bo, 0, none⟩ V') bo V g := by
  obtain ⟨l1, l4, l5, l6⟩ := h.lt
  have hs1 := hb1.size
  have hs3 := hg.size
  have hs2 : (w1.alloc (.cells #[x] 34)).heap.size = w1.heap.size + 1 := by simp
  rw [hs2] at hs3
  -- a block of w1 that is not the row's
  have b1 : ∀ k, k < w1.heap.size → some k ≠ V.ownBlock → w3.heap[k]? = w1.heap[k]? := fun k hk hne => (hg.block k (by rw [hs2]; omega) hne).trans (heap_alloc_old w1 _ hk)
  have b0 : ∀ k, k < w.heap.size → some k ≠ V.ownBlock → w3.heap[k]? = w.heap[k]? := fun k hk hne => (b1 k (by omega) hne).trans (hb1.block k hk)
  have bS : ∀ {k : Nat} {o : Obj}, w.heap[k]? = some o → k < w.heap.size := fun q => (Array.getElem?_eq_some_iff.1 q).1
  have ib : ∀ k, k < w.heap.size → V.ownBlock ≠ some k → k ≠ bo → (w3.setCell ⟨bo, 0, none⟩ V').heap[k]? = w.heap[k]? := fun k hk hV hne => (heap_set_ne w3 bo k V' hne).trans (b0 k hk (Ne.symm hV))
  have ho3 : w3.heap[bo]? = some (.cells #[V] 105 (0, 0)) := (b0 bo (bS h.ho) (Ne.symm (own_ne h.own h.ho (by decide)))).trans h.ho
  refine ⟨⟨(ib bn (bS h.hn) (own_ne h.own h.hn (by decide)) l4).trans h.hn, heap_set_eq w3 bo V V' 105 ho3, (ib be (bS h.he) (own_ne h.own h.he (by decide)) (Ne.symm l6)).trans h.he, h.lt, ?_, by simp [h.len], ?_⟩, ?_, ?_⟩
  · rw [List.length_append, List.length_singleton]
    exact own_keep h3 (fun k hk => heap_set_ne w3 bo k V' (fun q => own_ne h3 ho3 (by decide) (q ▸ hk)))
  · intro i hi1 hi2
    by_cases c : i < rv.length
    · have c2 : i < rows.length := by rw [← h.len]; exact c
      rw [List.getElem_append_left c, List.getElem_append_left c2]
      refine own_keep (h.row i c c2) (fun k hk => ?_)
      have hlt := (h.row i c c2).lt k hk
      rw [heap_set_ne w3 bo k V' (fun q => own_ne (h.row i c c2) h.ho (by decide) (q ▸ hk))]
      exact b0 k hlt.2 (fun q => own_apart h.own (h.row i c c2) (by decide) q.symm hk)
    · have ei : i = rv.length := by simp only [List.length_append, List.length_singleton] at hi1; omega
      subst ei
      have e1 : (rv ++ [x])[rv.length] = x := by simp
      have e2 : (rows ++ [L])[rv.length]'hi2 = L := by simp [h.len]
      rw [e1, e2]
      refine own_mono (own_keep hx (fun k hk => ?_)) hBw
      have hlt := hx.lt k hk
      have := bS h.ho
      rw [heap_set_ne w3 bo k V' (by omega)]
      exact b1 k hlt.2 (fun q => by have := (h.own.lt k q.symm).2; omega)
  · refine own_keep hL (fun k hk => ?_)
    have hlt := hL.lt k hk
    rw [heap_set_ne w3 bo k V' (fun q => own_ne hL h.ho (by decide) (q ▸ hk))]
    exact b0 k hlt.2 (fun q => own_apart h.own hL (by decide) q.symm hk)
  · refine ⟨hg.os.trans hb1.os, hg.tape.trans hb1.tape, hg.output.trans hb1.output, ?_, fun k hk h1 h2 _ => (heap_set_ne w3 bo k V' h1).trans (b0 k hk h2)⟩
    have : (w3.setCell ⟨bo, 0, none⟩ V').heap.size = w3.heap.size := by simp
    rw [this]
    omega
theorem own_slice {w : World} {B : Nat} {e : TypeId} {v : Value} {n : Nat} {xs : List Value} (h : w.ownsRow B e 1 v n xs) : ∃ A c, v = .slice A n c := by
  rcases h.2 with ⟨rfl, rfl⟩ | ⟨g, cap, cur, rfl, _⟩
  · exact ⟨none, 0, rfl⟩
  · exact ⟨_, _, rfl⟩
theorem ord_bo {w w1 w3 : World} {B n bn bo be : Nat} {V : Value} {rv : List Value} {rows : List (List Int)} {o : Obj} (h : OrdInv w B n bn bo be V rv rows) (hBw : B ≤ w.heap.size) (hb1 : Below w.drew.heap.size w.drew w1) (hg : (w1.alloc o).grownBy w3 V.ownBlock) : w3.heap[bo]? = some (.cells #[V] 105 (0, 0)) := by
  have hs : w.heap.size ≤ w1.heap.size := hb1.size
  have l2 : bo < w.heap.size := (Array.getElem?_eq_some_iff.1 h.ho).1
  have e1 : (w1.alloc o).heap.size = w1.heap.size + 1 := by simp
  have h1 : w1.heap[bo]? = some (.cells #[V] 105 (0, 0)) := (hb1.block bo (show bo < w.heap.size by omega)).trans h.ho
  exact ((hg.block bo (by omega) (Ne.symm (own_ne h.own h.ho (by decide)))).trans (heap_alloc_old w1 o (show bo < w1.heap.size by omega))).trans h1
theorem ord_c2 {w : World} {o : Obj} {a : Addr} {v : Value} (h : w.cell? a = some v) : (w.alloc o).cell? a = some v :=
  (World.cell?_of_block (heap_alloc_old w o (World.block_lt_of_cell? w a h))).trans h
theorem own_one {w : World} {B : Nat} {e : TypeId} {v : Value} {n : Nat} {xs : List Value} (h : w.ownsRow B e 1 v n xs) : ∀ u ∈ [v], u.oneCell' = true := fun u hu => by
  obtain rfl := List.mem_singleton.1 hu
  rcases h.2 with ⟨rfl, _⟩ | ⟨g, cap, cur, rfl, _⟩ <;> rfl
theorem ord_sz {w w1 : World} {B : Nat} {o : Obj} (h : B ≤ w.heap.size) (hb : Below w.drew.heap.size w.drew w1) : B ≤ (w1.alloc o).heap.size := by
  have hs : w.heap.size ≤ w1.heap.size := hb.size
  have : (w1.alloc o).heap.size = w1.heap.size + 1 := by simp
  omega
theorem own_below {w w' : World} {base : Nat} {e : TypeId} {size n : Nat} {v : Value} {xs : List Value} (h : w.ownsRow base e size v n xs) (hb : Below w.heap.size w w') : w'.ownsRow base e size v n xs := own_keep h (fun k hk => hb.block k (h.lt k hk).2)
def OrdPost (w w' : World) (B n bn bo be : Nat) (V : Value) (rv : List Value) (rows : List (List Int)) (g cap : Nat) (L : List Int) (out : List (List Int)) : Prop :=
  ∃ V' new, OrdInv w' B n bn bo be V' (rv ++ new) (rows ++ out) ∧ (∀ x, x ∈ new → ∀ k, x.ownBlock = some k → w.heap.size ≤ k) ∧ w'.ownsRow B 2 1 (.slice (some ⟨g, 0, none⟩) L.length cap) L.length (intV L) ∧ OrdFr w w' bo V g ∧
    (V'.ownBlock = V.ownBlock ∨ ∃ k, V'.ownBlock = some k ∧ w.heap.size ≤ k)
set_option maxHeartbeats 8000000 in
theorem Try.ord_zero (n bn bo be B : Nat) (L : List Int) (g cap : Nat) (V : Value) (rv : List Value) (rows : List (List Int)) (w : World) (h : OrdInv w B n bn bo be V rv rows)
    (hL : w.ownsRow B 2 1 (.slice (some ⟨g, 0, none⟩) L.length cap) L.length (intV L)) (hBw : B ≤ w.heap.size) (hn : L.length = n) (h5 : n ≤ 5) (hr : rows.length + 1 ≤ 1000000) :
    Calls Try.prog 114 #[.slice (some ⟨g, 0, none⟩) L.length cap, .pointer (some ⟨bn, 0, none⟩), .pointer (some ⟨bo, 0, none⟩), .pointer (some ⟨be, 0, none⟩)] w fun e w' => e = .returned (.tuple #[]) ∧ OrdPost w w' B n bn bo be V rv rows g cap L [L] := by
  obtain ⟨i0, hi, hz0, hz1, hz2⟩ := info_parts Try.info34
  have cn : w.cell? ⟨bn, 0, none⟩ = some (.int .i64 n) := by simp [World.cell?, h.hn]
  have co : w.cell? ⟨bo, 0, none⟩ = some V := by simp [World.cell?, h.ho]
  have fo : w.frozen? ⟨bo, 0, none⟩ = false := by simp [World.frozen?, h.ho]
  have hrl : rv.length + 1 ≤ 1000000 := by rw [h.len]; exact hr
  have cl := Try.clone_calls g cap L B w.drew hL (by omega)
  have lo : bo < w.heap.size := (Array.getElem?_eq_some_iff.1 h.ho).1
  subst hn
  go_enter Try.func114, Try.ntmps114
  go_wp2
  go_region_law (first
    | (refine step_calls (by rfl) (.func 115) _ _ (by rfl) 115 #[] (by rfl) #[.slice (some ⟨g, 0, none⟩) L.length cap] (by simp [Act.eval, Act.put]) _ Try.func115 (by kernel_rfl) (by kernel_rfl) _ cl ?_; rintro x w1 ⟨hx, hb1⟩; obtain ⟨Ax, cx, rfl⟩ := own_slice hx; have c1 := (Below.cell hb1 (p := ⟨bo, 0, none⟩) (show bo < w.drew.heap.size from lo)).trans co; have c2 := ord_c2 (o := .cells #[Value.slice Ax L.length cx] 34) c1; have hone : ∀ u ∈ [Value.slice Ax L.length cx], u.oneCell' = true := own_one hx; have hbw : B ≤ (w1.alloc (.cells #[Value.slice Ax L.length cx] 34)).heap.size := ord_sz hBw hb1)
    | (refine step_append_lies _ (by rfl) _ _ _ (by rfl) B 34 i0 _ 1 24 Try.underlying105 hi hz0 hz1 hz2 rfl (by omega) V rv.length rv (by rfl) ((own_below (w := w.drew) h.own hb1).alloc _) ⟨w1.heap.size, 0, none⟩ 1 1 [Value.slice Ax L.length cx] (by rfl) (by rfl) (World.news_of_block (cs := #[Value.slice Ax L.length cx]) (t := 34) (fr := (0, 0)) (heap_alloc_new w1 _)) hone (by omega) (by unfold maxLen; omega) (by omega) hbw (w1.heap.size + 1) (by simp) ?_; intro gg cc w3 hown3 hgrow hat hlt3; have ho3 := ord_bo h hBw hb1 hgrow; have co3 : w3.cell? ⟨bo, 0, none⟩ = some V := (by simp [World.cell?, ho3]); have fo3 : w3.frozen? ⟨bo, 0, none⟩ = false := (by simp [World.frozen?, ho3])))
  all_goals
    go_wp2
    (try simp only [Exit.inBlock, Exit.then]); refine bodyPost_ret (results_none rfl _ _ _) rfl ?_
    have hp := ord_push (w := w.drew) (g := g) (cap := cap) (h.keep (w' := w.drew) (fun _ _ => rfl)) (own_keep (w' := w.drew) hL (fun _ _ => rfl)) hBw hb1 hx hown3 hgrow (hat.imp id (fun q => congrArg some q))
    refine ⟨rfl, _, [Value.slice Ax L.length cx], hp.1, fun y hy k hk => by
      obtain rfl := List.mem_singleton.1 hy
      exact (hx.lt k hk).1, hp.2.1, ⟨hp.2.2.os, hp.2.2.tape, hp.2.2.output, hp.2.2.size, hp.2.2.block⟩, ?_⟩
    rcases hat with q | q
    · exact .inl (q ▸ rfl)
    · exact .inr ⟨gg, rfl, by rw [q]; have : w.heap.size ≤ w1.heap.size := hb1.size; omega⟩
theorem own_prefix {w : World} {B g cap m : Nat} {xs : List Value} {x : Value} (hm : xs.length = m) (h : w.ownsRow B 2 1 (.slice (some ⟨g, 0, none⟩) (m + 1) cap) (m + 1) (xs ++ [x])) : w.ownsRow B 2 1 (.slice (some ⟨g, 0, none⟩) m cap) m xs := by
  refine ⟨by omega, ?_⟩
  rcases h.2 with ⟨q, _⟩ | ⟨g2, cap2, cur, hv, q2, q3, q4, q5, q6, q7⟩
  · cases q
  · obtain ⟨rfl, rfl⟩ : g = g2 ∧ cap = cap2 := by simpa using hv
    refine .inr ⟨g, cap, cur, rfl, q2, q3, by omega, q5, q6, ?_⟩
    have e1 : cur.toList.take (m * 1) = (cur.toList.take ((m + 1) * 1)).take (m * 1) := by rw [List.take_take, Nat.min_eq_left (by omega)]
    rw [e1, q7, List.take_append_of_le_length (by omega), List.take_of_length_le (by omega)]
theorem OrdPost.below {w w' w'' : World} {B n bn bo be : Nat} {V : Value} {rv : List Value} {rows : List (List Int)} {g cap : Nat} {L : List Int} {out : List (List Int)} (h : OrdPost w w' B n bn bo be V rv rows g cap L out)
    (hb : Below w'.heap.size w' w'') : OrdPost w w'' B n bn bo be V rv rows g cap L out := by
  obtain ⟨V1, new, h1, h2, h3, h4, h5⟩ := h
  exact ⟨V1, new, h1.keep hb.block, h2, own_below h3 hb, ⟨hb.os.trans h4.os, hb.tape.trans h4.tape, hb.output.trans h4.output, Nat.le_trans h4.size hb.size, fun k hk a1 a2 a3 => (hb.block k (Nat.lt_of_lt_of_le hk h4.size)).trans (h4.block k hk a1 a2 a3)⟩, h5⟩
theorem ord_app {w4 w5 : World} {B n bn bo be : Nat} {V : Value} {rv : List Value} {rows : List (List Int)} {g cap g' cap' : Nat} {L : List Int} {o : Obj} (h : OrdInv w4 B n bn bo be V rv rows)
    (hL : w4.ownsRow B 2 1 (.slice (some ⟨g, 0, none⟩) L.length cap) L.length (intV L)) (hsep : ∀ x, x ∈ rv → x.ownBlock ≠ some g)
    (hg : (w4.alloc o).grownBy w5 (some g)) (alt : (g' = g ∧ cap' = cap) ∨ (g' = w4.heap.size + 1 ∧ w5.heap[g]? = (w4.alloc o).heap[g]?)) :
    OrdInv w5 B n bn bo be V rv rows ∧ (∀ x, x ∈ rv → x.ownBlock ≠ some g') ∧ (∀ k, k < w4.heap.size → k ≠ g → w5.heap[k]? = w4.heap[k]?) ∧ w4.heap.size + 1 ≤ w5.heap.size := by
  have e1 : (w4.alloc o).heap.size = w4.heap.size + 1 := by simp
  have hb : ∀ k, k < w4.heap.size → k ≠ g → w5.heap[k]? = w4.heap[k]? := fun k hk hne => (hg.block k (by omega) (fun q => hne (Option.some.inj q))).trans (heap_alloc_old w4 o hk)
  have hgB := (hL.lt g rfl).1
  have l1 := h.lt.1
  have lt : ∀ {k : Nat} {o : Obj}, k ≠ g → w4.heap[k]? = some o → w5.heap[k]? = some o := fun {k o} hk q => (hb k (Array.getElem?_eq_some_iff.1 q).1 hk).trans q
  have ng : ∀ {b : Nat} {cs : Array Value} {t : TypeId} {fr : Nat × Nat}, w4.heap[b]? = some (.cells cs t fr) → 2 ≠ t → b ≠ g := fun hb hne q => own_ne hL hb hne (by rw [q]; rfl)
  refine ⟨⟨lt (by omega) h.hn, lt (ng h.ho (by decide)) h.ho, lt (ng h.he (by decide)) h.he, h.lt, own_keep h.own (fun k hk => hb k (h.own.lt k hk).2 (fun q => own_apart h.own hL (by decide) hk (by rw [q]; rfl))), h.len, fun i h1 h2 => own_keep (h.row i h1 h2) (fun k hk => hb k ((h.row i h1 h2).lt k hk).2 (fun q => hsep _ (List.getElem_mem h1) (by rw [hk, q])))⟩, ?_, hb, by have := hg.size; omega⟩
  intro x hx q
  rcases alt with ⟨rfl, _⟩ | ⟨rfl, _⟩
  · exact hsep x hx q
  · obtain ⟨i, hi, rfl⟩ := List.mem_iff_getElem.1 hx
    have := ((h.row i hi (by rw [← h.len]; exact hi)).lt _ q).2
    omega
theorem ord_comb {w w4 w5 w6 : World} {B n bn bo be : Nat} {V V1 : Value} {rv new : List Value} {rows out out2 : List (List Int)} {g cap g' cap' : Nat} {L : List Int} {o : Obj} {x : Int}
    (h1 : OrdInv w4 B n bn bo be V1 (rv ++ new) (rows ++ out)) (h2 : ∀ x, x ∈ new → ∀ k, x.ownBlock = some k → w.heap.size ≤ k) (h3 : w4.ownsRow B 2 1 (.slice (some ⟨g, 0, none⟩) L.length cap) L.length (intV L)) (h4 : OrdFr w w4 bo V g)
    (h5 : V1.ownBlock = V.ownBlock ∨ ∃ k, V1.ownBlock = some k ∧ w.heap.size ≤ k) (hsep : ∀ x, x ∈ rv ++ new → x.ownBlock ≠ some g)
    (hg : (w4.alloc o).grownBy w5 (some g)) (alt : (g' = g ∧ cap' = cap) ∨ (g' = w4.heap.size + 1 ∧ w5.heap[g]? = (w4.alloc o).heap[g]?))
    (hp : OrdPost w5 w6 B n bn bo be V1 (rv ++ new) (rows ++ out) g' cap' (L ++ [x]) out2) : OrdPost w w6 B n bn bo be V rv rows g cap L (out ++ out2) := by
  obtain ⟨a1, a2, a3, a4⟩ := ord_app h1 h3 hsep hg alt
  obtain ⟨V2, new2, p1, p2, p3, p4, p5⟩ := hp
  have hs := h4.size
  have hgl := h3.lt g rfl
  have hgo : g ≠ bo := fun q => own_ne h3 h1.ho (by decide) (by rw [← q]; rfl)
  have hV1 : some g ≠ V1.ownBlock := fun q => own_apart h1.own h3 (by decide) q.symm rfl
  refine ⟨V2, new ++ new2, by rw [← List.append_assoc, ← List.append_assoc]; exact p1, fun y hy k hk => ?_, ?_, ⟨p4.os.trans (hg.os.trans h4.os), p4.tape.trans (hg.tape.trans h4.tape), p4.output.trans (hg.output.trans h4.output), by have := p4.size; omega, fun k hk c1 c2 c3 => ?_⟩, ?_⟩
  · rcases List.mem_append.1 hy with q | q
    · exact h2 y q k hk
    · have := p2 y q k hk; omega
  · rcases alt with ⟨rfl, rfl⟩ | ⟨rfl, q⟩
    · rw [List.length_append, List.length_singleton] at p3
      refine own_prefix (x := .int .i64 x) (intV_len L) ?_
      unfold intV at p3 ⊢
      rw [List.map_append] at p3
      exact p3
    · refine own_keep h3 (fun k hk => ?_)
      obtain rfl : g = k := by simpa [Value.ownBlock] using hk
      rw [p4.block g (by omega) hgo hV1 (by omega), q]
      exact heap_alloc_old w4 o hgl.2
  · have e1 : some k ≠ V1.ownBlock := by
      rcases h5 with q | ⟨j, q, hj⟩
      · rw [q]; exact c2
      · rw [q]; intro e; have := Option.some.inj e; omega
    have e2 : k ≠ g' := by
      rcases alt with ⟨rfl, _⟩ | ⟨rfl, _⟩
      · exact c3
      · omega
    rw [p4.block k (by omega) c1 e1 e2, a3 k (by omega) c3]
    exact h4.block k hk c1 c2 c3
  · rcases p5 with q | ⟨j, q, hj⟩
    · rw [q]; exact h5
    · exact .inr ⟨j, q, by omega⟩
theorem ord_own5 {w : World} {B g cap : Nat} {L : List Int} {x : Int} (h : w.ownsRow B 2 1 (.slice (some ⟨g, 0, none⟩) (L.length + 1) cap) (L.length + 1) (intV L ++ [.int .i64 x])) : w.ownsRow B 2 1 (.slice (some ⟨g, 0, none⟩) (L ++ [x]).length cap) (L ++ [x]).length (intV (L ++ [x])) := by
  rw [List.length_append, List.length_singleton]
  unfold intV at h ⊢
  rw [List.map_append]
  exact h
theorem ord_ih {P : Program} {F : FuncId} {g cap : Nat} {L : List Int} {x : Int} {cs : List Value} {w : World} {R : World → Prop} (h : Calls P F (.slice (some ⟨g, 0, none⟩) (L ++ [x]).length cap :: cs).toArray w fun e w' => e = .returned (.tuple #[]) ∧ R w') :
    Calls P F (.slice (some ⟨g, 0, none⟩) (L.length + 1) cap :: cs).toArray w fun e w' => ∃ v, e = .returned v ∧ R w' := by
  rw [List.length_append, List.length_singleton] at h
  exact h.mono fun e w' ⟨a, b⟩ => ⟨_, a, b⟩
set_option maxHeartbeats 8000000 in
theorem Try.ord_calls (n bn bo be B : Nat) (h5 : n ≤ 5)
    (hCon : ∀ (W : World) (g cap : Nat) (L : List Int) (i : Int), W.ownsRow B 2 1 (.slice (some ⟨g, 0, none⟩) L.length cap) L.length (intV L) → L.length ≤ 5 → Calls Try.prog 116 #[.slice (some ⟨g, 0, none⟩) L.length cap, .int .i64 i] W fun e W' => e = .returned (.bool (L.contains i)) ∧ Below W.heap.size W W') :
    ∀ (d : Nat) (L : List Int) (g cap : Nat) (V : Value) (rv : List Value) (rows : List (List Int)) (w : World), OrdInv w B n bn bo be V rv rows →
      w.ownsRow B 2 1 (.slice (some ⟨g, 0, none⟩) L.length cap) L.length (intV L) → (∀ x, x ∈ rv → x.ownBlock ≠ some g) → B ≤ w.heap.size → L.length + d = n → rows.length + (ordF n d L).length ≤ 1000000 →
      Calls Try.prog 114 #[.slice (some ⟨g, 0, none⟩) L.length cap, .pointer (some ⟨bn, 0, none⟩), .pointer (some ⟨bo, 0, none⟩), .pointer (some ⟨be, 0, none⟩)] w fun e w' => e = .returned (.tuple #[]) ∧ OrdPost w w' B n bn bo be V rv rows g cap L (ordF n d L)
  | 0, L, g, cap, V, rv, rows, w, h, hL, hsep, hBw, hn, hr => Try.ord_zero n bn bo be B L g cap V rv rows w h hL hBw hn h5 hr
  | d + 1, L, g, cap, V, rv, rows, w, h, hL, hsep, hBw, hn, hr => by
    have cn : w.cell? ⟨bn, 0, none⟩ = some (.int .i64 n) := by simp [World.cell?, h.hn]
    have hne : L.length ≠ n := by omega
    go_enter Try.func114, Try.ntmps114
    go_wp2
    have hL5 : L.length ≤ 5 := by omega
    have hpre : ∀ k, k < n → ordF n (d + 1) L = ((List.range k).flatMap fun (i : Nat) => if L.contains (i : Int) then [] else ordF n d (L ++ [(i : Int)])) ++ ((if L.contains (k : Int) then [] else ordF n d (L ++ [(k : Int)])) ++ ((List.range' (k + 1) (n - (k + 1))).flatMap fun (i : Nat) => if L.contains (i : Int) then [] else ordF n d (L ++ [(i : Int)]))) := fun k hk => by
      have e : List.range n = List.range k ++ (k :: List.range' (k + 1) (n - (k + 1))) := by
        have e2 := @List.range'_append_1 0 k (n - (k + 1) + 1)
        rw [Nat.zero_add] at e2
        rw [List.range_eq_range', List.range_eq_range', ← List.range'_succ, e2]
        congr 1
        omega
      show (List.range n).flatMap _ = _
      rw [e, List.flatMap_append, List.flatMap_cons]
    have hnb : ((L.length : Int) == (n : Int)) = false := by simp; omega
    rw [hnb]
    clear hnb hne
    go_loopw [16] (fun i wr => ∃ k : Nat, k ≤ n ∧ i = .int .i64 k ∧ OrdPost w wr B n bn bo be V rv rows g cap L ((List.range k).flatMap fun (i : Nat) => if L.contains (i : Int) then [] else ordF n d (L ++ [(i : Int)])))
      (fun i _ => n - (intOf i).toNat)
    case atStart => exact ⟨0, Nat.zero_le _, rfl, V, [], by rw [List.append_nil]; simpa using h, (fun x hx => by cases hx), hL, ⟨rfl, rfl, rfl, Nat.le_refl _, fun _ _ _ _ _ => rfl⟩, .inl rfl⟩
    case round =>
      obtain ⟨k, hk, rfl, hp⟩ := hrel
      by_cases hlt : k < n
      · have hpk := hpre k hlt
        obtain ⟨V1, new, p1, p2, p3, p4, p5⟩ := id hp
        have hc := hCon wr g cap L k p3 hL5
        cases hcc : L.contains (k : Int) with
        | true =>
          rw [hcc] at hc
          go_wp2_with (go_at_call 116; refine hc.mono ?_; rintro e w4 ⟨rfl, hb4⟩)
          go_roundw
          case rel =>
            refine ⟨k + 1, by omega, by go_num, ?_⟩
            rw [List.range_succ, List.flatMap_append, List.flatMap_singleton, hcc, if_pos rfl, List.append_nil]
            exact hp.below hb4
          case measure => simp [intOf]; omega
        | false =>
          rw [hcc] at hc
          go_wp2_with (go_at_call 116; refine hc.mono ?_; rintro e w4 ⟨rfl, hb4⟩)
          obtain ⟨i0, hi, hz0, hz1, hz2⟩ := info_parts Try.info2
          have hp4 := OrdPost.below hp hb4
          have q1 := p1.keep hb4.block
          have q3 := own_below p3 hb4
          have q4 : OrdFr w w4 bo V g := ⟨hb4.os.trans p4.os, hb4.tape.trans p4.tape, hb4.output.trans p4.output, Nat.le_trans p4.size hb4.size, fun k hk a1 a2 a3 => (hb4.block k (Nat.lt_of_lt_of_le hk p4.size)).trans (p4.block k hk a1 a2 a3)⟩
          have hsep4 : ∀ x, x ∈ rv ++ new → x.ownBlock ≠ some g := fun x hx q => by
            rcases List.mem_append.1 hx with a | a
            · exact hsep x a q
            · have := p2 x a g q
              have := (hL.lt g rfl).2
              omega
          have ce : w4.cell? ⟨be, 0, none⟩ = some (.func (.func 114) #[] #[.pointer (some ⟨bn, 0, none⟩), .pointer (some ⟨bo, 0, none⟩), .pointer (some ⟨be, 0, none⟩)]) := by simp [World.cell?, q1.he]
          have ce2 := ord_c2 (w := w4) (o := .cells #[.int .i64 (k : Int)] 2) ce
          have hbw4 : B ≤ w4.heap.size := Nat.le_trans hBw q4.size
          have hH : (w4.drew.alloc (.cells #[.int .i64 (k : Int)] 2)).heap.size = w4.heap.size + 1 := by simp
          have hbw : B ≤ (w4.drew.alloc (.cells #[.int .i64 (k : Int)] 2)).heap.size := by omega
          have hnew : (w4.drew.alloc (.cells #[.int .i64 (k : Int)] 2)).cell? ((⟨w4.heap.size, 0, none⟩ : Addr).add 0) = some (.int .i64 (k : Int)) :=
            World.news_of_block (cs := #[.int .i64 (k : Int)]) (t := 2) (fr := (0, 0)) (heap_alloc_new w4.drew _) 0 _ rfl
          have hrows : (rows ++ (List.range k).flatMap fun (i : Nat) => if L.contains (i : Int) then [] else ordF n d (L ++ [(i : Int)])).length + (ordF n d (L ++ [(k : Int)])).length ≤ 1000000 := by
            rw [hpk, hcc, if_neg (by simp)] at hr
            simp only [List.length_append] at hr ⊢
            omega
          go_region_law (first
            | (refine step_append_keep (by rfl) _ _ _ (by rfl) B 2 i0 _ 8 Try.underlying34 hi hz0 hz1 hz2 rfl g L.length cap (intV L) (by rfl) ((own_keep (w' := w4.drew) q3 (fun _ _ => rfl)).alloc _) ⟨w4.heap.size, 0, none⟩ (.int .i64 (k : Int)) (by rfl) hnew rfl (by unfold maxLen; omega) (by omega) hbw (w4.heap.size + 1) hH ?_; intro g' cap' w5 hown5 hgrow5 alt5; have ha := ord_app (w4 := w4.drew) (q1.keep (w' := w4.drew) (fun _ _ => rfl)) (own_keep (w' := w4.drew) q3 (fun _ _ => rfl)) hsep4 hgrow5 alt5; have ce5 : w5.cell? ⟨be, 0, none⟩ = some (.func (.func 114) #[] #[.pointer (some ⟨bn, 0, none⟩), .pointer (some ⟨bo, 0, none⟩), .pointer (some ⟨be, 0, none⟩)]) := (by simp [World.cell?, ha.1.he]))
            | (refine step_calls (by rfl) _ _ _ (by rfl) 114 #[.pointer (some ⟨bn, 0, none⟩), .pointer (some ⟨bo, 0, none⟩), .pointer (some ⟨be, 0, none⟩)] (by simp [Act.eval, Act.put]) #[.slice (some ⟨g', 0, none⟩) (L.length + 1) cap', .pointer (some ⟨bn, 0, none⟩), .pointer (some ⟨bo, 0, none⟩), .pointer (some ⟨be, 0, none⟩)] (by simp [Act.eval, Act.put]) _ Try.func114 (by kernel_rfl) (by kernel_rfl) (fun v w6 => OrdPost w5 w6 B n bn bo be V1 (rv ++ new) (rows ++ (List.range k).flatMap fun (i : Nat) => if L.contains (i : Int) then [] else ordF n d (L ++ [(i : Int)])) g' cap' (L ++ [(k : Int)]) (ordF n d (L ++ [(k : Int)]))) (ord_ih (Try.ord_calls n bn bo be B h5 hCon d (L ++ [(k : Int)]) g' cap' V1 (rv ++ new) _ w5 ha.1 (ord_own5 hown5) ha.2.1 (Nat.le_trans hbw4 (Nat.le_trans (Nat.le_succ _) ha.2.2.2)) (by rw [List.length_append, List.length_singleton]; omega) hrows)) ?_; intro v w6 hp6))
          all_goals
            go_wp2
            go_roundw
            case rel =>
              refine ⟨k + 1, by omega, by go_num, ?_⟩
              rw [List.range_succ, List.flatMap_append, List.flatMap_singleton, hcc, if_neg (by simp)]
              exact ord_comb (w4 := w4.drew) (q1.keep (w' := w4.drew) (fun _ _ => rfl)) p2 (own_keep (w' := w4.drew) q3 (fun _ _ => rfl)) ⟨q4.os, q4.tape, q4.output, q4.size, q4.block⟩ p5 hsep4 hgrow5 alt5 hp6
            case measure => simp [intOf]; omega
      · have hk2 : k = n := by omega
        subst hk2
        go_wp2
        go_end0
        exact ⟨rfl, hp⟩
def OwnRows (w : World) (B : Nat) (V : Value) (rows : List (List Int)) : Prop :=
  ∃ rv : List Value, rv.length = rows.length ∧ w.ownsRow B 34 1 V rv.length rv ∧ ∀ i (h : i < rv.length) (h' : i < rows.length), w.ownsRow B 2 1 rv[i] rows[i].length (intV rows[i])
abbrev ordF0 (w : World) : Value := .func (.func 114) #[] #[.pointer (some ⟨w.heap.size, 0, none⟩), .pointer (some ⟨w.heap.size + 1 + 1, 0, none⟩), .pointer (some ⟨w.heap.size + 1 + 1 + 1, 0, none⟩)]
abbrev ordW1 (w : World) (n : Nat) : World := (((w.alloc (.cells #[.int .i64 (n : Int)] 2)).alloc (.cells #[] 34)).alloc (.cells #[.slice (some ⟨w.heap.size + 1, 0, none⟩) 0 0] 105)).alloc (.cells #[.nilFunc] 138)
abbrev ordW3 (w : World) (n : Nat) : World := ((((w.alloc (.cells #[.int .i64 (n : Int)] 2)).alloc (.cells #[] 34)).alloc (.cells #[.slice (some ⟨w.heap.size + 1, 0, none⟩) 0 0] 105)).alloc (.cells #[ordF0 w] 138)).alloc (.cells #[] 2)
theorem ord_w1 (w : World) (n : Nat) : (ordW1 w n).heap.size = w.heap.size + 4 ∧ (∀ k, k < w.heap.size → (ordW1 w n).heap[k]? = w.heap[k]?) ∧ (ordW1 w n).heap[w.heap.size]? = some (.cells #[.int .i64 (n : Int)] 2 (0, 0)) ∧ (ordW1 w n).heap[w.heap.size + 1]? = some (.cells #[] 34 (0, 0)) ∧
    (ordW1 w n).heap[w.heap.size + 1 + 1]? = some (.cells #[.slice (some ⟨w.heap.size + 1, 0, none⟩) 0 0] 105 (0, 0)) ∧ (ordW1 w n).heap[w.heap.size + 1 + 1 + 1]? = some (.cells #[.nilFunc] 138 (0, 0)) := by
  have e : (ordW1 w n).heap = (((w.heap.push (.cells #[.int .i64 (n : Int)] 2)).push (.cells #[] 34)).push (.cells #[.slice (some ⟨w.heap.size + 1, 0, none⟩) 0 0] 105)).push (.cells #[.nilFunc] 138) := rfl
  rw [e]
  refine ⟨by simp, fun k hk => ?_, ?_, ?_, ?_, ?_⟩
  · rw [Array.getElem?_push, if_neg (by simp <;> omega), Array.getElem?_push, if_neg (by simp <;> omega), Array.getElem?_push, if_neg (by simp <;> omega), Array.getElem?_push, if_neg (by omega)]
  · rw [Array.getElem?_push, if_neg (by simp <;> omega), Array.getElem?_push, if_neg (by simp <;> omega), Array.getElem?_push, if_neg (by simp), Array.getElem?_push, if_pos rfl]
  · rw [Array.getElem?_push, if_neg (by simp <;> omega), Array.getElem?_push, if_neg (by simp), Array.getElem?_push, if_pos (by simp)]
  · rw [Array.getElem?_push, if_neg (by simp), Array.getElem?_push, if_pos (by simp)]
  · rw [Array.getElem?_push, if_pos (by simp)]
theorem ord_start (w : World) (n : Nat) : OrdInv (ordW3 w n) (w.heap.size + 1) n w.heap.size (w.heap.size + 1 + 1) (w.heap.size + 1 + 1 + 1) (.slice (some ⟨w.heap.size + 1, 0, none⟩) 0 0) [] [] ∧
    (ordW3 w n).ownsRow (w.heap.size + 1) 2 1 (.slice (some ⟨w.heap.size + 1 + 1 + 1 + 1, 0, none⟩) 0 0) 0 [] ∧ Below w.heap.size w (ordW3 w n) ∧ (ordW3 w n).heap.size = w.heap.size + 5 := by
  have e : (ordW3 w n).heap = ((((w.heap.push (.cells #[.int .i64 (n : Int)] 2)).push (.cells #[] 34)).push (.cells #[.slice (some ⟨w.heap.size + 1, 0, none⟩) 0 0] 105)).push (.cells #[ordF0 w] 138)).push (.cells #[] 2) := rfl
  have k0 : ∀ k, k < w.heap.size → (ordW3 w n).heap[k]? = w.heap[k]? := fun k hk => by
    rw [e, Array.getElem?_push, if_neg (by simp <;> omega), Array.getElem?_push, if_neg (by simp <;> omega), Array.getElem?_push, if_neg (by simp <;> omega), Array.getElem?_push, if_neg (by simp <;> omega), Array.getElem?_push, if_neg (by omega)]
  have k1 : (ordW3 w n).heap[w.heap.size]? = some (.cells #[.int .i64 (n : Int)] 2 (0, 0)) := by
    rw [e, Array.getElem?_push, if_neg (by simp <;> omega), Array.getElem?_push, if_neg (by simp <;> omega), Array.getElem?_push, if_neg (by simp <;> omega), Array.getElem?_push, if_neg (by simp), Array.getElem?_push, if_pos rfl]
  have k2 : (ordW3 w n).heap[w.heap.size + 1]? = some (.cells #[] 34 (0, 0)) := by
    rw [e, Array.getElem?_push, if_neg (by simp <;> omega), Array.getElem?_push, if_neg (by simp <;> omega), Array.getElem?_push, if_neg (by simp), Array.getElem?_push, if_pos (by simp)]
  have k3 : (ordW3 w n).heap[w.heap.size + 1 + 1]? = some (.cells #[.slice (some ⟨w.heap.size + 1, 0, none⟩) 0 0] 105 (0, 0)) := by
    rw [e, Array.getElem?_push, if_neg (by simp <;> omega), Array.getElem?_push, if_neg (by simp), Array.getElem?_push, if_pos (by simp)]
  have k4 : (ordW3 w n).heap[w.heap.size + 1 + 1 + 1]? = some (.cells #[ordF0 w] 138 (0, 0)) := by
    rw [e, Array.getElem?_push, if_neg (by simp), Array.getElem?_push, if_pos (by simp)]
  have k5 : (ordW3 w n).heap[w.heap.size + 1 + 1 + 1 + 1]? = some (.cells #[] 2 (0, 0)) := by
    rw [e, Array.getElem?_push, if_pos (by simp)]
  have z2 : (ordW3 w n).heap.size = w.heap.size + 5 := by rw [e]; simp
  refine ⟨⟨k1, k3, k4, ⟨by omega, by omega, by omega, by omega⟩, ⟨rfl, .inr ⟨w.heap.size + 1, 0, #[], rfl, Nat.le_refl _, k2, Nat.le_refl _, by unfold maxLen; omega, rfl, rfl⟩⟩, rfl, fun i h => by cases h⟩, ⟨rfl, .inr ⟨w.heap.size + 1 + 1 + 1 + 1, 0, #[], rfl, by omega, k5, Nat.le_refl _, by unfold maxLen; omega, rfl, rfl⟩⟩, ⟨rfl, rfl, rfl, by omega, k0⟩, z2⟩
set_option maxHeartbeats 8000000 in
theorem Try.orders_calls (n : Nat) (h5 : n ≤ 5) (hT : (ordF n n []).length ≤ 1000000) (B : Nat)
    (hCon : ∀ (W : World) (g cap : Nat) (L : List Int) (i : Int), W.ownsRow B 2 1 (.slice (some ⟨g, 0, none⟩) L.length cap) L.length (intV L) → L.length ≤ 5 → Calls Try.prog 116 #[.slice (some ⟨g, 0, none⟩) L.length cap, .int .i64 i] W fun e W' => e = .returned (.bool (L.contains i)) ∧ Below W.heap.size W W')
    (w : World) (hBw : B = w.heap.size + 1) :
    Calls Try.prog 82 #[.int .i64 n] w fun e w' => ∃ V, e = .returned V ∧ OwnRows w' w.heap.size V (ordF n n []) ∧ Below w.heap.size w w' := by
  obtain ⟨s0, s1, s2, s3, s4, s5⟩ := ord_w1 w n
  have c1 : (ordW1 w n).cell? ⟨w.heap.size + 1 + 1 + 1, 0, none⟩ = some .nilFunc := by simp only [World.cell?, s5]; rfl
  have f1 : (ordW1 w n).frozen? ⟨w.heap.size + 1 + 1 + 1, 0, none⟩ = false := by simp only [World.frozen?, s5]; rfl
  unfold ordW1 at c1 f1
  obtain ⟨t1, t2, t3, t4⟩ := ord_start w n
  subst hBw
  have hc := Try.ord_calls n w.heap.size (w.heap.size + 1 + 1) (w.heap.size + 1 + 1 + 1) (w.heap.size + 1) h5 hCon n [] (w.heap.size + 1 + 1 + 1 + 1) 0 _ [] [] (ordW3 w n) t1 t2 (fun x hx => by cases hx) (by omega) (by simp) (by simpa using hT)
  go_enter Try.func82, Try.ntmps82
  go_wp2_with (go_at_call 114; refine hc.mono ?_; rintro e w5 ⟨rfl, V', new, p1, p2, p3, p4, p5⟩; have co : w5.cell? ⟨w.heap.size + 1 + 1, 0, none⟩ = some V' := (by simp [World.cell?, p1.ho]))
  go_ret
  simp only [List.nil_append] at p1
  refine ⟨V', rfl, ⟨new, p1.len, own_mono p1.own (by omega), fun i h h' => own_mono (p1.row i h h') (by omega)⟩, p4.os.trans t3.os, p4.tape.trans t3.tape, p4.output.trans t3.output, by have := p4.size; omega, fun k hk => ?_⟩
  rw [p4.block k (by omega) (by omega) (by simp [Value.ownBlock]; omega) (by omega)]
  exact t3.block k hk
def OwnR (w : World) (B : Nat) (v : Value) (xs : List Int) : Prop := ∃ A cap, v = .slice A xs.length cap ∧ xs.length ≤ cap ∧ (0 < xs.length → ∃ b o, A = some ⟨b, o, none⟩ ∧ b < w.heap.size ∧ ∀ i (h : i < xs.length), w.cell? ⟨b, o + i, none⟩ = some (.int .i64 xs[i])) ∧
  (0 < cap → ∃ b o arr e, A = some ⟨b, o, none⟩ ∧ B ≤ b ∧ w.heap[b]? = some (.cells arr e (0, 0)) ∧ o + cap ≤ arr.size)
def OrdersR (w : World) (B : Nat) (V : Value) (rows : List (List Int)) : Prop := ∃ A cap, V = .slice A rows.length cap ∧ ∀ i (h : i < rows.length), ∃ b o x, A = some ⟨b, o, none⟩ ∧ b < w.heap.size ∧ w.cell? ⟨b, o + i, none⟩ = some x ∧ OwnR w B x rows[i]
theorem OwnR.below {w w' : World} {B : Nat} {v : Value} {xs : List Int} (h : OwnR w B v xs) (hb : Below w.heap.size w w') : OwnR w' B v xs := by
  obtain ⟨A, cap, e, h1, h2, h3⟩ := h
  refine ⟨A, cap, e, h1, fun q => ?_, fun q => ?_⟩
  · obtain ⟨b, o, e1, e2, e3⟩ := h2 q
    exact ⟨b, o, e1, Nat.lt_of_lt_of_le e2 hb.size, fun i hi => (Below.cell hb (p := ⟨b, o + i, none⟩) e2).trans (e3 i hi)⟩
  · obtain ⟨b, o, arr, e', e1, e2, e3, e4⟩ := h3 q
    exact ⟨b, o, arr, e', e1, e2, (hb.block b (Array.getElem?_eq_some_iff.1 e3).1).trans e3, e4⟩
theorem OwnR.le {w : World} {B C : Nat} {v : Value} {xs : List Int} (h : OwnR w C v xs) (hb : B ≤ C) : OwnR w B v xs := by
  obtain ⟨A, cap, e, h1, h2, h3⟩ := h
  refine ⟨A, cap, e, h1, h2, fun q => ?_⟩
  obtain ⟨b, o, arr, e', e1, e2, e3⟩ := h3 q
  exact ⟨b, o, arr, e', e1, Nat.le_trans hb e2, e3⟩
theorem OrdersR.below {w w' : World} {B : Nat} {v : Value} {rows : List (List Int)} (h : OrdersR w B v rows) (hb : Below w.heap.size w w') : OrdersR w' B v rows := by
  obtain ⟨A, cap, e, h2⟩ := h
  refine ⟨A, cap, e, fun i hi => ?_⟩
  obtain ⟨b, o, x, e1, e2, e3, e4⟩ := h2 i hi
  exact ⟨b, o, x, e1, Nat.lt_of_lt_of_le e2 hb.size, (Below.cell hb (p := ⟨b, o + i, none⟩) e2).trans e3, e4.below hb⟩
theorem OrdersR.le {w : World} {B C : Nat} {v : Value} {rows : List (List Int)} (h : OrdersR w C v rows) (hb : B ≤ C) : OrdersR w B v rows := by
  obtain ⟨A, cap, e, h2⟩ := h
  refine ⟨A, cap, e, fun i hi => ?_⟩
  obtain ⟨b, o, x, e1, e2, e3, e4⟩ := h2 i hi
  exact ⟨b, o, x, e1, e2, e3, e4.le hb⟩
theorem ownR_of {w : World} {B : Nat} {v : Value} {xs : List Int} (h : w.ownsRow B 2 1 v xs.length (intV xs)) : OwnR w B v xs := by
  rcases h.2 with ⟨rfl, q⟩ | ⟨g, cap, cur, rfl, q2, q3, q4, q5, q6, q7⟩
  · have hx : xs = [] := List.eq_nil_of_length_eq_zero q
    subst hx
    exact ⟨none, 0, rfl, Nat.le_refl _, fun q => absurd q (by simp), fun q => absurd q (by simp)⟩
  · refine ⟨_, cap, rfl, q4, fun _ => ⟨g, 0, rfl, (Array.getElem?_eq_some_iff.1 q3).1, fun i hi => ?_⟩, fun _ => ⟨g, 0, cur, 2, rfl, q2, q3, by omega⟩⟩
    have := h.cells (g := g) rfl i (.int .i64 xs[i]) (by unfold intV; rw [List.getElem?_map, List.getElem?_eq_getElem hi]; rfl)
    rw [show (⟨g, 0 + i, none⟩ : Addr) = (⟨g, 0, none⟩ : Addr).add i from by unfold Addr.add; simp]
    exact this
theorem ordersR_of {w : World} {B : Nat} {V : Value} {rows : List (List Int)} (h : OwnRows w B V rows) : OrdersR w B V rows := by
  obtain ⟨rv, h1, h2, h3⟩ := h
  have hc : ∀ g, V.ownBlock = some g → ∀ i (hi : i < rv.length), w.cell? ⟨g, 0 + i, none⟩ = some rv[i] := fun g hg i hi => by
    have := h2.cells hg i rv[i] (List.getElem?_eq_getElem hi)
    rw [show (⟨g, 0 + i, none⟩ : Addr) = (⟨g, 0, none⟩ : Addr).add i from by unfold Addr.add; simp]
    exact this
  rcases h2.2 with ⟨rfl, q⟩ | ⟨g, cap, cur, rfl, q2, q3, _⟩
  · exact ⟨none, 0, by rw [← h1, q], fun i hi => by omega⟩
  · refine ⟨_, cap, by rw [h1], fun i hi => ⟨g, 0, rv[i], rfl, (Array.getElem?_eq_some_iff.1 q3).1, hc g rfl i (by omega), ownR_of (h3 i (by omega) hi)⟩⟩
def btStep (f : List Int → Int × Int) (st : List Int × Int) (o : List Int) : List Int × Int := if (f o).2 = 0 ∧ (st.2 < 0 ∨ (f o).1 < st.2) then (o, (f o).1) else st
def btAll (f : List Int → Int × Int) (perms : List (List Int)) : List Int × Int := perms.foldl (btStep f) ([], -1)
def btRes (code : Int) (st : List Int × Int) : List Int × Int × Int := if code = 0 then (if st.2 < 0 then ([], 0, 6) else (st.1, st.2, 0)) else ([], 0, code)
theorem bt_take (f : List Int → Int × Int) (perms : List (List Int)) {k : Nat} (h : k < perms.length) : (perms.take (k + 1)).foldl (btStep f) ([], -1) = btStep f ((perms.take k).foldl (btStep f) ([], -1)) perms[k] := by
  rw [List.take_succ_eq_append_getElem h, List.foldl_append]
  rfl
def RowB (w : World) (A : Option Addr) (l : List (Int × Int)) : Prop := 0 < l.length → ∃ b o, A = some ⟨b, o, none⟩ ∧ b < w.heap.size ∧
  ∀ i (h : i < l.length), w.cell? ⟨b, o + i * 2, none⟩ = some (.int .u8 l[i].1) ∧ w.cell? ⟨b, o + i * 2 + 1, none⟩ = some (.int .i16 l[i].2)
theorem ownR_nil (w : World) (B : Nat) : OwnR w B (.slice none 0 0) [] := ⟨none, 0, rfl, Nat.le_refl _, fun q => absurd q (by simp), fun q => absurd q (by simp)⟩
theorem ownR_made (w : World) (B : Nat) (a : Addr) : OwnR w B (.slice (some a) 0 0) [] := ⟨_, 0, rfl, Nat.le_refl _, fun q => absurd q (by simp), fun q => absurd q (by simp)⟩
theorem bt_end {r q : List Int × Int × Int} {bv : Value} {e : Ending} (h : r = q) (he : e = .returned (.tuple #[bv, .int .i64 q.2.1, .int .i64 q.2.2])) : e = .returned (.tuple #[bv, .int .i64 r.2.1, .int .i64 r.2.2]) := by
  rw [h]; exact he
theorem bt_own {r q : List Int × Int × Int} {bv : Value} {w : World} {B : Nat} (h : r = q) (ho : OwnR w B bv q.1) : OwnR w B bv r.1 := by
  rw [h]; exact ho
set_option maxHeartbeats 8000000 in
theorem Try.bt_spec (v0 : Value) (A2 : Option Addr) (c2 : Nat) (wanted : List (Int × Int)) (slack : Int) (w : World) (perms : List (List Int)) (f : List Int → Int × Int) (code : Int)
    (hC : Calls Try.prog 73 #[v0, .slice A2 wanted.length c2, .int .i64 slack] w fun e w' => e = .returned (.int .i64 code) ∧ Below w.heap.size w w') (hw : wanted.length ≤ 1073741824)
    (hO : code = 0 → wanted.length ≤ 5 → ∀ w' a, Below w.heap.size w w' → Calls Try.prog 81 #[.int .i64 wanted.length, .slice (some a) 0 0] w' fun e w'' => ∃ V, e = .returned V ∧ OrdersR w'' w'.heap.size V perms ∧ Below w'.heap.size w' w'')
    (hE : code = 0 → wanted.length ≤ 5 → ∀ o, o ∈ perms → ∀ w' v, Below w.heap.size w w' → OwnR w' w.heap.size v o → Calls Try.prog 78 #[v0, .slice A2 wanted.length c2, v, .int .i64 slack] w' fun e w'' => ∃ a b, e = .returned (.tuple #[a, b, .int .i64 (f o).1, .int .i64 (f o).2]) ∧ Below w'.heap.size w' w'')
    (hp : wanted.length ≤ 5 → perms.length ≤ 1000000) :
    Calls Try.prog 39 #[v0, .slice A2 wanted.length c2, .int .i64 slack] w fun e w' => ∃ bv, e = .returned (.tuple #[bv, .int .i64 (btRes (if code = 0 ∧ wanted.length > 5 then 3 else code) (btAll f perms)).2.1, .int .i64 (btRes (if code = 0 ∧ wanted.length > 5 then 3 else code) (btAll f perms)).2.2]) ∧
      OwnR w' w.heap.size bv (btRes (if code = 0 ∧ wanted.length > 5 then 3 else code) (btAll f perms)).1 ∧ Below w.heap.size w w' := by
  by_cases c0 : code = 0
  · subst c0
    by_cases c5 : wanted.length ≤ 5
    · have c6 : ¬ ((wanted.length : Int) > 5) := by omega
      rw [if_neg (show ¬ ((0 : Int) = 0 ∧ wanted.length > 5) by omega)]
      have hp := hp c5
      have hO1 := hO rfl c5
      have hE1 := hE rfl c5
      go_enter Try.func39, Try.ntmps39
      go_wp2_with (go_at_call 73; refine hC.mono ?_; rintro e w1 ⟨rfl, hb1⟩)
      have hbX : Below w.heap.size w ((w1.alloc (.cells #[] 2)).alloc (.cells #[] 2)) := (hb1.alloc hb1.size _).alloc (Nat.le_trans hb1.size (by simp)) _
      have hXs : w.heap.size ≤ ((w1.alloc (.cells #[] 2)).alloc (.cells #[] 2)).heap.size := hbX.size
      refine (hO1 _ _ hbX).mono ?_
      rintro e w2 ⟨V, rfl, ho2, hb2⟩
      rw [show decide ((5 : Int) < (wanted.length : Int)) = false from decide_eq_false (by omega)]
      have ho3 := OrdersR.le ho2 hXs
      have hb3 : Below w.heap.size w w2 := hbX.trans (hb2.mono hXs)
      obtain ⟨A, cap, rfl, hrow⟩ := id ho3
      clear hO hE hO1 hC ho2
      go_wp2
      go_loopw [10, 11, 13] (fun bv least i wr => ∃ k : Nat, k ≤ perms.length ∧ i = .int .i64 k ∧ least = .int .i64 ((perms.take k).foldl (btStep f) ([], -1)).2 ∧ OwnR wr w.heap.size bv ((perms.take k).foldl (btStep f) ([], -1)).1 ∧ Below w2.heap.size w2 wr)
        (fun bv least i _ => perms.length - (intOf i).toNat)
      case atStart => exact ⟨0, Nat.zero_le _, rfl, rfl, ownR_made _ _ _, Below.refl _ _⟩
      case round =>
        obtain ⟨k, hk, rfl, rfl, hbv, hx⟩ := hrel
        have hbr : Below w.heap.size w wr := hb3.trans (hx.mono hb3.size)
        by_cases hlt : k < perms.length
        · obtain ⟨b, o, x, rfl, hbl, hcx, hox⟩ := hrow k hlt
          have f1 : wr.cell? ⟨b, o + k, none⟩ = some x := (Below.cell hx (p := ⟨b, o + k, none⟩) hbl).trans hcx
          have hoxr := hox.below hx
          have hcE := hE1 _ (List.getElem_mem hlt) wr x hbr hoxr
          obtain ⟨Ax, cx, rfl, hxx⟩ := id hoxr
          have ht := bt_take f perms hlt
          generalize hst : (perms.take k).foldl (btStep f) ([], -1) = st at *
          obtain ⟨sl, sv⟩ := st
          generalize hfv : f perms[k] = fv at *
          obtain ⟨fs, fc⟩ := fv
          have hs : btStep f (sl, sv) perms[k] = if fc = 0 ∧ (sv < 0 ∨ fs < sv) then (perms[k], fs) else (sl, sv) := by
            unfold btStep
            rw [hfv]
          rw [hs] at ht
          by_cases c1 : fc = 0
          · subst c1
            by_cases c2 : sv < 0
            · rw [if_pos ⟨rfl, .inl c2⟩] at ht
              go_wp2_with (go_at_call 78; refine hcE.mono ?_; rintro e w3 ⟨ra, rb, rfl, hb4⟩; have f2 := (Below.cell hb4 (p := ⟨b, o + k, none⟩) (Nat.lt_of_lt_of_le hbl hx.size)).trans f1)
              go_roundw
              case rel => exact ⟨k + 1, by omega, by go_num, by rw [ht], by rw [ht]; exact hoxr.below hb4, hx.trans (hb4.mono hx.size)⟩
              case measure => simp [intOf]; omega
            · by_cases c3 : fs < sv
              · rw [if_pos ⟨rfl, .inr c3⟩] at ht
                go_wp2_with (go_at_call 78; refine hcE.mono ?_; rintro e w3 ⟨ra, rb, rfl, hb4⟩; have f2 := (Below.cell hb4 (p := ⟨b, o + k, none⟩) (Nat.lt_of_lt_of_le hbl hx.size)).trans f1)
                go_roundw
                case rel => exact ⟨k + 1, by omega, by go_num, by rw [ht], by rw [ht]; exact hoxr.below hb4, hx.trans (hb4.mono hx.size)⟩
                case measure => simp [intOf]; omega
              · rw [if_neg (by omega)] at ht
                go_wp2_with (go_at_call 78; refine hcE.mono ?_; rintro e w3 ⟨ra, rb, rfl, hb4⟩)
                go_roundw
                case rel => exact ⟨k + 1, by omega, by go_num, by rw [ht], by rw [ht]; exact hbv.below hb4, hx.trans (hb4.mono hx.size)⟩
                case measure => simp [intOf]; omega
          · rw [if_neg (by omega)] at ht
            go_wp2_with (go_at_call 78; refine hcE.mono ?_; rintro e w3 ⟨ra, rb, rfl, hb4⟩)
            go_roundw
            case rel => exact ⟨k + 1, by omega, by go_num, by rw [ht], by rw [ht]; exact hbv.below hb4, hx.trans (hb4.mono hx.size)⟩
            case measure => simp [intOf]; omega
        · have hk2 : k = perms.length := by omega
          subst hk2
          rw [List.take_length] at hbv ⊢
          rcases hst : perms.foldl (btStep f) ([], -1) with ⟨sl, sv⟩
          rw [hst] at hbv
          obtain ⟨Ab, cb, rfl, hbb⟩ := id hbv
          by_cases c2 : sv < 0
          · have hR : btRes 0 (btAll f perms) = ([], 0, 6) := by
              unfold btAll btRes
              rw [hst, if_pos rfl, if_pos c2]
            go_wp2
            go_ret3
            exact ⟨_, rfl, ownR_made _ _ _, hbr.alloc hbr.size _⟩
          · have hR : btRes 0 (btAll f perms) = (sl, sv, 0) := by
              unfold btAll btRes
              rw [hst, if_pos rfl, if_neg c2]
            go_wp2
            go_ret3
            exact ⟨_, rfl, hbv, hbr⟩
    · have hres : (if (0 : Int) = 0 ∧ wanted.length > 5 then (3 : Int) else 0) = 3 := if_pos ⟨rfl, by omega⟩
      rw [hres]
      have c6 : (5 : Int) < (wanted.length : Int) := by omega
      clear hO hE
      go_enter Try.func39, Try.ntmps39
      go_wp2_with (go_at_call 73; refine hC.mono ?_; rintro e w1 ⟨rfl, hb1⟩)
      go_ret3
      exact ⟨_, rfl, ownR_made _ _ _, hb1.alloc hb1.size _⟩
  · have hres : (if code = 0 ∧ wanted.length > 5 then (3 : Int) else code) = code := if_neg (fun q => c0 q.1)
    rw [hres]
    unfold btRes
    rw [if_neg c0]
    clear hO hE
    go_enter Try.func39, Try.ntmps39
    go_wp2_with (go_at_call 73; refine hC.mono ?_; rintro e w1 ⟨rfl, hb1⟩)
    go_ret3
    exact ⟨_, rfl, ownR_made _ _ _, hb1.alloc hb1.size _⟩
theorem Try.info50 : (Try.prog.info? 50).map (fun i => (i.zero, i.size, i.bytes)) = some (some (.agg #[.int .u8 0, .int .i16 0]), 2, 4) := by kernel_rfl
def botC (l : List (Int × Int)) : List Value := l.flatMap fun b => [.int .u8 b.1, .int .i16 b.2]
theorem botC_at : ∀ (l : List (Int × Int)) (i : Nat) (h : i < l.length), (botC l)[i * 2]? = some (.int .u8 l[i].1) ∧ (botC l)[i * 2 + 1]? = some (.int .i16 l[i].2)
  | [], i, h => by cases h
  | x :: l, 0, h => ⟨rfl, rfl⟩
  | x :: l, i + 1, h => by
    have := botC_at l i (by simpa using h)
    have e1 : (i + 1) * 2 = i * 2 + 1 + 1 := by omega
    have e2 : (i + 1) * 2 + 1 = (i * 2 + 1) + 1 + 1 := by omega
    rw [e2, e1]
    exact this
theorem rowB_of {w : World} {B : Nat} {v : Value} {l : List (Int × Int)} (h : w.ownsRow B 50 2 v l.length (botC l)) : ∃ A cap, v = .slice A l.length cap ∧ l.length ≤ cap ∧ RowB w A l := by
  rcases h.2 with ⟨rfl, q⟩ | ⟨g, cap, cur, rfl, q2, q3, q4, _⟩
  · exact ⟨none, 0, by rw [q], by omega, fun h0 => by omega⟩
  · refine ⟨_, cap, rfl, q4, fun _ => ⟨g, 0, rfl, (Array.getElem?_eq_some_iff.1 q3).1, fun i hi => ?_⟩⟩
    obtain ⟨e1, e2⟩ := botC_at l i hi
    have ea : ∀ j, (⟨g, 0 + j, none⟩ : Addr) = (⟨g, 0, none⟩ : Addr).add j := fun j => by unfold Addr.add; simp
    exact ⟨by rw [ea]; exact h.cells (g := g) rfl _ _ e1, by rw [show 0 + i * 2 + 1 = 0 + (i * 2 + 1) by omega, ea]; exact h.cells (g := g) rfl _ _ e2⟩
def turnL (wanted : List (Int × Int)) (o : List Int) : List (Int × Int) := o.map fun i => wanted.getD i.toNat (0, 0)
set_option maxHeartbeats 8000000 in
theorem Try.bt_impl (v0 : Value) (A2 : Option Addr) (c2 : Nat) (wanted : List (Int × Int)) (slack : Int) (w : World) (perms : List (List Int)) (f : List (Int × Int) → Int × Int) (okR okB okS : Bool) (code : Int) (hok : code = 0 → okR = true) (hwB : RowB w A2 wanted) (hw : wanted.length ≤ 1073741824)
    (hR : Calls Try.prog 66 #[v0] w fun e w' => e = .returned (.bool okR) ∧ Below w.heap.size w w')
    (hA : ∀ w', Below w.heap.size w w' → Calls Try.prog 79 #[.slice A2 wanted.length c2] w' fun e w'' => e = .returned (.bool okB) ∧ Below w'.heap.size w' w'')
    (hS : ∀ w', Below w.heap.size w w' → Calls Try.prog 61 #[.int .i64 slack] w' fun e w'' => e = .returned (.bool okS) ∧ Below w'.heap.size w' w'')
    (hC : ∀ w', Below w.heap.size w w' → Calls Try.prog 59 #[.bool (okR && okB), .bool okS] w' fun e w'' => e = .returned (.int .i64 code) ∧ Below w'.heap.size w' w'')
    (hO : code = 0 → wanted.length ≤ 5 → ∀ w', Below w.heap.size w w' → Calls Try.prog 82 #[.int .i64 wanted.length] w' fun e w'' => ∃ V, e = .returned V ∧ OrdersR w'' w'.heap.size V perms ∧ Below w'.heap.size w' w'')
    (hT : code = 0 → wanted.length ≤ 5 → ∀ o, o ∈ perms → ∀ w' A' c', Below w.heap.size w w' → (turnL wanted o).length ≤ c' → RowB w' A' (turnL wanted o) → Calls Try.prog 80 #[v0, .slice A' (turnL wanted o).length c', .int .i64 slack] w' fun e w'' => ∃ a b, e = .returned (.tuple #[a, b, .int .i64 (f (turnL wanted o)).1, .int .i64 (f (turnL wanted o)).2]) ∧ Below w'.heap.size w' w'')
    (hp : wanted.length ≤ 5 → perms.length ≤ 1000000) (hpm : wanted.length ≤ 5 → ∀ o, o ∈ perms → o.length ≤ 5 ∧ ∀ x, x ∈ o → 0 ≤ x ∧ x < wanted.length) :
    Calls Try.prog 40 #[v0, .slice A2 wanted.length c2, .int .i64 slack] w fun e w' => ∃ bv, e = .returned (.tuple #[bv, .int .i64 (btRes (if code = 0 ∧ wanted.length > 5 then 3 else code) (btAll (fun o => f (turnL wanted o)) perms)).2.1, .int .i64 (btRes (if code = 0 ∧ wanted.length > 5 then 3 else code) (btAll (fun o => f (turnL wanted o)) perms)).2.2]) ∧
      OwnR w' w.heap.size bv (btRes (if code = 0 ∧ wanted.length > 5 then 3 else code) (btAll (fun o => f (turnL wanted o)) perms)).1 ∧ Below w.heap.size w w' := by
  by_cases c0 : code = 0
  · subst c0
    by_cases c5 : wanted.length ≤ 5
    · rw [if_neg (show ¬ ((0 : Int) = 0 ∧ wanted.length > 5) by omega)]
      have hp := hp c5
      have hpm := hpm c5
      have hO1 := hO rfl c5
      have hT1 := hT rfl c5
      cases okR with
      | true =>
        rw [Bool.true_and] at hC
        go_enter Try.func40, Try.ntmps40
        go_wp2_with (first
          | (go_at_call 66; refine hR.mono ?_; rintro e w1 ⟨rfl, hb1⟩)
          | (go_at_call 79; refine (hA _ hb1).mono ?_; rintro e w2 ⟨rfl, hb2⟩; have hB2 := hb1.trans (hb2.mono hb1.size))
          | (go_at_call 61; refine (hS _ hB2).mono ?_; rintro e w3 ⟨rfl, hb3⟩; have hB3 := hB2.trans (hb3.mono hB2.size))
          | (go_at_call 59; refine (hC _ hB3).mono ?_; rintro e w4 ⟨rfl, hb4⟩; have hB4 := hB3.trans (hb4.mono hB3.size))
          | (go_at_call 82; refine (hO1 _ hB4).mono ?_; rintro e w5 ⟨V, rfl, ho5, hb5⟩; obtain ⟨A, cap, rfl, hrow⟩ := id ho5))
        rw [show decide ((5 : Int) < (wanted.length : Int)) = false from decide_eq_false (by omega)]
        have hs4 := hB4.size
        have ho3 := OrdersR.le ho5 hs4
        have hb5' : Below w.heap.size w w5 := hB4.trans (hb5.mono hs4)
        clear hO hT hO1 hR hA hS hC ho5 hrow
        obtain ⟨A2', cap2, ev, hrow⟩ := id ho3
        injection ev with e1 _ e3
        subst e1 e3
        go_loopw [10, 11, 40] (fun bv least i wr => ∃ k : Nat, k ≤ perms.length ∧ i = .int .i64 k ∧ least = .int .i64 ((perms.take k).foldl (btStep (fun o => f (turnL wanted o))) ([], -1)).2 ∧ OwnR wr w.heap.size bv ((perms.take k).foldl (btStep (fun o => f (turnL wanted o))) ([], -1)).1 ∧ Below w5.heap.size w5 wr)
          (fun bv least i _ => perms.length - (intOf i).toNat)
        case atStart => exact ⟨0, Nat.zero_le _, rfl, rfl, ownR_nil _ _, Below.refl _ _⟩
        case round =>
          obtain ⟨k, hk, rfl, rfl, hbv, hx⟩ := hrel
          have hbr : Below w.heap.size w wr := hb5'.trans (hx.mono hb5'.size)
          by_cases hlt : k < perms.length
          · obtain ⟨b, o, x, rfl, hbl, hcx, hox⟩ := hrow k hlt
            have f1 : wr.cell? ⟨b, o + k, none⟩ = some x := (Below.cell hx (p := ⟨b, o + k, none⟩) hbl).trans hcx
            have hoxr := hox.below hx
            have hpk := hpm _ (List.getElem_mem hlt)
            have hmem := List.getElem_mem hlt
            obtain ⟨Ax, cx, rfl, hx1, hx2, hx3⟩ := id hoxr
            have ht := bt_take (fun o => f (turnL wanted o)) perms hlt
            generalize hst : (perms.take k).foldl (btStep (fun o => f (turnL wanted o))) ([], -1) = st at *
            obtain ⟨sl, sv⟩ := st
            obtain ⟨wo, rfl⟩ : ∃ wo, wo = wr := ⟨wr, rfl⟩
            have own0 : (wo.alloc (.cells #[] 50)).ownsRow wo.heap.size 50 2 (.slice (some ⟨wo.heap.size, 0, none⟩) 0 0) 0 (botC ((turnL wanted perms[k]).take 0)) :=
              World.ownsRow_made wo #[] 0 (Nat.le_refl _) (by unfold maxLen; omega) rfl
            have bi0 : Below wo.heap.size wo (wo.alloc (.cells #[] 50)) := (Below.refl _ wo).alloc (Nat.le_refl _) _
            have htl : (turnL wanted perms[k]).length = perms[k].length := by unfold turnL; simp
            go_wp2
            go_loopw [14, 47] (fun v i wi => ∃ j : Nat, j ≤ perms[k].length ∧ i = .int .i64 j ∧ wi.ownsRow wo.heap.size 50 2 v j (botC ((turnL wanted perms[k]).take j)) ∧ Below wo.heap.size wo wi)
              (fun v i _ => perms[k].length - (intOf i).toNat)
            case atStart => exact ⟨0, Nat.zero_le _, rfl, own0, bi0⟩
            case round =>
              obtain ⟨j, hj, rfl, hown, hxi⟩ := hrel
              have hbi : Below w.heap.size w wr := hbr.trans (hxi.mono hbr.size)
              by_cases hltj : j < perms[k].length
              · obtain ⟨b3, o3, rfl, hb3l, hc3⟩ := hx2 (by omega)
                obtain ⟨hm0, hm1⟩ := hpk.2 _ (List.getElem_mem hltj)
                obtain ⟨m, hm⟩ := Int.eq_ofNat_of_zero_le hm0
                have hml : m < wanted.length := by omega
                have g1 : wr.cell? ⟨b3, o3 + j, none⟩ = some (.int .i64 (m : Int)) := (Below.cell hxi (p := ⟨b3, o3 + j, none⟩) hb3l).trans ((hc3 j hltj).trans (by rw [hm]))
                obtain ⟨b4, o4, rfl, hb4l, hc4⟩ := hwB (by omega)
                obtain ⟨q1, q2⟩ := hc4 m hml
                have tr : ∀ q, wr.cell? ⟨b4, q, none⟩ = w.cell? ⟨b4, q, none⟩ := fun q => Below.cell hbi (p := ⟨b4, q, none⟩) hb4l
                have r1 := (tr _).trans q1
                have r2 := (tr _).trans q2
                obtain ⟨i0, hi, hz0, hz1, hz2⟩ := info_parts Try.info50
                have hgd : (turnL wanted perms[k])[j]'(by omega) = wanted[m] := by
                  unfold turnL
                  rw [List.getElem_map, hm]
                  simp [List.getD_eq_getElem?_getD, List.getElem?_eq_getElem hml]
                have hnx : botC ((turnL wanted perms[k]).take (j + 1)) = botC ((turnL wanted perms[k]).take j) ++ [.int .u8 wanted[m].1, .int .i16 wanted[m].2] := by
                  rw [List.take_succ_eq_append_getElem (by omega), hgd]
                  unfold botC
                  rw [List.flatMap_append]
                  rfl
                have hone : ∀ u ∈ [Value.int .u8 wanted[m].1, Value.int .i16 wanted[m].2], u.oneCell' = true := fun u hu => by
                  simp only [List.mem_cons, List.not_mem_nil, or_false] at hu
                  rcases hu with rfl | rfl <;> rfl
                have hbs : wo.heap.size ≤ (wr.alloc (.cells #[.int .u8 wanted[m].1, .int .i16 wanted[m].2] 50)).heap.size := Nat.le_trans hxi.size (by simp)
                have hj5 : j + 1 ≤ 5 := by have := hpk.1; omega
                go_wp2_with (at_builtin; refine wpList_append_own _ rfl _ _ 62 rfl wo.heap.size 50 i0 _ 2 4 Try.underlying62 hi hz0 hz1 hz2 rfl (by omega) _ j _ rfl (hown.alloc _) ⟨wr.heap.size, 0, none⟩ 1 1 [.int .u8 wanted[m].1, .int .i16 wanted[m].2] rfl rfl (World.news_of_block (cs := #[.int .u8 wanted[m].1, .int .i16 wanted[m].2]) (t := 50) (fr := (0, 0)) (heap_alloc_new wr _)) hone (by unfold maxLen; omega) (by omega) hbs ?_; intro v' w6 hown6 hgrow6 _)
                go_roundw
                case rel =>
                  refine ⟨j + 1, by omega, by go_num, by rw [hnx]; exact hown6, ?_⟩
                  exact (hxi.alloc hxi.size _).grown hgrow6 hbs (fun q hq => (hown.lt q hq).1)
                case measure => simp [intOf]; omega
              · have hj2 : j = perms[k].length := by omega
                subst hj2
                rw [← htl, List.take_length] at hown
                obtain ⟨A3, c3, rfl, hc3, hrb⟩ := rowB_of hown
                rw [htl]
                have hcT := hT1 _ hmem wr A3 c3 hbi hc3 hrb
                rw [htl] at hcT
                have f2 : wr.cell? ⟨b, o + k, none⟩ = some (.slice Ax perms[k].length cx) := (Below.cell hxi (p := ⟨b, o + k, none⟩) (Nat.lt_of_lt_of_le hbl hx.size)).trans f1
                have hs : btStep (fun o => f (turnL wanted o)) (sl, sv) perms[k] = if (f (turnL wanted perms[k])).2 = 0 ∧ (sv < 0 ∨ (f (turnL wanted perms[k])).1 < sv) then (perms[k], (f (turnL wanted perms[k])).1) else (sl, sv) := rfl
                rw [hs] at ht
                generalize hfv : f (turnL wanted perms[k]) = fv at *
                obtain ⟨fs, fc⟩ := fv
                have hbx : Below w5.heap.size w5 wr := hx.trans (hxi.mono hx.size)
                by_cases c1 : fc = 0
                · subst c1
                  by_cases c2 : sv < 0
                  · rw [if_pos ⟨rfl, .inl c2⟩] at ht
                    go_wp2_with (go_at_call 80; refine hcT.mono ?_; rintro e w7 ⟨ra, rb, rfl, hb7⟩)
                    go_roundw
                    case rel => exact ⟨k + 1, by omega, by go_num, by rw [ht], by rw [ht]; exact (hoxr.below hxi).below hb7, hbx.trans (hb7.mono hbx.size)⟩
                    case measure => simp [intOf]; omega
                  · by_cases c3' : fs < sv
                    · rw [if_pos ⟨rfl, .inr c3'⟩] at ht
                      go_wp2_with (go_at_call 80; refine hcT.mono ?_; rintro e w7 ⟨ra, rb, rfl, hb7⟩)
                      go_roundw
                      case rel => exact ⟨k + 1, by omega, by go_num, by rw [ht], by rw [ht]; exact (hoxr.below hxi).below hb7, hbx.trans (hb7.mono hbx.size)⟩
                      case measure => simp [intOf]; omega
                    · rw [if_neg (by omega)] at ht
                      go_wp2_with (go_at_call 80; refine hcT.mono ?_; rintro e w7 ⟨ra, rb, rfl, hb7⟩)
                      go_roundw
                      case rel => exact ⟨k + 1, by omega, by go_num, by rw [ht], by rw [ht]; exact (hbv.below hxi).below hb7, hbx.trans (hb7.mono hbx.size)⟩
                      case measure => simp [intOf]; omega
                · rw [if_neg (by omega)] at ht
                  go_wp2_with (go_at_call 80; refine hcT.mono ?_; rintro e w7 ⟨ra, rb, rfl, hb7⟩)
                  go_roundw
                  case rel => exact ⟨k + 1, by omega, by go_num, by rw [ht], by rw [ht]; exact (hbv.below hxi).below hb7, hbx.trans (hb7.mono hbx.size)⟩
                  case measure => simp [intOf]; omega
          · have hk2 : k = perms.length := by omega
            subst hk2
            rw [List.take_length] at hbv ⊢
            rcases hst : perms.foldl (btStep (fun o => f (turnL wanted o))) ([], -1) with ⟨sl, sv⟩
            rw [hst] at hbv
            obtain ⟨Ab, cb, rfl, hbb⟩ := id hbv
            by_cases c2 : sv < 0
            · have hR : btRes 0 (btAll (fun o => f (turnL wanted o)) perms) = ([], 0, 6) := by
                unfold btAll btRes
                rw [hst, if_pos rfl, if_pos c2]
              go_wp2
              go_ret3
              exact ⟨_, rfl, ownR_nil _ _, hbr⟩
            · have hR : btRes 0 (btAll (fun o => f (turnL wanted o)) perms) = (sl, sv, 0) := by
                unfold btAll btRes
                rw [hst, if_pos rfl, if_neg c2]
              go_wp2
              go_ret3
              exact ⟨_, rfl, hbv, hbr⟩
      | false => exact absurd (hok rfl) (by simp)
    · have hres : (if (0 : Int) = 0 ∧ wanted.length > 5 then (3 : Int) else 0) = 3 := if_pos ⟨rfl, by omega⟩
      rw [hres]
      have c6 : (5 : Int) < (wanted.length : Int) := by omega
      clear hO hT
      obtain rfl : okR = true := hok rfl
      rw [Bool.true_and] at hC
      go_enter Try.func40, Try.ntmps40
      go_wp2_with (first
        | (go_at_call 66; refine hR.mono ?_; rintro e w1 ⟨rfl, hb1⟩)
        | (go_at_call 79; refine (hA _ hb1).mono ?_; rintro e w2 ⟨rfl, hb2⟩; have hB2 := hb1.trans (hb2.mono hb1.size))
        | (go_at_call 61; refine (hS _ hB2).mono ?_; rintro e w3 ⟨rfl, hb3⟩; have hB3 := hB2.trans (hb3.mono hB2.size))
        | (go_at_call 59; refine (hC _ hB3).mono ?_; rintro e w4 ⟨rfl, hb4⟩; have hB4 := hB3.trans (hb4.mono hB3.size)))
      go_ret3
      exact ⟨_, rfl, ownR_nil _ _, hB4⟩
  · have hres : (if code = 0 ∧ wanted.length > 5 then (3 : Int) else code) = code := if_neg (fun q => c0 q.1)
    rw [hres]
    unfold btRes
    rw [if_neg c0]
    clear hO hT
    cases okR with
    | true =>
      rw [Bool.true_and] at hC
      go_enter Try.func40, Try.ntmps40
      go_wp2_with (first
        | (go_at_call 66; refine hR.mono ?_; rintro e w1 ⟨rfl, hb1⟩)
        | (go_at_call 79; refine (hA _ hb1).mono ?_; rintro e w2 ⟨rfl, hb2⟩; have hB2 := hb1.trans (hb2.mono hb1.size))
        | (go_at_call 61; refine (hS _ hB2).mono ?_; rintro e w3 ⟨rfl, hb3⟩; have hB3 := hB2.trans (hb3.mono hB2.size))
        | (go_at_call 59; refine (hC _ hB3).mono ?_; rintro e w4 ⟨rfl, hb4⟩; have hB4 := hB3.trans (hb4.mono hB3.size)))
      go_ret3
      exact ⟨_, rfl, ownR_nil _ _, hB4⟩
    | false =>
      rw [Bool.false_and] at hC
      go_enter Try.func40, Try.ntmps40
      go_wp2_with (first
        | (go_at_call 66; refine hR.mono ?_; rintro e w1 ⟨rfl, hb1⟩)
        | (go_at_call 61; refine (hS _ hb1).mono ?_; rintro e w3 ⟨rfl, hb3⟩; have hB3 := hb1.trans (hb3.mono hb1.size))
        | (go_at_call 59; refine (hC _ hB3).mono ?_; rintro e w4 ⟨rfl, hb4⟩; have hB4 := hB3.trans (hb4.mono hB3.size)))
      go_ret3
      exact ⟨_, rfl, ownR_nil _ _, hB4⟩
end Go.Proofs
