import Derived.Test.YtkabjbkefoipnaaDoorGMd3
import Derived.Lib.AppendZerosOnto
import Derived.Lib.AppendZeros
import Derived.Lib.Overlaps
import Derived.Laws.Externs
import Derived.Laws.NewBlocks
namespace Go.Proofs.YtkabjbkefoipnaaDoor.Md
open Go.RowKit Go.Lib Go.Proofs.YtkabjbkefoipnaaDoorW.PrintWords Go.Proofs.YtkabjbkefoipnaaDoorW.PrintLast Go.Proofs.YtkabjbkefoipnaaDoorW.PrintMore Go.Proofs.YtkabjbkefoipnaaDoor.PM
set_option linter.unusedVariables false
set_option linter.unusedSimpArgs false
section
variable {P : Program}
theorem wp_copy_runI (w : World) {o : Oper} {a : Act} {K : Act → World → Prop} {Q : Exit → Act → World → Prop} (d s : Operand) (t t' : TypeId)
    (ho : o.op = .call { callee := .builtin .copy, args := #[d, s], argTypes := #[t, t'] }) (v u : Value) (hd : a.eval d = v) (hs : a.eval s = u) {v' : Value} {w' : World}
    (hr : (Builtin.copy_ #[t, t'] o.type #[v, u]).run P w = .ok v' w') (h : K (a.put o.dst v') w') : o.wp P a w K Q := by
  unfold Oper.wp execOp
  simp only [ho, resolve, invoke, builtin, Sem.run_bind, Sem.run_pure, Result.andThen_ok, List.map_toArray, List.map_cons, List.map_nil, hd, hs, hr]
  exact h
theorem wpList_copy_runI (w : World) {ops : Array Oper} {rest : List Oper} {o : Oper} {a : Act} {Q : Exit → Act → World → Prop} (hgd : o.guard = none) (d s : Operand) (t t' : TypeId)
    (ho : o.op = .call { callee := .builtin .copy, args := #[d, s], argTypes := #[t, t'] }) (v u : Value) (hd : a.eval d = v) (hs : a.eval s = u) {v' : Value} {w' : World}
    (hr : (Builtin.copy_ #[t, t'] o.type #[v, u]).run P w = .ok v' w') (h : wpList P ops Q rest (a.put o.dst v') w') : wpList P ops Q (o :: rest) a w :=
  wpList_plain hgd fun _ hK => wp_copy_runI w d s t t' ho v u hd hs hr (hK _ _ h)
theorem step_copy_runI {ops : Array Oper} {o : Oper} {a : Act} {w : World} {K : Act → World → Prop} {Q : Exit → Act → World → Prop} {E : Prop}
    (hg : o.guard = none) (d x : Operand) (dT sT : TypeId) (hop : o.op = Op.call { callee := Callee.builtin Builtin.copy, args := #[d, x], argTypes := #[dT, sT] })
    (v u : Value) (hd : a.eval d = v) (hx : a.eval x = u) {v' : Value} {w' : World} (hr : (Builtin.copy_ #[dT, sT] o.type #[v, u]).run P w = .ok v' w') (hK : K (a.put o.dst v') w') :
    if Region.wanted o (yielded ops a.tmps) = true then Oper.wp P o a w K Q else E := by
  have hw : Region.wanted o (yielded ops a.tmps) = true := by simp [Region.wanted, hg]
  rw [if_pos hw]
  unfold Oper.wp
  simp [execOp, hop, resolve, invoke, builtin, hd, hx, hr, Result.andThen]
  exact hK
end
theorem size2 : ∀ w, (Go.sizeOf 39).run Tryd.prog w = .ok 2 w := by
  obtain ⟨i, hi, hz, hs, hb⟩ := info2
  intro w
  simp [Go.sizeOf, typeInfo, hi, hs]
theorem sizeS : (Tryd.prog.info? 39).map (·.size) = some 2 := by
  obtain ⟨i, hi, hz, hs, hb⟩ := info2
  rw [hi]; simp [hs]
set_option maxRecDepth 20000 in
set_option maxHeartbeats 4000000 in
theorem Insert_shift (g n i cap vb : Nat) (cur : Array Value) (vs : List Value) (w : World) (hbk : w.heap[g]? = some (.cells cur 39 (0, 0))) (hvbk : w.heap[vb]? = some (.cells vs.toArray 39 (0, 0))) (hv2 : vs.length = 2) (hne : vb ≠ g)
    (hi : i < n) (hn : n + 1 ≤ cap) (hm : cap ≤ 9223372036854775807) (hsz : cur.size = cap * 2) (h1 : ∀ u ∈ cur.toList.take (n * 2), u.oneCell' = true) (h1v : ∀ u ∈ vs, u.oneCell' = true) :
    Calls Tryd.prog 51 #[.slice (some ⟨g, 0, none⟩) n cap, .int .i64 i, .slice (some ⟨vb, 0, none⟩) 1 1] w fun e w' => e = .returned (.slice (some ⟨g, 0, none⟩) (n + 1) cap) ∧ w' = (w.drew.setCells g ((i + 1) * 2) ((cur.toList.take (n * 2)).drop (i * 2))).setCells g (i * 2) vs := by
  obtain ⟨cs, hcs⟩ : ∃ cs, cs = (cur.toList.take (n * 2)).drop (i * 2) := ⟨_, rfl⟩
  have hlen : cs.length = (n - i) * 2 := by rw [hcs, List.length_drop, List.length_take, Array.length_toList]; omega
  have hget : ∀ t u, cs[t]? = some u → cur[i * 2 + t]? = some u := by
    intro t u hu
    rw [hcs, List.getElem?_drop, List.getElem?_take] at hu
    split at hu
    · rwa [Array.getElem?_toList] at hu
    · cases hu
  have h1c : ∀ u ∈ cs, u.oneCell' = true := fun u hu => h1 u (List.mem_of_mem_drop (hcs ▸ hu))
  have hov : ∀ lb cb, (callFunc 60 #[.slice (some ⟨vb, 0, none⟩) 1 1, .slice (some ⟨g, (i + 1) * 2, none⟩) lb cb]).run Tryd.prog w = .ok (.value (.bool false)) w := fun lb cb => by
    rw [run_callFunc_extern Tryd.func60 (by kernel_rfl) (by kernel_rfl) (by kernel_rfl) (e := Extern.SlicesOverlaps.overlaps #[22, 22] #[4]) (by kernel_rfl),
      Lib.run_overlaps_apart w 22 4 39 Tryd.underlying22 2 size2 ⟨vb, 0, none⟩ ⟨g, (i + 1) * 2, none⟩ 1 1 lb cb hne 39 39 2 (cap * 2) (by simp [World.shape?, hvbk, hv2]) (by simp [World.shape?, hbk, hsz]) (by omega) (blk_frozen hvbk _) (blk_frozen hvbk _)]
    rfl
  have hcp1 : Aside0 (∀ ty dl dc sl sc, dl = n - i → sl = n + 1 - i → (Builtin.copy_ #[22, 22] ty #[.slice (some ⟨g, (i + 1) * 2, none⟩) dl dc, .slice (some ⟨g, i * 2, none⟩) sl sc]).run Tryd.prog w.drew =   .ok (goInt ((n - i : Nat) : Int)) (w.drew.setCells g ((i + 1) * 2) cs)) := ⟨fun ty dl dc sl sc hdl hsl => by
    subst hdl hsl
    have hmin : Nat.min (n + 1 - i) (n - i) = n - i := Nat.min_eq_right (by omega)
    have := run_copy_sz w.drew 22 22 ty 39 2 g ((i + 1) * 2) (n - i) dc ⟨g, i * 2, none⟩ (n + 1 - i) sc cs Tryd.underlying22 sizeS (by rw [hmin]; exact hlen)
      (fun j v hj => by rw [Addr.add_lit]; exact (blk_cell (blk_drew hbk) _).trans (hget j v hj))
      (fun j hj => by rw [blk_cell (blk_drew hbk), Array.getElem?_eq_getElem (by omega)]; rfl) (fun j hj => blk_frozen (blk_drew hbk) _) h1c
    rwa [hmin] at this⟩
  obtain ⟨W1, hW1⟩ : ∃ W1, W1 = w.drew.setCells g ((i + 1) * 2) cs := ⟨_, rfl⟩
  have hbk1 : W1.heap[g]? = some (.cells (setA cur ((i + 1) * 2) cs) 39 (0, 0)) := by rw [hW1]; exact blk_setCells cs _ (blk_drew hbk)
  have hvbk1 : W1.heap[vb]? = some (.cells vs.toArray 39 (0, 0)) := by rw [hW1]; exact ((grown_setCells g cs ((i + 1) * 2) w.drew).block vb (blk_lt (blk_drew hvbk)) (by simpa using hne)).trans (blk_drew hvbk)
  have hcp2 : Aside0 (∀ ty dl dc, dl = n + 1 - i → (Builtin.copy_ #[22, 22] ty #[.slice (some ⟨g, i * 2, none⟩) dl dc, .slice (some ⟨vb, 0, none⟩) 1 1]).run Tryd.prog W1 = .ok (goInt 1) (W1.setCells g (i * 2) vs)) := ⟨fun ty dl dc hdl => by
    subst hdl
    have hmin : Nat.min 1 (n + 1 - i) = 1 := Nat.min_eq_left (by omega)
    have := run_copy_sz W1 22 22 ty 39 2 g (i * 2) (n + 1 - i) dc ⟨vb, 0, none⟩ 1 1 vs Tryd.underlying22 sizeS (by rw [hmin]; omega)
      (fun j v hj => by rw [Addr.add_lit, Nat.zero_add]; exact (blk_cell hvbk1 _).trans (by simpa using hj))
      (fun j hj => by rw [blk_cell hbk1, Array.getElem?_eq_getElem (by rw [setA_size]; omega)]; rfl) (fun j hj => blk_frozen hbk1 _) h1v
    rwa [hmin] at this⟩
  rw [← hcs, ← hW1]
  rw [← hW1] at hcp1
  have HOV := Aside0.mk hov
  have hz2 : ¬ ((i : Int) = (n : Int)) := by omega
  have hz3 : ¬ ((cap : Int) < (n : Int) + 1) := by omega
  have hw1 : IntKind.i64.wrap ((i : Int) + 1) = (i : Int) + 1 := by rw [IntKind.wrap_i64]; omega
  have hw2 : IntKind.i64.wrap ((n : Int) + 1) = (n : Int) + 1 := by rw [IntKind.wrap_i64]; omega
  have hb1 : (0 : Int) ≤ (i : Int) + 1 := by omega
  have hin : i ≤ n := by omega
  have htn : ((i : Int) + 1).toNat = i + 1 := by omega
  have hb2 : ¬ (cap = i + 1) := by omega
  have hb3 : (i : Int) ≤ (n : Int) + 1 := by omega
  have hb4 : ¬ (cap = i) := by omega
  have hb5 : (n : Int) + 1 ≤ (cap : Int) := by omega
  have mixed : Tryd.prog.follows Departure.mixedOrders = true := by kernel_rfl
  clear hbk hvbk hbk1 hvbk1 hget hlen hcs hsz h1 h1v hv2 hW1 h1c
  go_enter Tryd.func51, Tryd.ntmps51
  go_wp2_with (simp only [hov])
  go_region_law_o (refine step_copy_runI rfl _ _ 22 22 rfl _ _ (by simp [Act.eval, Act.put]) (by simp [Act.eval, Act.put]) (hcp1.out _ (n - i) (cap - (i + 1)) (n + 1 - i) (cap - i) rfl rfl) ?_)
  go_wp2_with ((with_reducible refine gate_builtin (b := .copy) (xs := #[.tmp 80, .tmp 81]) rfl ?_); refine wpList_copy_runI _ rfl _ _ 22 22 rfl _ _ rfl rfl (hcp2.out _ (n + 1 - i) (cap - i) rfl) ?_)
  go_ret
  exact ⟨rfl, rfl⟩
set_option maxRecDepth 20000 in
set_option maxHeartbeats 4000000 in
theorem Insert_end (n : Nat) (v : Value) (vb base : Nat) (inner vs : List Value) (w : World) (ho : w.ownsRow base 39 2 v n inner) (hvbk : w.heap[vb]? = some (.cells vs.toArray 39 (0, 0))) (hv2 : vs.length = 2)
    (hb : base ≤ w.heap.size) (hn : n ≤ 1000) (h1v : ∀ u ∈ vs, u.oneCell' = true) :
    Calls Tryd.prog 51 #[v, .int .i64 n, .slice (some ⟨vb, 0, none⟩) 1 1] w fun e w' => ∃ v', e = .returned v' ∧ w'.ownsRow base 39 2 v' (n + 1) (inner ++ vs) ∧ w.grownBy w' v.ownBlock ∧ (v'.ownBlock = v.ownBlock ∨ ∃ b, v'.ownBlock = some b ∧ w.heap.size ≤ b) := by
  obtain ⟨i0, hi0, hz0, hs0, hb0⟩ := info2
  have HO := Aside0.mk ho
  have HV := Aside0.mk (show ∀ j u, vs[j]? = some u → w.cell? ((⟨vb, 0, none⟩ : Addr).add j) = some u from fun j u hj => World.news_of_block hvbk j u (by simpa using hj))
  have mixed : Tryd.prog.follows Departure.mixedOrders = true := by kernel_rfl
  obtain ⟨A, c, rfl⟩ := own_slice ho
  have H1 := Aside0.mk h1v
  clear ho hvbk h1v
  go_enter Tryd.func51, Tryd.ntmps51
  go_wp2_with ((with_reducible refine gate_builtin (b := .append) (xs := #[.tmp 23, .tmp 24]) rfl ?_); at_builtin; refine wpList_append_own_at w rfl (.tmp 23) (.tmp 24) 22 rfl base 39 i0 (.agg #[.string ⟨#[]⟩, .slice none 0 0]) 2 40 Tryd.underlying22 hi0 hz0 hs0 hb0 rfl (by decide) (.slice A n c) n inner rfl HO.out ⟨vb, 0, none⟩ 1 1 vs rfl hv2 HV.out H1.out (by simp only [maxLen]; omega) (by omega) hb ?_; intro v' w' k1 k2 _ k3; have K1 := Aside0.mk k1; have K2 := Aside0.mk k2; have K3 := Aside0.mk k3; clear k1 k2 k3)
  all_goals go_ret
  all_goals refine ⟨v', rfl, K1.out, ?_, ?_⟩
  all_goals have k2 := K2.out
  all_goals have k3 : v'.ownBlock = (Value.slice A n c).ownBlock ∨ ∃ b, v'.ownBlock = some b ∧ w.heap.size ≤ b := K3.out.imp id (fun h => ⟨_, h, Nat.le_refl _⟩)
  all_goals (cases A <;> first | exact k2 | exact k3)
set_option maxRecDepth 20000 in
set_option maxHeartbeats 4000000 in
theorem Insert_grow (g n i cap vb : Nat) (cur : Array Value) (vs : List Value) (w : World) (hbk : w.heap[g]? = some (.cells cur 39 (0, 0))) (hvbk : w.heap[vb]? = some (.cells vs.toArray 39 (0, 0))) (hv2 : vs.length = 2)
    (hi : i < n) (hn : n ≤ cap) (hr : cap < n + 1) (hm : n ≤ 1000) (hsz : cur.size = cap * 2) (h1 : ∀ u ∈ cur.toList.take (n * 2), u.oneCell' = true) (h1v : ∀ u ∈ vs, u.oneCell' = true) :
    Calls Tryd.prog 51 #[.slice (some ⟨g, 0, none⟩) n cap, .int .i64 i, .slice (some ⟨vb, 0, none⟩) 1 1] w fun e w' => ∃ G new, n + 1 ≤ G ∧ G ≤ maxLen ∧ e = .returned (.slice (some ⟨w.heap.size, 0, none⟩) (n + 1) G) ∧ Below w.heap.size w w' ∧ w'.heap[w.heap.size]? = some (.cells new 39 (0, 0)) ∧ new.size = G * 2 ∧ new.toList.take ((n + 1) * 2) = cur.toList.take (i * 2) ++ vs ++ (cur.toList.take (n * 2)).drop (i * 2) := by
  obtain rfl : cap = n := by omega
  obtain ⟨i0, hi0, hz0, hs0, hb0⟩ := info2
  obtain ⟨cs, hcs⟩ : ∃ cs, cs = (cur.toList.take (cap * 2)).drop (i * 2) := ⟨_, rfl⟩
  have hlen : cs.length = (cap - i) * 2 := by rw [hcs, List.length_drop, List.length_take, Array.length_toList]; omega
  have hget : ∀ t u, cs[t]? = some u → cur[i * 2 + t]? = some u := by
    intro t u hu
    rw [hcs, List.getElem?_drop, List.getElem?_take] at hu
    split at hu
    · rwa [Array.getElem?_toList] at hu
    · cases hu
  have h1c : ∀ u ∈ cs, u.oneCell' = true := fun u hu => h1 u (List.mem_of_mem_drop (hcs ▸ hu))
  have holds : (Builtin.firstCells i0.size i (.slice (some ⟨g, 0, none⟩) i cap)).run Tryd.prog w.drew = .ok (cur.toList.take (i * 2)).toArray w.drew := by
    rw [hs0]
    exact run_firstCells_some w.drew 2 i ⟨g, 0, none⟩ i cap (cur.toList.take (i * 2)) (by rw [List.length_take, Array.length_toList]; omega) (fun j v hj => by
      rw [Addr.add_lit, Nat.zero_add]
      rw [List.getElem?_take] at hj
      split at hj
      · exact (blk_cell (blk_drew hbk) _).trans (by rwa [Array.getElem?_toList] at hj)
      · cases hj)
  have hik : i + (cap + 1 - i) = cap + 1 := by omega
  obtain ⟨G, hG⟩ : ∃ G, G = grownCap w (cap + 1) cap 39 := ⟨_, rfl⟩
  have hGn : cap + 1 ≤ G := by rw [hG]; exact grownCap_ge w _ _ _
  have hGm : G ≤ maxLen := by rw [hG]; exact grownCap_le_maxLen w (cap + 1) cap _ (by unfold maxLen; omega)
  obtain ⟨ROW, hROW⟩ : ∃ ROW : Array Value, ROW = (cur.toList.take (i * 2)).toArray ++ Builtin.zeroCells (Value.agg #[.string ⟨#[]⟩, .slice none 0 0]).cells (cap + 1 - i) ++ Builtin.zeroCells (Value.agg #[.string ⟨#[]⟩, .slice none 0 0]).cells (G - (cap + 1)) := ⟨_, rfl⟩
  have hzc : (Value.agg #[.string ⟨#[]⟩, .slice none 0 0]).cells.size = 2 := rfl
  have hRs : ROW.size = G * 2 := by
    rw [hROW, Array.size_append, Array.size_append, size_zeroCells, size_zeroCells, hzc, List.size_toArray, List.length_take, Array.length_toList]
    omega
  obtain ⟨W1, hW1⟩ : ∃ W1, W1 = w.drew.alloc (.cells ROW 39) := ⟨_, rfl⟩
  have hrz : Aside0 (∀ ty (k : Int), k = ((cap + 1 - i : Nat) : Int) → (Builtin.append_ #[22, 3] ty #[.slice (some ⟨g, 0, none⟩) i cap, .int .i64 k]).run Tryd.prog w = .ok (.slice (some ⟨w.heap.size, 0, none⟩) (cap + 1) G) W1) := ⟨fun ty k hk => by
    subst hk
    have h := Lib.run_append_grow_zeros w 22 3 ty 39 i0 _ .i64 .i64 Tryd.underlying22 Tryd.underlying3 hi0 hz0 (some ⟨g, 0, none⟩) i cap (cur.toList.take (i * 2)) holds (cap + 1 - i) (by omega) (by omega) (by omega) (by omega) (by rw [hb0]; omega) (by rw [hb0, hik]; exact growslice_fits (by omega) (by omega))
    rw [hik, ← hG, ← hROW, ← hW1] at h
    exact h⟩
  have hN1 : W1.heap[w.heap.size]? = some (.cells ROW 39 (0, 0)) := by rw [hW1]; exact blk_new w.drew _
  have B1 : Below w.heap.size w W1 := by rw [hW1]; exact below_alloc (below_drew (Below.refl _ _)) _
  have hg1 : W1.heap[g]? = some (.cells cur 39 (0, 0)) := blk_below hbk B1
  have hv1 : W1.heap[vb]? = some (.cells vs.toArray 39 (0, 0)) := blk_below hvbk B1
  have hcpA : Aside0 (∀ ty dl dc, dl = cap + 1 - i → (Builtin.copy_ #[22, 22] ty #[.slice (some ⟨w.heap.size, i * 2, none⟩) dl dc, .slice (some ⟨vb, 0, none⟩) 1 1]).run Tryd.prog W1 = .ok (goInt 1) (W1.setCells w.heap.size (i * 2) vs)) := ⟨fun ty dl dc hdl => by
    subst hdl
    have hmin : Nat.min 1 (cap + 1 - i) = 1 := Nat.min_eq_left (by omega)
    have := run_copy_sz W1 22 22 ty 39 2 w.heap.size (i * 2) (cap + 1 - i) dc ⟨vb, 0, none⟩ 1 1 vs Tryd.underlying22 sizeS (by rw [hmin]; omega)
      (fun j v hj => by rw [Addr.add_lit, Nat.zero_add]; exact (blk_cell hv1 _).trans (by simpa using hj))
      (fun j hj => by rw [blk_cell hN1, Array.getElem?_eq_getElem (by omega)]; rfl) (fun j hj => blk_frozen hN1 _) h1v
    rwa [hmin] at this⟩
  obtain ⟨W2, hW2⟩ : ∃ W2, W2 = W1.setCells w.heap.size (i * 2) vs := ⟨_, rfl⟩
  have hN2 : W2.heap[w.heap.size]? = some (.cells (setA ROW (i * 2) vs) 39 (0, 0)) := by rw [hW2]; exact blk_setCells vs _ hN1
  have g2 : W1.grownBy W2 (some w.heap.size) := by rw [hW2]; exact grown_setCells _ _ _ _
  have B2 : Below w.heap.size w W2 := pw_below_grown B1 _ B1.size g2 (by intro k hk; injection hk with hk; omega)
  have hg2 : W2.heap[g]? = some (.cells cur 39 (0, 0)) := blk_below hbk B2
  have hcpB : Aside0 (∀ ty dl dc sl sc, dl = cap - i → sl = cap - i → (Builtin.copy_ #[22, 22] ty #[.slice (some ⟨w.heap.size, (i + 1) * 2, none⟩) dl dc, .slice (some ⟨g, i * 2, none⟩) sl sc]).run Tryd.prog W2.drew = .ok (goInt ((cap - i : Nat) : Int)) (W2.drew.setCells w.heap.size ((i + 1) * 2) cs)) := ⟨fun ty dl dc sl sc hdl hsl => by
    subst hdl hsl
    have hmin : Nat.min (cap - i) (cap - i) = cap - i := Nat.min_self _
    have := run_copy_sz W2.drew 22 22 ty 39 2 w.heap.size ((i + 1) * 2) (cap - i) dc ⟨g, i * 2, none⟩ (cap - i) sc cs Tryd.underlying22 sizeS (by rw [hmin]; exact hlen)
      (fun j v hj => by rw [Addr.add_lit]; exact (blk_cell (blk_drew hg2) _).trans (hget j v hj))
      (fun j hj => by rw [blk_cell (blk_drew hN2), Array.getElem?_eq_getElem (by rw [setA_size]; omega)]; rfl) (fun j hj => blk_frozen (blk_drew hN2) _) h1c
    rwa [hmin] at this⟩
  obtain ⟨W3, hW3⟩ : ∃ W3, W3 = W2.drew.setCells w.heap.size ((i + 1) * 2) cs := ⟨_, rfl⟩
  have hN3 : W3.heap[w.heap.size]? = some (.cells (setA (setA ROW (i * 2) vs) ((i + 1) * 2) cs) 39 (0, 0)) := by rw [hW3]; exact blk_setCells cs _ (blk_drew hN2)
  have g3 : W2.drew.grownBy W3 (some w.heap.size) := by rw [hW3]; exact grown_setCells _ _ _ _
  have B3 : Below w.heap.size w W3 := pw_below_grown (below_drew B2) _ B2.size g3 (by intro k hk; injection hk with hk; omega)
  have hfin : (setA (setA ROW (i * 2) vs) ((i + 1) * 2) cs).toList.take ((cap + 1) * 2) = cur.toList.take (i * 2) ++ vs ++ cs := by
    have l1 : (cur.toList.take (i * 2)).length = i * 2 := by rw [List.length_take, Array.length_toList]; omega
    have hpre : ROW.toList.take (i * 2) = cur.toList.take (i * 2) := by
      rw [hROW, Array.toList_append, Array.toList_append, List.append_assoc, List.take_append_of_le_length (by rw [List.toList_toArray, l1]; omega), List.toList_toArray, List.take_take, Nat.min_self]
    rw [setA_toList cs _ _ (by rw [setA_size]; omega), setA_toList vs _ _ (by omega), hpre, show (i + 1) * 2 = i * 2 + 2 by omega, hv2]
    have l2 : (cur.toList.take (i * 2) ++ vs).length = i * 2 + 2 := by rw [List.length_append, l1, hv2]
    rw [List.take_append_of_le_length (l₁ := cur.toList.take (i * 2) ++ vs) (by omega), ← l2, List.take_length, List.take_append_of_le_length (by rw [List.length_append, l2, hlen]; omega), List.take_of_length_le (by rw [List.length_append, l2, hlen]; omega)]
  have FIN := Aside0.mk (show (setA (setA ROW (i * 2) vs) ((i + 1) * 2) cs).size = G * 2 by rw [setA_size, setA_size, hRs])
  have FIN2 := Aside0.mk hfin
  have N3 := Aside0.mk hN3
  have BB := Aside0.mk B3
  rw [← hcs]
  rw [← hW2] at hcpA
  rw [← hW3] at hcpB
  have hG63 : G ≤ 9223372036854775807 := hGm
  have hz2 : ¬ ((i : Int) = (cap : Int)) := by omega
  have hz3 : (cap : Int) < (cap : Int) + 1 := by omega
  have hw1 : IntKind.i64.wrap ((i : Int) + 1) = (i : Int) + 1 := by rw [IntKind.wrap_i64]; omega
  have hw2 : IntKind.i64.wrap ((cap : Int) + 1) = (cap : Int) + 1 := by rw [IntKind.wrap_i64]; omega
  have hw3 : IntKind.i64.wrap ((cap : Int) + 1 - (i : Int)) = ((cap + 1 - i : Nat) : Int) := by rw [IntKind.wrap_i64]; omega
  have hb1 : (0 : Int) ≤ (i : Int) + 1 := by omega
  have hin : i ≤ cap := by omega
  have htn : ((i : Int) + 1).toNat = i + 1 := by omega
  have hb2 : ¬ (cap = i) := by omega
  have hb3 : (i : Int) ≤ (cap : Int) + 1 := by omega
  have hGi : ¬ (G = i) := by omega
  have hGim : ¬ (G = i + 1) := by omega
  have mixed : Tryd.prog.follows Departure.mixedOrders = true := by kernel_rfl
  clear hbk hvbk hget hlen hcs hsz h1 h1v hv2 h1c holds hG hROW hzc hRs hN1 B1 hg1 hv1 hN2 g2 B2 hg2 hN3 g3 B3 hfin hW1 hW2 hW3 hik
  go_enter Tryd.func51, Tryd.ntmps51
  go_wp2_with (first
    | ((with_reducible refine gate_builtin (b := .append) (xs := #[.tmp 34, .tmp 39]) rfl ?_); refine Lib.wpList_append_run _ rfl _ _ _ _ rfl _ _ rfl rfl _ _ (hrz.out _ ((cap + 1 - i : Nat) : Int) rfl) ?_)
    | ((with_reducible refine gate_builtin (b := .copy) (xs := #[.tmp 43, .tmp 44]) rfl ?_); refine wpList_copy_runI _ rfl _ _ 22 22 rfl _ _ rfl rfl (hcpA.out _ (cap + 1 - i) (G - i) rfl) ?_))
  go_region_law_o (refine step_copy_runI rfl _ _ 22 22 rfl _ _ (by simp [Act.eval, Act.put]) (by simp [Act.eval, Act.put]) (hcpB.out _ (cap - i) (G - (i + 1)) (cap - i) (cap - i) rfl rfl) ?_)
  go_wp2_with fail
  go_ret
  exact ⟨G, _, hGn, hGm, rfl, BB.out, N3.out, FIN.out, FIN2.out⟩
end Go.Proofs.YtkabjbkefoipnaaDoor.Md
