import Derived.Test.YtkabjbkefoipnaaDoorGMd2
import Derived.Deep.RegionLaw
import Derived.Shelf.RegionOpenPlain
import Derived.Lib.SlicesDelete
namespace Go.Proofs.YtkabjbkefoipnaaDoor.Md
open Go.RowKit Go.Proofs.YtkabjbkefoipnaaDoorW.PrintWords Go.Proofs.YtkabjbkefoipnaaDoorW.PrintLast Go.Proofs.YtkabjbkefoipnaaDoorW.PrintMore Go.Proofs.YtkabjbkefoipnaaDoor.PM
set_option linter.unusedVariables false
set_option linter.unusedSimpArgs false
def setA : Array Value → Nat → List Value → Array Value
  | cs, _, [] => cs
  | cs, o, v :: r => setA (cs.setIfInBounds o v) (o + 1) r
theorem setA_size : ∀ (vs : List Value) (o : Nat) (cs : Array Value), (setA cs o vs).size = cs.size
  | [], _, _ => rfl
  | v :: r, o, cs => by unfold setA; rw [setA_size r]; simp
theorem setA_toList : ∀ (vs : List Value) (o : Nat) (cs : Array Value), o + vs.length ≤ cs.size → (setA cs o vs).toList = cs.toList.take o ++ vs ++ cs.toList.drop (o + vs.length)
  | [], o, cs, _ => by unfold setA; simp
  | v :: r, o, cs, h => by
    rw [List.length_cons] at h
    unfold setA
    rw [setA_toList r (o + 1) _ (by simp; omega), Array.toList_setIfInBounds]
    have ho : o < cs.toList.length := by rw [Array.length_toList]; omega
    have e1 : (cs.toList.set o v).take (o + 1) = cs.toList.take o ++ [v] := by
      rw [List.take_add_one, List.getElem?_set_self ho, List.take_set_of_le (Nat.le_refl o)]; rfl
    have e2 : (cs.toList.set o v).drop (o + 1 + r.length) = cs.toList.drop (o + 1 + r.length) := List.drop_set_of_lt (by omega)
    rw [e1, e2, List.length_cons, show o + (r.length + 1) = o + 1 + r.length by omega]
    simp
theorem blk_setCells {g : Nat} {t : TypeId} : ∀ (vs : List Value) (o : Nat) {w : World} {cs : Array Value}, w.heap[g]? = some (.cells cs t (0, 0)) → (w.setCells g o vs).heap[g]? = some (.cells (setA cs o vs) t (0, 0))
  | [], _, _, _, h => h
  | v :: r, o, w, cs, h => blk_setCells r (o + 1) (blk_set h o v)
theorem grown_set (w : World) (p : Addr) (u : Value) : w.grownBy (w.setCell p u) (some p.block) := ⟨rfl, rfl, rfl, by simp [World.setCell], fun i hi hne => Below.heap_setCell w p u i (fun e => hne (by rw [e]))⟩
theorem grown_trans {a b c : World} {row : Option Nat} (h : a.grownBy b row) (k : b.grownBy c row) : a.grownBy c row :=
  ⟨k.os.trans h.os, k.tape.trans h.tape, k.output.trans h.output, Nat.le_trans h.size k.size, fun i hi hne => (k.block i (Nat.lt_of_lt_of_le hi h.size) hne).trans (h.block i hi hne)⟩
theorem grown_refl (w : World) (row : Option Nat) : w.grownBy w row := ⟨rfl, rfl, rfl, Nat.le_refl _, fun _ _ _ => rfl⟩
theorem grown_setCells (g : Nat) : ∀ (vs : List Value) (o : Nat) (w : World), w.grownBy (w.setCells g o vs) (some g)
  | [], _, w => grown_refl w _
  | v :: r, o, w => grown_trans (grown_set w ⟨g, o, none⟩ v) (grown_setCells g r (o + 1) _)
theorem run_copy_sz {P : Program} (w : World) (dT sT ty elem : TypeId) (size : Nat) (b o dLen dCap : Nat) (a : Addr) (sLen sCap : Nat) (cs : List Value)
    (hu : P.underlying dT = some (.slice elem)) (hs : (P.info? elem).map (·.size) = some size) (hn : cs.length = Nat.min sLen dLen * size)
    (hsrc : ∀ j v, cs[j]? = some v → w.cell? (a.add j) = some v) (hc : ∀ j, j < cs.length → (w.cell? ⟨b, o + j, none⟩).isSome = true) (hf : ∀ j, j < cs.length → w.frozen? ⟨b, o + j, none⟩ = false) (h1 : ∀ v ∈ cs, v.oneCell' = true) :
    (Builtin.copy_ #[dT, sT] ty #[.slice (some ⟨b, o, none⟩) dLen dCap, .slice (some a) sLen sCap]).run P w = .ok (goInt (Nat.min sLen dLen)) (w.setCells b o cs) := by
  have hl := run_loadCells_list (P := P) w a cs hsrc
  have hst := run_storeCells_cells (P := P) b o cs 0 w (by simpa using hc) (by simpa using hf) h1
  cases hq : P.info? elem with
  | none => simp [hq] at hs
  | some i =>
    have hi : i.size = size := by simpa [hq] using hs
    rw [hn] at hl
    simp [Builtin.copy_, run_underlying hu, Builtin.lenOf, Builtin.firstCells, sizeOf, typeInfo, hq, hi, hl, hst]
theorem run_clear_sz {P : Program} (w : World) (t e ty : TypeId) (z : Value) (ht : P.underlying t = some (.slice e)) (hv : ∀ w, (zeroValue e).run P w = .ok z w) (hz : ∀ u ∈ z.cells.toList, u.oneCell' = true) (b o c : Nat)
    (hc : ∀ j, j < z.cells.size → (w.cell? ⟨b, o + j, none⟩).isSome = true) (hf : ∀ j, j < z.cells.size → w.frozen? ⟨b, o + j, none⟩ = false) :
    (Builtin.clear_ #[t] ty #[.slice (some ⟨b, o, none⟩) 1 c]).run P w = .ok (.tuple #[]) (w.setCells b o z.cells.toList) := by
  have hzc : (Builtin.zeroCells z.cells 1).toList = z.cells.toList := by
    simp [Builtin.zeroCells]
    apply List.ext_getElem
    · simp
    · intro i h1 h2
      simp at h1 h2
      simp only [Array.getElem_toList, List.getElem_toArray, Array.getElem_map, Array.getElem_range, Nat.mod_eq_of_lt h2, getElem!_pos z.cells i h2, List.getElem_map, List.getElem_range, Array.getElem_ofFn]
      try simp [Nat.mod_eq_of_lt h2, getElem!_pos z.cells i h2]
  have hst := run_storeCells_cells (P := P) b o z.cells.toList 0 w (by simpa using hc) (by simpa using hf) hz
  simp only [Nat.add_zero] at hst
  simp [Builtin.clear_, run_underlying ht, hv, hzc, hst]
theorem info3 : ∃ i, Tryd.prog.info? 25 = some i ∧ i.zero = some (.agg #[.int .i64 0, .bool false, .slice none 0 0]) ∧ i.size = 3 ∧ i.bytes = 40 := by
  have h := info25
  obtain ⟨i, hi, he⟩ := Option.map_eq_some_iff.1 h
  simp only [Prod.mk.injEq] at he
  exact ⟨i, hi, he.1, he.2.1, he.2.2⟩
theorem info2 : ∃ i, Tryd.prog.info? 39 = some i ∧ i.zero = some (.agg #[.string ⟨#[]⟩, .slice none 0 0]) ∧ i.size = 2 ∧ i.bytes = 40 := by
  have h := infoS
  obtain ⟨i, hi, he⟩ := Option.map_eq_some_iff.1 h
  simp only [Prod.mk.injEq] at he
  exact ⟨i, hi, he.1, he.2.1, he.2.2⟩
set_option maxRecDepth 20000 in
set_option maxHeartbeats 4000000 in
theorem Delete_run (g n cap : Nat) (cur : Array Value) (w : World) (hbk : w.heap[g]? = some (.cells cur 25 (0, 0))) (hn : n + 1 ≤ cap) (hm : cap ≤ 9223372036854775807) (hsz : cur.size = cap * 3) (h1 : ∀ u ∈ cur.toList.take ((n + 1) * 3), u.oneCell' = true) :
    Calls Tryd.prog 52 #[.slice (some ⟨g, 0, none⟩) (n + 1) cap, .int .i64 0, .int .i64 1] w fun e w' => e = .returned (.slice (some ⟨g, 0, none⟩) n cap) ∧ w' = (w.drew.setCells g 0 ((cur.toList.take ((n + 1) * 3)).drop 3)).setCells g (n * 3) [.int .i64 0, .bool false, .slice none 0 0] := by
  obtain ⟨i0, hi0, hz0, hs0, hb0⟩ := info3
  obtain ⟨news, hnews⟩ : ∃ news, news = (cur.toList.take ((n + 1) * 3)).drop 3 := ⟨_, rfl⟩
  have hlen : news.length = n * 3 := by rw [hnews, List.length_drop, List.length_take, Array.length_toList]; omega
  have hget : ∀ t u, news[t]? = some u → cur[3 + t]? = some u := by
    intro t u hu
    rw [hnews, List.getElem?_drop, List.getElem?_take] at hu
    split at hu
    · rwa [Array.getElem?_toList] at hu
    · cases hu
  obtain ⟨A, hA, hsrc⟩ : ∃ A : Addr, (if cap = 1 then some (⟨g, 0, none⟩ : Addr) else some ⟨g, 3, none⟩) = some A ∧ Aside0 (∀ t u, news[t]? = some u → w.drew.cell? (A.add t) = some u) := by
    by_cases h : cap = 1
    · refine ⟨⟨g, 0, none⟩, by simp [h], ⟨fun t u hu => ?_⟩⟩
      have h0 : news.length = 0 := by rw [hlen]; omega
      rw [List.length_eq_zero_iff.1 h0] at hu
      simp at hu
    · refine ⟨⟨g, 3, none⟩, by simp [h], ⟨fun t u hu => ?_⟩⟩
      rw [Addr.add_lit]
      exact (blk_cell (blk_drew hbk) (3 + t)).trans (hget t u hu)
  have s2 : Aside0 (∀ u ∈ news, u.oneCell' = true) := ⟨fun u hu => h1 u (List.mem_of_mem_drop (hnews ▸ hu))⟩
  have s3 : Aside0 (∀ t, t < news.length → (w.drew.cell? ⟨g, 0 + 0 * 3 + t, none⟩).isSome = true ∧ w.drew.frozen? ⟨g, 0 + 0 * 3 + t, none⟩ = false) := ⟨fun t ht => by
    refine ⟨?_, blk_frozen (blk_drew hbk) _⟩
    rw [blk_cell (blk_drew hbk), Array.getElem?_eq_getElem (by omega)]; rfl⟩
  obtain ⟨W1, hW1⟩ : ∃ W1, W1 = w.drew.setCells g 0 news := ⟨_, rfl⟩
  have hbk1 : W1.heap[g]? = some (.cells (setA cur 0 news) 25 (0, 0)) := by rw [hW1]; exact blk_setCells news 0 (blk_drew hbk)
  have hcl : ∀ ty cc, (Builtin.clear_ #[37] ty #[.slice (some ⟨g, n * 3, none⟩) 1 cc]).run Tryd.prog W1 = .ok (.tuple #[]) (W1.setCells g (n * 3) [.int .i64 0, .bool false, .slice none 0 0]) :=
    fun ty cc => run_clear_sz W1 _ _ ty (.agg #[.int .i64 0, .bool false, .slice none 0 0]) Tryd.underlying37 Tryd.zeroValue25 (by intro u hu; simp [Value.cells] at hu; rcases hu with rfl | rfl | rfl <;> rfl) g (n * 3) cc
      (fun j hj => by rw [blk_cell hbk1, Array.getElem?_eq_getElem (by rw [setA_size]; simp [Value.cells] at hj; omega)]; rfl) (fun j hj => blk_frozen hbk1 _)
  have hW : Aside0 (W1 = w.drew.setCells g 0 news) := ⟨hW1⟩
  have H1 : ∀ x : Nat, (1 : Int) ≤ ((x + 1 : Nat) : Int) := fun x => by omega
  have c1 : (1 : Int) ≤ (n : Int) + 1 := by omega
  have c2 : (1 : Nat) ≤ n + 1 := by omega
  have c3 : 1 ≤ cap := by omega
  have LEN := Aside0.mk hlen
  have mixed : Tryd.prog.follows Departure.mixedOrders = true := by kernel_rfl
  rw [← hnews, ← hW1]
  clear hbk hbk1 hget hnews hW1 hlen h1
  go_enter Tryd.func52, Tryd.ntmps52
  go_wp2_with fail
  go_region_law_o (refine step_append_room rfl (.tmp 22) (.tmp 25) 37 rfl 25 i0 3 Tryd.underlying37 hi0 hs0 g 0 0 cap (by simp [Act.eval, Act.put]) A n (cap - 1) news (by simp [Act.eval, Act.put]) LEN.out hsrc.out s2.out (by omega) s3.out ?_; rw [← hW.out])
  go_wp2_with fail
  go_ret
  exact ⟨rfl, rfl⟩
end Go.Proofs.YtkabjbkefoipnaaDoor.Md
