/- The example holds: the walk of wakes. -/
import Derived.Test.YtingegkipimakaaAe10
namespace Go.Proofs.Ytingegkipimakaa.Ae
open Go.RowKit Go.Proofs.YtingegkipimakaaW.PrintWords Go.Proofs.YtingegkipimakaaW.PrintLast Go.Proofs.YtingegkipimakaaW.PrintMore Go.Proofs.Ytingegkipimakaa.PA
set_option linter.unusedVariables false
set_option linter.unusedSimpArgs false

theorem Bk.range {w : World} {g : Nat} {t : TypeId} {l : List Int} (h : Bk w g t l) : w.rangeAt g 0 (l.map (Value.int .u8)) := by
  intro j v hv
  rw [cell_of_row w g (0 + j) _ t (0, 0) h]
  simpa [u8s] using hv
theorem below_then {w W W1 : World} (h2 : Below W.heap.size W W1) (h1 : Below w.heap.size w W) : Below w.heap.size w W1 := h1.trans (h2.mono h1.size)
theorem take_load {P : Program} {md : Region.Mode} {ops : Array Oper} {Q : Exit → Act → World → Prop} {S : World → Prop} (i : Nat) {oi : Oper} {fuel : Nat} {listed : Array Bool} {a : Act} {w : World} {n : Nat} (hi : ops[i]? = some oi)
    (hs : Region.noSelect ops = true) (hf : Region.free md ops listed i = true) (hr : (Region.ready md ops listed).contains i = true)
    (hQ : ∀ v c a w, Q (.panic c) (a.put oi.dst v) w → Q (.panic c) a w) (ty : TypeId) (x : Operand) (ho : oi.op = .load ty x) (hw : Region.wanted oi (yielded ops a.tmps) = true)
    (g : Nat) (t : TypeId) (l : List Int) (hx : a.eval x = .pointer (some ⟨g, 0, none⟩)) (hA : ArrT P ty n) (hl : l.length = n) (hS : ∀ W, S W → Bk W g t l) (hSw : S w)
    (h : wpAnyH P md ops Q S fuel (listed.setIfInBounds i true) (a.put oi.dst (.agg (u8s l))) w) : wpAnyH P md ops Q S (fuel + 1) listed a w := by
  obtain ⟨d, h1, h2⟩ := hA.und
  exact wpAnyH_take hi hs hf hr (hQ _) (yieldsIf_load_mid hw ty x ho g 0 hx (l.map (Value.int .u8)) d (fun W hW => (hS W hW).range) h1 h2 (by rw [hA.info, List.length_map, hl])) hSw h

def kf (n : Nat) : Int := n
def xf (n : Nat) : Int := 17 * n
theorem key0_is : fillL kf (List.replicate 32 0) 32 = key0 := by decide
theorem x0_is : fillL xf (List.replicate 16 0) 16 = x0 := by decide
theorem key0_by : By key0 := By.ofMem (by decide)
theorem x0_by : By x0 := By.ofMem (by decide)
theorem T_by (n : Nat) : By (T n) := by
  induction n with
  | zero => exact By.zeros 256
  | succ n ih => exact ih.set _ _ (bits_by _ _ _).1 (bits_by _ _ _).2
theorem tab_by : By tabL := (T_by 255).set _ _ (by decide) (by decide)
theorem boxL_by {key : List Int} (h : By key) : By (boxL key) := by
  intro i
  rw [boxL, List.getD_eq_getElem?_getD, List.getElem?_append]
  split
  · have := tab_by i
    rwa [List.getD_eq_getElem?_getD] at this
  · have := (wrd_by tabL h 52) (i - tabL.length)
    rwa [List.getD_eq_getElem?_getD] at this
structure Ws (w W : World) (k x : List Int) : Prop where
  below : Below w.heap.size w W
  k : Bk W w.heap.size 23 k
  x : Bk W (w.heap.size + 1) 24 x
theorem Ws.call {w W W1 : World} {k x : List Int} (h : Ws w W k x) (hb : Below W.heap.size W W1) : Ws w W1 k x := ⟨below_then hb h.below, h.k.below hb h.k.lt, h.x.below hb h.x.lt⟩
theorem Ws.drew {w W : World} {k x : List Int} (h : Ws w W k x) : Ws w W.drew k x := ⟨h.below.drew, h.k, h.x⟩
theorem Ws.setK {w W : World} {k x : List Int} (h : Ws w W k x) (j : Nat) (v : Int) : Ws w (W.setCell ⟨w.heap.size, j, none⟩ (.int .u8 v)) (k.set j v) x :=
  ⟨h.below.setCell (Nat.le_refl _) _, h.k.set j v, h.x.other _ _ (by show w.heap.size + 1 ≠ w.heap.size; omega)⟩
theorem Ws.setX {w W : World} {k x : List Int} (h : Ws w W k x) (j : Nat) (v : Int) : Ws w (W.setCell ⟨w.heap.size + 1, j, none⟩ (.int .u8 v)) k (x.set j v) :=
  ⟨h.below.setCell (by show w.heap.size ≤ w.heap.size + 1; omega) _, h.k.other _ _ (by show w.heap.size ≠ w.heap.size + 1; omega), h.x.set j v⟩

attribute [local irreducible] blockL boxL fillL in
set_option maxHeartbeats 1000000 in
set_option maxRecDepth 20000 in
theorem wakes_calls (w : World) : Calls Try.prog 10 #[] w fun e w' => e = .returned (.bool true) ∧ Below w.heap.size w w' := by
  obtain ⟨z, hz32⟩ : ∃ z, z = List.replicate 32 (0 : Int) := ⟨_, rfl⟩
  have hz := (zero_of_info (P := Try.prog) (t := 23) (v := .agg (u8s (List.replicate 32 0))) (n := 32) (by kernel_rfl)).1
  rw [← hz32] at hz
  have HZ := Aside0.mk hz32
  have HZL := Aside0.mk (show z.length = 32 by rw [hz32]; rfl)
  clear hz32
  go_enter Try.func10, Try.ntmps10
  go_wp2_with fail
  have N0 := Aside0.mk (show Ws w ((w.alloc (Obj.cells (u8s z) 23)).alloc (Obj.cells (u8s zs) 24)) z zs from
    ⟨((Below.refl _ _).alloc (Nat.le_refl _) _).alloc (by rw [alloc_size]; omega) _, (Bk.new _ _ _).alloc _, by unfold Bk; exact heap_alloc2_new _ _ _⟩)
  clear hz
  go_loopg [5] 32 (fun kq v5 w' => ∃ (n : Nat), v5 = .int .i64 (n : Int) ∧ Aside0 (n + kq = 32) ∧ Aside0 (Ws w w' (fillL kf z n) zs))
  case atStart => exact ⟨0, rfl, ⟨rfl⟩, ⟨by rw [fillL_zero]; exact N0.out⟩⟩
  case round =>
    clear N0
    obtain ⟨n, rfl, HQ, HN⟩ := hrel
    have hq := HQ.out
    cases gk with
    | succ k1 =>
      have hn : n < 32 := by omega
      have hn3 : (n : Int) < 32 := by omega
      have c0 := HN.out.k.cell n (by rw [fillL_length, HZL.out]; exact hn)
      have f0 := HN.out.k.frozen n
      clear hq
      go_wp2_with fail
      go_roundg k1
      case measure => omega
      case rel =>
        refine ⟨n + 1, by simp, ⟨by have := HQ.out; omega⟩, ⟨?_⟩⟩
        rw [fillL_succ]
        exact HN.out.setK n _
    | zero =>
      obtain rfl : n = 32 := by omega
      clear hq HQ
      go_wp2_with fail
      go_loopg [13] 16 (fun kq v13 w' => ∃ (n : Nat), v13 = .int .i64 (n : Int) ∧ Aside0 (n + kq = 16) ∧ Aside0 (Ws w w' (fillL kf z 32) (fillL xf zs n)))
      case atStart => exact ⟨0, rfl, ⟨rfl⟩, ⟨by rw [fillL_zero]; exact HN.out⟩⟩
      case round =>
        clear HN
        obtain ⟨n, rfl, HQ, HN⟩ := hrel
        have hq := HQ.out
        cases gk with
        | succ k1 =>
          have hn : n < 16 := by omega
          have hn3 : (n : Int) < 16 := by omega
          have c0 := HN.out.x.cell n (by rw [fillL_length]; exact hn)
          have f0 := HN.out.x.frozen n
          clear hq
          go_wp2_with fail
          go_roundg k1
          case measure => omega
          case rel =>
            refine ⟨n + 1, by simp, ⟨by have := HQ.out; omega⟩, ⟨?_⟩⟩
            rw [show fillL xf zs (n + 1) = (fillL xf zs n).set n (xf n) from fillL_succ _ _ _]
            exact HN.out.setX n _
        | zero =>
          obtain rfl : n = 16 := by omega
          clear hq HQ
          go_wp2_with fail
          have hN := HN.out
          rw [HZ.out, key0_is, show zs = List.replicate 16 0 from rfl, x0_is] at hN
          obtain ⟨k, hk⟩ : ∃ k, k = key0 := ⟨_, rfl⟩
          obtain ⟨x, hx⟩ : ∃ x, x = x0 := ⟨_, rfl⟩
          have HKL := Aside0.mk (show k.length = 32 by rw [hk]; rfl)
          have HXL := Aside0.mk (show x.length = 16 by rw [hx]; rfl)
          have HKB := Aside0.mk (show By k by rw [hk]; exact key0_by)
          have HXB := Aside0.mk (show By x by rw [hx]; exact x0_by)
          have hS : Ws w wr k x := by rw [hk, hx]; exact hN
          have HY := Aside0.mk (show blockL (boxL k) x = y0 by rw [hk, hx]; exact example0)
          have HE : ∀ W, (Op.equalIn 10000 24 (.agg (u8s y0)) (.agg #[Value.int .u8 142, Value.int .u8 162, Value.int .u8 183, Value.int .u8 202, Value.int .u8 81, Value.int .u8 103, Value.int .u8 69, Value.int .u8 191, Value.int .u8 234, Value.int .u8 252, Value.int .u8 73, Value.int .u8 144, Value.int .u8 75, Value.int .u8 73, Value.int .u8 96, Value.int .u8 137])).run Try.prog W = .ok true W := fun W => (eq16 y0 y0 rfl rfl W).trans (by simp)
          clear hk hx hN HN
          refine wp_region_noPanic ?_
          refine wp_region_held_drew (S := fun W => Ws w W k x) (by kernel_rfl) (hS.drew) (fun hHeld => ?_)
          clear hS
          refine take_load 0 (oi := { dst := some 22, op := _, type := _, pos := _, after := _, guard := _ }) rfl (by kernel_rfl) (by kernel_rfl) (by kernel_rfl) (fun _ _ _ _ h => h) 23 (.tmp 1) rfl (by rfl) w.heap.size 23 k (by rfl) arrKey HKL.out (fun W h => h.k) hHeld ?_
          try simp only [Act.put, List.setIfInBounds_toArray, List.set_cons_zero, List.set_cons_succ]
          refine take_load 2 (oi := { dst := some 24, op := _, type := _, pos := _, after := _, guard := _ }) rfl (by kernel_rfl) (by kernel_rfl) (by kernel_rfl) (fun _ _ _ _ h => h) 24 (.tmp 2) rfl (by rfl) (w.heap.size + 1) 24 x (by rfl) arr16 HXL.out (fun W h => h.x) hHeld ?_
          try simp only [Act.put, List.setIfInBounds_toArray, List.set_cons_zero, List.set_cons_succ]
          refine wpAnyH_take (i := 4) (oi := { dst := some 26, op := _, type := _, pos := _, after := _, guard := _ }) (v := ?_) rfl (by kernel_rfl) (by kernel_rfl) (by kernel_rfl) (fun _ _ _ h => h) (Or.inl ⟨by rfl, ?_⟩) hHeld ?_
          rotate_left
          · (intro w hSw; go_simp) <;> (with_reducible rfl)
          try simp only [Act.put, List.setIfInBounds_toArray, List.set_cons_zero, List.set_cons_succ]
          refine wpAnyH_ready (rs := [1]) (by kernel_rfl) (by simp) (AllReadyH.cons (o := { dst := some 23, op := _, type := _, pos := _, after := _, guard := _ }) rfl (fun K hK => ?_) AllReadyH.nil)
          go_simp
          refine (new_calls _ k HKL.out HKB.out).mono ?_
          rintro e w1 ⟨gb, rfl, hgb, hbk, hbl⟩
          refine hK.out _ _ (hHeld.call hbl) (fun hHeld2 => ?_)
          clear hK K hHeld
          have hHeld := hHeld2
          clear hHeld2
          try simp only [Act.put, List.setIfInBounds_toArray, List.set_cons_zero, List.set_cons_succ]
          refine wpAnyH_ready (rs := [3]) (by kernel_rfl) (by simp) (AllReadyH.cons (o := { dst := some 25, op := _, type := _, pos := _, after := _, guard := _ }) rfl (fun K hK => ?_) AllReadyH.nil)
          go_simp
          refine (block_calls _ gb (boxL k) x hbk (boxL_length k) (boxL_by HKB.out) HXL.out HXB.out).mono ?_
          rintro e w2 ⟨rfl, hbl2⟩
          refine hK.out _ _ (hHeld.call hbl2) (fun hHeld2 => ?_)
          clear hK K hHeld
          have hHeld := hHeld2
          clear hHeld2
          try simp only [Act.put, List.setIfInBounds_toArray, List.set_cons_zero, List.set_cons_succ]
          rw [HY.out]
          refine wpAnyH_take (i := 5) (oi := { dst := some 27, op := _, type := _, pos := _, after := _, guard := _ }) (v := ?_) rfl (by kernel_rfl) (by kernel_rfl) (by kernel_rfl) (fun _ _ _ h => h) (Or.inl ⟨by rfl, ?_⟩) hHeld ?_
          rotate_left
          · (intro w hSw; go_simp) <;> (with_reducible rfl)
          try simp only [Act.put, List.setIfInBounds_toArray, List.set_cons_zero, List.set_cons_succ]
          refine wpAnyH_take (i := 6) (oi := { dst := some 0, op := _, type := _, pos := _, after := _, guard := _ }) (v := ?_) rfl (by kernel_rfl) (by kernel_rfl) (by kernel_rfl) (fun _ _ _ h => h) (Or.inl ⟨by rfl, ?_⟩) hHeld ?_
          rotate_left
          · (intro w hSw; go_simp) <;> (with_reducible rfl)
          try simp only [Act.put, List.setIfInBounds_toArray, List.set_cons_zero, List.set_cons_succ]
          refine wpAnyH_done (by kernel_rfl) ?_ _
          refine NoPanic.normal ?_
          go_wp2_with fail
          go_ret
          exact ⟨rfl, hHeld.below⟩

end Go.Proofs.Ytingegkipimakaa.Ae
