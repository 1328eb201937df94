/- frame: the walk of Name. -/
import Derived.Test.YtcffacpdjcfidaaDoorFr1
import Derived.Test.YtcffacpdjcfidaaDoorShelf
import Derived.WalkKit
import Derived.BigCall
import Derived.WalkSpells
import Derived.Deep.WholeRow
import Derived.Deep.LoopGhost
import Derived.Lib.AppendIntMem
import Derived.Lib.ItoaLen
namespace Go.Proofs.YtcffacpdjcfidaaDoor.Fr
open Go.Lib Go.RowKit Go.Proofs.YtcffacpdjcfidaaDoorW.PrintWords Go.Proofs.YtcffacpdjcfidaaDoorW.PrintLast Go.Proofs.YtcffacpdjcfidaaDoorW.PrintMore Go.Proofs.YtcffacpdjcfidaaDoor.PF
set_option linter.unusedVariables false
set_option linter.unusedSimpArgs false

abbrev u8s (l : List Int) : Array Value := (l.map (Value.int .u8)).toArray
def Bk (w : World) (g : Nat) (t : TypeId) (l : List Int) : Prop := w.heap[g]? = some (.cells (u8s l) t (0, 0))

theorem Bk.cell {w : World} {g : Nat} {t : TypeId} {l : List Int} (h : Bk w g t l) (j : Nat) (hj : j < l.length) : w.cell? ⟨g, j, none⟩ = some (.int .u8 (l.getD j 0)) := by
  rw [cell_of_row w g j _ t (0, 0) h]
  simp [u8s, hj]
theorem Bk.frozen {w : World} {g : Nat} {t : TypeId} {l : List Int} (h : Bk w g t l) (j : Nat) : w.frozen? ⟨g, j, none⟩ = false := frozen_of_row w g j _ t h
theorem Bk.set {w : World} {g : Nat} {t : TypeId} {l : List Int} (h : Bk w g t l) (j : Nat) (x : Int) : Bk (w.setCell ⟨g, j, none⟩ (.int .u8 x)) g t (l.set j x) := by
  unfold Bk
  rw [heap_setCell_same w g j _ t _ h]
  simp [u8s]
theorem Bk.other {w : World} {g : Nat} {t : TypeId} {l : List Int} (h : Bk w g t l) (a : Addr) (v : Value) (hg : g ≠ a.block) : Bk (w.setCell a v) g t l := by
  unfold Bk
  rw [heap_setCell_other w a g v hg]
  exact h
theorem Bk.drew {w : World} {g : Nat} {t : TypeId} {l : List Int} (h : Bk w g t l) : Bk w.drew g t l := h
theorem Bk.alloc {w : World} {g : Nat} {t : TypeId} {l : List Int} (h : Bk w g t l) (o : Obj) : Bk (w.alloc o) g t l := by
  unfold Bk
  rw [show (w.alloc o).heap[g]? = w.heap[g]? from by show (w.heap.push o)[g]? = w.heap[g]?; rw [Array.getElem?_push, if_neg (Nat.ne_of_lt (blk_lt h))]]
  exact h
theorem Bk.new (w : World) (t : TypeId) (l : List Int) : Bk (w.alloc (.cells (u8s l) t)) w.heap.size t l := heap_alloc_new w _
theorem Bk.lt {w : World} {g : Nat} {t : TypeId} {l : List Int} (h : Bk w g t l) : g < w.heap.size := blk_lt h
theorem Bk.below {w w' : World} {g B : Nat} {t : TypeId} {l : List Int} (h : Bk w g t l) (k : Below B w w') (hg : g < B) : Bk w' g t l := by
  unfold Bk
  rw [k.block g hg]
  exact h

theorem Bk.setRow {w : World} {g : Nat} {t : TypeId} {l : List Int} (h : Bk w g t l) (l' : List Int) : Bk (w.setRow g (u8s l')) g t l' := setRow_heap w g _ _ t _ h
theorem Bk.rowOther {w : World} {g : Nat} {t : TypeId} {l : List Int} (h : Bk w g t l) (g' : Nat) (cs : Array Value) (hg : g ≠ g') : Bk (w.setRow g' cs) g t l := by
  unfold Bk
  rw [setRow_other w g' g cs hg]
  exact h
theorem below_setRow {B : Nat} {w W : World} {g : Nat} (h : Below B w W) (hg : B ≤ g) (cs : Array Value) : Below B w (W.setRow g cs) :=
  ⟨h.os, h.tape, h.output, by simp; exact h.size, fun k hk => (setRow_other W g k cs (by omega)).trans (h.block k hk)⟩
theorem u8s_size (l : List Int) : (u8s l).size = l.length := by simp [u8s]
theorem u8s_one (l : List Int) : (u8s l).all (·.oneCell') = true := by
  rw [Array.all_eq_true_iff_forall_mem]
  intro v hv
  simp [u8s] at hv
  obtain ⟨x, _, rfl⟩ := hv
  rfl

theorem alloc_size (w : World) (o : Obj) : (w.alloc o).heap.size = w.heap.size + 1 := by show (w.heap.push o).size = _; simp

/-- How many cells an array's type has, and that it is one. -/
structure ArrT (P : Program) (ty : TypeId) (n : Nat) : Prop where
  und : ∃ d, P.underlying ty = some d ∧ (match d with | .struct _ | .array _ _ => true | _ => false) = true
  info : (P.info? ty).map (·.size) = some n

theorem load_bk {P : Program} {ops : Array Oper} {rest : List Oper} {o : Oper} {a : Act} {w : World} {Q : Exit → Act → World → Prop} {n : Nat} (ty : TypeId) (x : Operand) (ho : o.op = .load ty x) (hgd : o.guard = none)
    (g : Nat) (t : TypeId) (l : List Int) (hx : a.eval x = .pointer (some ⟨g, 0, none⟩)) (hA : ArrT P ty n) (hg : Bk w g t l) (hl : l.length = n)
    (h : wpList P ops Q rest (a.put o.dst (.agg (u8s l))) w) : wpList P ops Q (o :: rest) a w := by
  obtain ⟨d, h1, h2⟩ := hA.und
  exact wpList_load_row hgd ty x ho g hx t _ (0, 0) d hg h1 (by cases d <;> first | rfl | cases h2) (by rw [hA.info, u8s_size, hl]) h

def Bytes (l : List Int) : Prop := ∀ x, x ∈ l → 0 ≤ x ∧ x ≤ 255
theorem Bytes.get {l : List Int} (h : Bytes l) (i : Nat) (hi : i < l.length) : 0 ≤ l.getD i 0 ∧ l.getD i 0 ≤ 255 := by
  have := h l[i] (List.getElem_mem hi)
  simpa [List.getD_eq_getElem?_getD, hi] using this
theorem arrId : ArrT Tryd.prog 23 16 := ⟨⟨_, Tryd.underlying23, rfl⟩, by kernel_rfl⟩
theorem idx_arr (l : List Int) (i : Nat) (hi : i < 16) (hl : l.length = 16) (w : World) : (Instr.index 23 (.agg (u8s l)) (.int .i64 (i : Int))).run Tryd.prog w = .ok (.int .u8 (l.getD i 0)) w := by
  have h1 : i < l.length := by omega
  simp [Instr.index, run_underlying Tryd.underlying23, asIntOf, go_sem, u8s]
  rw [if_pos hi, List.getElem?_eq_getElem h1]
  rfl

theorem hexget0 : ∀ n : Fin 16, ((⟨#[48, 49, 50, 51, 52, 53, 54, 55, 56, 57, 97, 98, 99, 100, 101, 102]⟩ : ByteArray)[n.val]'(n.isLt)).toNat = hexN n.val := by decide
theorem hexget (n : Nat) (h : n < 16) (pf) : (((⟨#[48, 49, 50, 51, 52, 53, 54, 55, 56, 57, 97, 98, 99, 100, 101, 102]⟩ : ByteArray)[n]'pf).toNat : Int) = (hexN n : Int) := by
  have := hexget0 ⟨n, h⟩
  simp only at this
  rw [← this]
set_option maxRecDepth 20000 in
theorem and15 : ∀ n : Fin 256, Go.bits .and .u8 (n.val : Int) 15 = ((n.val % 16 : Nat) : Int) := by decide +kernel

/-- The letters of some bytes. -/
def hexI : List Int → List Int
  | [] => []
  | b :: l => (hexN (b.toNat / 16) : Int) :: (hexN (b.toNat % 16) : Int) :: hexI l
theorem hexI_append (l m : List Int) : hexI (l ++ m) = hexI l ++ hexI m := by
  induction l with
  | nil => rfl
  | cons b l ih => simp only [List.cons_append, hexI, ih]
theorem hexI_length (l : List Int) : (hexI l).length = 2 * l.length := by
  induction l with
  | nil => rfl
  | cons b l ih => simp only [hexI, List.length_cons, ih]; omega
theorem take_one (l : List Int) (i : Nat) (h : i < l.length) : l.take (i + 1) = l.take i ++ [l.getD i 0] := by
  rw [List.take_add_one, List.getElem?_eq_getElem h]
  simp [List.getD_eq_getElem?_getD, h]

theorem lit_R (w : World) (base : Nat) (a : Int) (hb : base ≤ w.heap.size) : (Kd.int .u8).R 5 (w.alloc (.cells #[.int .u8 a] 5)) base (fun _ => True) (.slice (some ⟨w.heap.size, 0, none⟩) 1 1) [a] :=
  Kd.R_of_own (⟨by simp, .inr ⟨w.heap.size, 1, #[.int .u8 a], rfl, hb, heap_alloc_new w _, by omega, by unfold maxLen; omega, rfl, by simp⟩⟩ : (w.alloc (.cells #[.int .u8 a] 5)).ownsRow base 5 1 (.slice (some ⟨w.heap.size, 0, none⟩) 1 1) 1 ([a].map (Value.int .u8))) (fun _ _ => trivial)

theorem lit_C (w : World) (a b : Int) : (Kd.int .u8).C (w.alloc (.cells #[.int .u8 a, .int .u8 b] 5)).drew (some ⟨w.heap.size, 0, none⟩) 2 [a, b] := by
  have h : (Kd.int .u8).R 5 (w.alloc (.cells #[.int .u8 a, .int .u8 b] 5)) w.heap.size (fun _ => True) (.slice (some ⟨w.heap.size, 0, none⟩) 2 2) [a, b] :=
    Kd.R_of_own (⟨by simp, .inr ⟨w.heap.size, 2, #[.int .u8 a, .int .u8 b], rfl, Nat.le_refl _, heap_alloc_new w _, by omega, by unfold maxLen; omega, rfl, by simp⟩⟩ : (w.alloc (.cells #[.int .u8 a, .int .u8 b] 5)).ownsRow w.heap.size 5 1 (.slice (some ⟨w.heap.size, 0, none⟩) 2 2) 2 ([a, b].map (Value.int .u8))) (fun _ _ => trivial)
  obtain ⟨A, c, e, _, hC⟩ := Kd.R_reads h
  injection e with e1 e2 e3
  subst e1
  exact hC

theorem lit1_C (w : World) (a : Int) : (Kd.int .u8).C (w.alloc (.cells #[.int .u8 a] 5)) (some ⟨w.heap.size, 0, none⟩) 1 [a] := by
  obtain ⟨A, c, e, _, hC⟩ := Kd.R_reads (lit_R w w.heap.size a (Nat.le_refl _))
  injection e with e1 e2 e3
  subst e1
  exact hC
theorem tab_below {w w' : World} (h : Lib.TabIs Tryd.prog w "internal/strconv.uint64pow10" .u64 Lib.pow10Tab) (hb : Below w.heap.size w w') : Lib.TabIs Tryd.prog w' "internal/strconv.uint64pow10" .u64 Lib.pow10Tab := by
  unfold Lib.TabIs World.var? at h ⊢
  rw [show Tryd.prog.globalNamed "internal/strconv.uint64pow10" = some 0 by kernel_rfl] at h ⊢
  simp only [Option.bind_some] at h ⊢
  have hlt : 0 < w.heap.size := by
    rcases Nat.lt_or_ge 0 w.heap.size with h' | h'
    · exact h'
    · rw [Array.getElem?_eq_none h'] at h; cases h
  rw [hb.block 0 hlt]
  exact h
theorem tab_back {w w' : World} (h : Lib.TabIs Tryd.prog w "internal/strconv.uint64pow10" .u64 Lib.pow10Tab) (hb : Below w.heap.size w w') : Lib.TabIs Tryd.prog w' "internal/strconv.uint64pow10" .u64 Lib.pow10Tab := tab_below h hb
theorem itoa_calls (n : Int) (w : World) (hn : -9223372036854775808 ≤ n ∧ n ≤ 9223372036854775807) (hT : Lib.TabIs Tryd.prog w "internal/strconv.uint64pow10" .u64 Lib.pow10Tab) :
    Calls Tryd.prog 7 #[.int .i64 n] w fun e w' => e = .returned (.string ⟨(Lib.itoa n).toArray⟩) ∧ Below w.heap.size w w' := by
  refine (Tryd.strconv_Itoa n hn.1 hn.2 w hT).mono ?_
  rintro e w' ⟨rfl, k, os, rfl⟩
  exact ⟨rfl, Lib.below_grow _ _ (Nat.le_refl _) _ _⟩

set_option maxHeartbeats 8000000 in
set_option maxRecDepth 1000000 in
theorem Name_calls (l : List Int) (n : Int) (hl : l.length = 16) (hb : Bytes l) (h0 : -9223372036854775808 ≤ n) (h1 : n ≤ 9223372036854775807) (w : World) (hT : Lib.TabIs Tryd.prog w "internal/strconv.uint64pow10" .u64 Lib.pow10Tab) :
    Calls Tryd.prog 5 #[.agg (u8s l), .int .i64 n] w fun e w' => e = .returned (.string (strOfNums (102 :: hexI l ++ [46]) ++ ⟨(Lib.itoa n).toArray⟩)) ∧ Below w.heap.size w w' := by
  have HN := Aside0.mk (show -9223372036854775808 ≤ n ∧ n ≤ 9223372036854775807 from ⟨h0, h1⟩)
  have HT0 := Aside0.mk hT
  have HB0 := Aside0.mk hb
  clear h0 h1 hT hb
  go_enter Tryd.func5, Tryd.ntmps5
  have hbk := ((Bk.new w 23 l).alloc (Obj.cells #[.int .u8 102] 5))
  have HBK := Aside0.mk hbk
  clear hbk
  go_wp2_with ((with_reducible refine load_bk (o := { dst := some _, op := .load 23 (.tmp 2), type := _, pos := _, after := _, guard := _ }) 23 (.tmp 2) rfl rfl w.heap.size 23 l ?_ arrId ?_ ?_ ?_); (rfl); (exact HBK.out); (exact hl))
  go_loopg [5, 10] 16 (fun g vo vi wx => ∃ i : Nat, i + g = 16 ∧ vi = .int .i64 i ∧ (Kd.int .u8).R 5 wx w.heap.size (fun _ => True) vo (102 :: hexI (l.take i)) ∧ Below w.heap.size w wx)
  case atStart =>
    have hs : w.heap.size ≤ (w.alloc (Obj.cells (u8s l) 23)).heap.size := by rw [alloc_size]; omega
    exact ⟨0, rfl, rfl, by have := lit_R (w.alloc (Obj.cells (u8s l) 23)) w.heap.size 102 hs; rw [alloc_size] at this; simpa [hexI] using this, ((Below.refl _ w).alloc (Nat.le_refl _) _).alloc hs _⟩
  case round =>
    obtain ⟨i, hg, rfl, hR, hbw⟩ := hrel
    have HR := Aside0.mk hR; have HB := Aside0.mk hbw
    clear hR hbw
    by_cases hi : i < 16
    · have hii : (i : Int) < 16 := by omega
      have hix := fun W => idx_arr l i hi hl W
      have HA2 := Aside0.mk (show hexI (l.take (i + 1)) = hexI (l.take i) ++ hexI [l.getD i 0] by rw [take_one l i (by omega), hexI_append])
      have hbg := HB0.out.get i (by omega)
      obtain ⟨b, hbq⟩ : ∃ b : Nat, l.getD i 0 = (b : Int) := ⟨(l.getD i 0).toNat, by omega⟩
      rw [hbq] at hix HA2 hbg
      have hb2 : b < 256 := by omega
      simp only [hexI, Int.toNat_natCast] at HA2
      clear hbq hbg
      go_wp2_with fail
      clear hix
      refine wp_region_noPanic ?_
      refine wp_region_held_drew (S := fun W => Below w.heap.size w W) (by kernel_rfl) (HB.out.drew) (fun hHeld => ?_)
      refine wpAnyH_take (i := 0) (oi := { dst := some 13, op := _, type := _, pos := _, after := _, guard := _ }) (v := ?_) rfl (by kernel_rfl) (by kernel_rfl) (by kernel_rfl) (fun _ _ _ h => h) (Or.inl ⟨by rfl, ?_⟩) hHeld ?_
      rotate_left
      · (intro w hSw; go_simp) <;> (with_reducible rfl)
      try simp only [Act.put, List.setIfInBounds_toArray, List.set_cons_zero, List.set_cons_succ]
      refine wpAnyH_take (i := 1) (oi := { dst := some 14, op := _, type := _, pos := _, after := _, guard := _ }) (v := ?_) rfl (by kernel_rfl) (by kernel_rfl) (by kernel_rfl) (fun _ _ _ h => h) (Or.inl ⟨by rfl, ?_⟩) hHeld ?_
      rotate_left
      · (intro w hSw; go_simp) <;> (with_reducible rfl)
      try simp only [Act.put, List.setIfInBounds_toArray, List.set_cons_zero, List.set_cons_succ]
      refine wpAnyH_take (i := 2) (oi := { dst := some 15, op := _, type := _, pos := _, after := _, guard := _ }) (v := ?_) rfl (by kernel_rfl) (by kernel_rfl) (by kernel_rfl) (fun _ _ _ h => h) (Or.inl ⟨by rfl, ?_⟩) hHeld ?_
      rotate_left
      · (intro w hSw; go_simp) <;> (with_reducible rfl)
      try simp only [Act.put, List.setIfInBounds_toArray, List.set_cons_zero, List.set_cons_succ]
      refine wpAnyH_take (i := 4) (oi := { dst := some 17, op := _, type := _, pos := _, after := _, guard := _ }) (v := ?_) rfl (by kernel_rfl) (by kernel_rfl) (by kernel_rfl) (fun _ _ _ h => h) (Or.inl ⟨by rfl, ?_⟩) hHeld ?_
      rotate_left
      · (intro w hSw; go_simp) <;> (with_reducible rfl)
      try simp only [Act.put, List.setIfInBounds_toArray, List.set_cons_zero, List.set_cons_succ]
      refine wpAnyH_take (i := 5) (oi := { dst := some 18, op := _, type := _, pos := _, after := _, guard := _ }) (v := ?_) rfl (by kernel_rfl) (by kernel_rfl) (by kernel_rfl) (fun _ _ _ h => h) (Or.inl ⟨by rfl, ?_⟩) hHeld ?_
      rotate_left
      · (intro w hSw; go_simp) <;> (with_reducible rfl)
      try simp only [Act.put, List.setIfInBounds_toArray, List.set_cons_zero, List.set_cons_succ]
      rw [show (b : Int) / 16 = ((b / 16 : Nat) : Int) by omega, and15 ⟨b, hb2⟩]
      have hpl : b / 16 < 16 := by omega
      have hql : b % 16 < 16 := by omega
      generalize b / 16 = p at HA2 hpl ⊢
      generalize b % 16 = q at HA2 hql ⊢
      have HP := Aside0.mk hpl
      have HQ := Aside0.mk hql
      clear hpl hql
      refine wpAnyH_take (i := 3) (oi := { dst := some 16, op := _, type := _, pos := _, after := _, guard := _ }) (v := ?_) rfl (by kernel_rfl) (by kernel_rfl) (by kernel_rfl) (fun _ _ _ h => h) (Or.inl ⟨by rfl, ?_⟩) hHeld ?_
      rotate_left
      · (intro w hSw; go_simp; rw [dif_pos (show (p : Int) < 16 by have := HP.out; omega)]; simp only [Result.andThen]; rw [hexget p HP.out]) <;> (with_reducible rfl)
      try simp only [Act.put, List.setIfInBounds_toArray, List.set_cons_zero, List.set_cons_succ]
      refine wpAnyH_take (i := 6) (oi := { dst := some 19, op := _, type := _, pos := _, after := _, guard := _ }) (v := ?_) rfl (by kernel_rfl) (by kernel_rfl) (by kernel_rfl) (fun _ _ _ h => h) (Or.inl ⟨by rfl, ?_⟩) hHeld ?_
      rotate_left
      · (intro w hSw; go_simp; rw [dif_pos (show (q : Int) < 16 by have := HQ.out; omega)]; simp only [Result.andThen]; rw [hexget q HQ.out]) <;> (with_reducible rfl)
      try simp only [Act.put, List.setIfInBounds_toArray, List.set_cons_zero, List.set_cons_succ]
      refine wpAnyH_ready (rs := [7]) (by kernel_rfl) (by simp) (AllReadyH.cons (o := { dst := some 20, op := _, type := _, pos := _, after := _, guard := _ }) rfl (fun K hK => ?_) AllReadyH.nil)
      go_simp
      refine hK.out _ _ (below_step hHeld (below_alloc (Below.refl _ _) _)) (fun hHeld2 => ?_)
      clear hK K hHeld
      have hHeld := hHeld2
      clear hHeld2
      try simp only [Act.put, List.setIfInBounds_toArray, List.set_cons_zero, List.set_cons_succ]
      refine wpAnyH_ready (rs := [8]) (by kernel_rfl) (by simp) (AllReadyH.cons (o := { dst := some 21, op := _, type := _, pos := _, after := _, guard := _ }) rfl (fun K hK => ?_) AllReadyH.nil)
      refine Kd.R_append_rows_step (Kd.int .u8) (w0 := w) w.heap.size (by rfl) (.tmp 13) (.tmp 20) 28 5 (.int .u8 0) 1 rfl Tryd.underlying28 info5 rfl (by decide) (by omega) u5 (102 :: hexI (l.take i)) [(hexN p : Int), (hexN q : Int)] _ _ _ (fun _ => True) (fun _ => False) rfl rfl ?aO ?aR (fun _ _ h => h) (fun _ h => h.elim) (fun _ _ => trivial) ?aB ?aS ?aL ?_
      (case aO => exact Kd.R_drew (Kd.R_alloc HR.out _))
      (case aR => exact (lit_C wr (hexN p) (hexN q)))
      (case aB => exact hHeld)
      (case aS => exact hHeld.size)
      (case aL => simp only [List.length_cons, hexI_length, List.length_take]; omega)
      intro v1 w1 hr1 hb1 hg1 hat1
      have HR1 := Aside0.mk hr1
      refine hK.out _ _ hb1 (fun hHeld2 => ?_)
      clear hK K hHeld hr1 hb1 hg1 hat1
      have hHeld := hHeld2
      clear hHeld2
      try simp only [Act.put, List.setIfInBounds_toArray, List.set_cons_zero, List.set_cons_succ]
      refine wpAnyH_take (i := 9) (oi := { dst := some 5, op := _, type := _, pos := _, after := _, guard := _ }) (v := ?_) rfl (by kernel_rfl) (by kernel_rfl) (by kernel_rfl) (fun _ _ _ h => h) (Or.inl ⟨by rfl, ?_⟩) hHeld ?_
      rotate_left
      · (intro w hSw; go_simp) <;> (with_reducible rfl)
      try simp only [Act.put, List.setIfInBounds_toArray, List.set_cons_zero, List.set_cons_succ]
      refine wpAnyH_done (by kernel_rfl) ?_ _
      refine NoPanic.normal ?_
      have hw1 : IntKind.i64.wrap ((i : Int) + 1) = (i : Int) + 1 := IntWalk.i64_in _ (by omega)
      go_wp2
      go_roundg (16 - (i + 1))
      case measure => clear hw1; omega
      case rel =>
        refine ⟨i + 1, by clear hw1; omega, by first | rfl | simp, ?_, hHeld⟩
        rw [HA2.out]
        have := HR1.out
        simpa using this
    · have hii : ¬ (i : Int) < 16 := by omega
      have h16 : l.take i = l := List.take_of_length_le (by omega)
      have hr := HR.out
      rw [h16] at hr
      have HR3 := Aside0.mk hr
      clear hr HR h16
      have HR := HR3
      clear HR3
      have HCAT := Aside0.mk (show (9223372036854775807 < (strOfNums (102 :: (hexI l ++ [46]))).size + (Lib.itoa n).length) = False by
        have h1 := Lib.itoa_length_le n HN.out.1 HN.out.2
        have h2 : (strOfNums (102 :: (hexI l ++ [46]))).size = 34 := by
          show ((_ : List UInt8)).toArray.size = 34
          simp only [List.size_toArray, List.length_map, List.length_cons, List.length_append, List.length_nil, hexI_length]; omega
        rw [h2, eq_iff_iff, iff_false]; omega)
      go_wp2_with fail
      refine wp_region_noPanic ?_
      refine wp_region_held_drew (S := fun W => Below w.heap.size w W) (by kernel_rfl) (HB.out.drew) (fun hHeld => ?_)
      refine wpAnyH_take (i := 0) (oi := { dst := some 23, op := _, type := _, pos := _, after := _, guard := _ }) (v := ?_) rfl (by kernel_rfl) (by kernel_rfl) (by kernel_rfl) (fun _ _ _ h => h) (Or.inl ⟨by rfl, ?_⟩) hHeld ?_
      rotate_left
      · (intro w hSw; go_simp) <;> (with_reducible rfl)
      try simp only [Act.put, List.setIfInBounds_toArray, List.set_cons_zero, List.set_cons_succ]
      refine wpAnyH_take (i := 4) (oi := { dst := some 27, op := _, type := _, pos := _, after := _, guard := _ }) (v := ?_) rfl (by kernel_rfl) (by kernel_rfl) (by kernel_rfl) (fun _ _ _ h => h) (Or.inl ⟨by rfl, ?_⟩) hHeld ?_
      rotate_left
      · (intro w hSw; go_simp) <;> (with_reducible rfl)
      try simp only [Act.put, List.setIfInBounds_toArray, List.set_cons_zero, List.set_cons_succ]
      have HR_ := Aside0.mk (Kd.R_drew HR.out)
      clear HR
      have HR := HR_
      clear HR_
      have HT_ := Aside0.mk (tab_back HT0.out hHeld)
      have HT := HT_
      clear HT_ HB
      generalize wr.drew = W0 at HR HT hHeld ⊢
      refine wpAnyH_ready (rs := [1]) (by kernel_rfl) (by simp) (AllReadyH.cons (o := { dst := some 24, op := _, type := _, pos := _, after := _, guard := _ }) rfl (fun K hK => ?_) (AllReadyH.nil))
      go_simp
      refine hK.out _ _ (below_step hHeld (below_alloc (Below.refl _ _) _)) (fun hHeld2 => ?_)
      clear hK K hHeld
      have hHeld := hHeld2
      clear hHeld2
      try simp only [Act.put, List.setIfInBounds_toArray, List.set_cons_zero, List.set_cons_succ]
      have HL := Aside0.mk (lit1_C W0 46)
      have HR_ := Aside0.mk (Kd.R_alloc HR.out (.cells #[.int .u8 46] 5))
      clear HR
      have HR := HR_
      clear HR_
      have HT_ := Aside0.mk (tab_below HT.out (below_alloc (Below.refl _ _) (.cells #[.int .u8 46] 5)))
      clear HT
      have HT := HT_
      clear HT_
      generalize (W0.alloc (.cells #[.int .u8 46] 5)) = W1 at HR HL hHeld HT ⊢
      refine wpAnyH_ready (rs := [2]) (by kernel_rfl) (by simp) (AllReadyH.cons (o := { dst := some 25, op := _, type := _, pos := _, after := _, guard := _ }) rfl (fun K hK => ?_) (AllReadyH.nil))
      refine Kd.R_append_rows_step (Kd.int .u8) (w0 := w) w.heap.size (by rfl) (.tmp 23) (.tmp 24) 28 5 (.int .u8 0) 1 rfl Tryd.underlying28 info5 rfl (by decide) (by omega) u5 (102 :: hexI l) [(46 : Int)] _ _ _ (fun _ => True) (fun _ => False) rfl rfl ?aO ?aR (fun _ _ h => h) (fun _ h => h.elim) (fun _ _ => trivial) ?aB ?aS ?aL ?_
      (case aO => exact HR.out)
      (case aR => exact HL.out)
      (case aB => exact hHeld)
      (case aS => exact hHeld.size)
      (case aL => simp only [List.length_cons, hexI_length]; omega)
      intro v1 W2 hr1 hb1 hg1 hat1
      obtain ⟨A1, c1, rfl, hc1, hC1⟩ := Kd.R_reads hr1
      have hlen : (102 :: hexI l ++ [46]).length = 34 := by simp only [List.length_append, List.length_cons, List.length_nil, hexI_length]; omega
      rw [hlen] at hC1 ⊢
      clear hlen
      have HR2 := Aside0.mk hC1
      refine hK.out _ _ hb1 (fun hHeld2 => ?_)
      have HT_ := Aside0.mk (tab_back HT0.out hb1)
      clear HT
      have HT := HT_
      clear HT_
      clear hK K hHeld hr1 hb1 hg1 hat1 hC1 hc1 HR HL
      have hHeld := hHeld2
      clear hHeld2
      try simp only [Act.put, List.setIfInBounds_toArray, List.set_cons_zero, List.set_cons_succ]
      refine wpAnyH_ready (rs := [3, 5]) (by kernel_rfl) (by simp) (AllReadyH.cons (o := { dst := some 26, op := _, type := _, pos := _, after := _, guard := _ }) rfl (fun K hK => ?_) (AllReadyH.cons (o := { dst := some 28, op := _, type := _, pos := _, after := _, guard := _ }) rfl (fun K hK => ?_) (AllReadyH.nil)))
      · have ks := Kd.C_string (P := Tryd.prog) (c := c1) Tryd.underlying28 Tryd.underlying5 Tryd.underlying9 HR2.out
        go_simp
        clear ks
        refine hK.out _ _ (hHeld) (fun hHeld2 => ?_)
        clear hK K hHeld
        have hHeld := hHeld2
        clear hHeld2
        try simp only [Act.put, List.setIfInBounds_toArray, List.set_cons_zero, List.set_cons_succ]
        clear HR2
        refine wpAnyH_ready (rs := [5]) (by kernel_rfl) (by simp) (AllReadyH.cons (o := { dst := some 28, op := _, type := _, pos := _, after := _, guard := _ }) rfl (fun K hK => ?_) (AllReadyH.nil))
        go_simp
        refine (itoa_calls n _ HN.out HT.out).mono ?_
        rintro e W3 ⟨rfl, hb1⟩
        refine hK.out _ _ (below_step hHeld hb1) (fun hHeld2 => ?_)
        clear hK K hHeld
        have hHeld := hHeld2
        clear hHeld2
        try simp only [Act.put, List.setIfInBounds_toArray, List.set_cons_zero, List.set_cons_succ]
        clear hb1 HT
        refine wpAnyH_take (i := 6) (oi := { dst := some 29, op := _, type := _, pos := _, after := _, guard := _ }) (v := ?_) rfl (by kernel_rfl) (by kernel_rfl) (by kernel_rfl) (fun _ _ _ h => h) (Or.inl ⟨by rfl, ?_⟩) hHeld ?_
        rotate_left
        · (intro w hSw; have hc := HCAT.out; go_simp) <;> (with_reducible rfl)
        try simp only [Act.put, List.setIfInBounds_toArray, List.set_cons_zero, List.set_cons_succ]
        refine wpAnyH_take (i := 7) (oi := { dst := some 4, op := _, type := _, pos := _, after := _, guard := _ }) (v := ?_) rfl (by kernel_rfl) (by kernel_rfl) (by kernel_rfl) (fun _ _ _ h => h) (Or.inl ⟨by rfl, ?_⟩) hHeld ?_
        rotate_left
        · (intro w hSw; go_simp) <;> (with_reducible rfl)
        try simp only [Act.put, List.setIfInBounds_toArray, List.set_cons_zero, List.set_cons_succ]
        refine wpAnyH_done (by kernel_rfl) ?_ _
        refine NoPanic.normal ?_
        (go_wp2; go_ret; exact ⟨by first | rfl | simp, hHeld⟩)
      · go_simp
        refine (itoa_calls n _ HN.out HT.out).mono ?_
        rintro e W3 ⟨rfl, hb1⟩
        refine hK.out _ _ (below_step hHeld hb1) (fun hHeld2 => ?_)
        clear hK K hHeld
        have hHeld := hHeld2
        clear hHeld2
        try simp only [Act.put, List.setIfInBounds_toArray, List.set_cons_zero, List.set_cons_succ]
        have HR2_ := Aside0.mk (Kd.C_below HR2.out hb1)
        clear HR2
        have HR2 := HR2_
        clear HR2_
        clear hb1 HT
        refine wpAnyH_ready (rs := [3]) (by kernel_rfl) (by simp) (AllReadyH.cons (o := { dst := some 26, op := _, type := _, pos := _, after := _, guard := _ }) rfl (fun K hK => ?_) (AllReadyH.nil))
        have ks := Kd.C_string (P := Tryd.prog) (c := c1) Tryd.underlying28 Tryd.underlying5 Tryd.underlying9 HR2.out
        go_simp
        clear ks
        refine hK.out _ _ (hHeld) (fun hHeld2 => ?_)
        clear hK K hHeld
        have hHeld := hHeld2
        clear hHeld2
        try simp only [Act.put, List.setIfInBounds_toArray, List.set_cons_zero, List.set_cons_succ]
        clear HR2
        refine wpAnyH_take (i := 6) (oi := { dst := some 29, op := _, type := _, pos := _, after := _, guard := _ }) (v := ?_) rfl (by kernel_rfl) (by kernel_rfl) (by kernel_rfl) (fun _ _ _ h => h) (Or.inl ⟨by rfl, ?_⟩) hHeld ?_
        rotate_left
        · (intro w hSw; have hc := HCAT.out; go_simp) <;> (with_reducible rfl)
        try simp only [Act.put, List.setIfInBounds_toArray, List.set_cons_zero, List.set_cons_succ]
        refine wpAnyH_take (i := 7) (oi := { dst := some 4, op := _, type := _, pos := _, after := _, guard := _ }) (v := ?_) rfl (by kernel_rfl) (by kernel_rfl) (by kernel_rfl) (fun _ _ _ h => h) (Or.inl ⟨by rfl, ?_⟩) hHeld ?_
        rotate_left
        · (intro w hSw; go_simp) <;> (with_reducible rfl)
        try simp only [Act.put, List.setIfInBounds_toArray, List.set_cons_zero, List.set_cons_succ]
        refine wpAnyH_done (by kernel_rfl) ?_ _
        refine NoPanic.normal ?_
        (go_wp2; go_ret; exact ⟨by first | rfl | simp, hHeld⟩)

end Go.Proofs.YtcffacpdjcfidaaDoor.Fr
