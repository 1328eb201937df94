/- Arrays of bytes that are blocks of their own: what a walk asks of them. -/
import Derived.Test.YtingegkipimakaaPAx
import Derived.WalkSpells
import Derived.Deep.WholeRow
namespace Go.Proofs.Ytingegkipimakaa.Ae
open Go.RowKit Go.Proofs.YtingegkipimakaaW.PrintWords Go.Proofs.YtingegkipimakaaW.PrintLast Go.Proofs.YtingegkipimakaaW.PrintMore Go.Proofs.Ytingegkipimakaa.PA
set_option linter.unusedVariables false
set_option linter.unusedSimpArgs false

abbrev u8s (l : List Int) : Array Value := (l.map (Value.int .u8)).toArray
def Bk (w : World) (g : Nat) (t : TypeId) (l : List Int) : Prop := w.heap[g]? = some (.cells (u8s l) t (0, 0))

theorem Bk.cell {w : World} {g : Nat} {t : TypeId} {l : List Int} (h : Bk w g t l) (j : Nat) (hj : j < l.length) : w.cell? ⟨g, j, none⟩ = some (.int .u8 (l.getD j 0)) := by
  rw [cell_of_row w g j _ t (0, 0) h]
  simp [u8s, hj]
theorem Bk.frozen {w : World} {g : Nat} {t : TypeId} {l : List Int} (h : Bk w g t l) (j : Nat) : w.frozen? ⟨g, j, none⟩ = false := frozen_of_row w g j _ t h
theorem Bk.set {w : World} {g : Nat} {t : TypeId} {l : List Int} (h : Bk w g t l) (j : Nat) (x : Int) : Bk (w.setCell ⟨g, j, none⟩ (.int .u8 x)) g t (l.set j x) := by
  unfold Bk
  rw [heap_setCell_same w g j _ t _ h]
  simp [u8s]
theorem Bk.other {w : World} {g : Nat} {t : TypeId} {l : List Int} (h : Bk w g t l) (a : Addr) (v : Value) (hg : g ≠ a.block) : Bk (w.setCell a v) g t l := by
  unfold Bk
  rw [heap_setCell_other w a g v hg]
  exact h
theorem Bk.drew {w : World} {g : Nat} {t : TypeId} {l : List Int} (h : Bk w g t l) : Bk w.drew g t l := h
theorem Bk.alloc {w : World} {g : Nat} {t : TypeId} {l : List Int} (h : Bk w g t l) (o : Obj) : Bk (w.alloc o) g t l := by
  unfold Bk
  rw [show (w.alloc o).heap[g]? = w.heap[g]? from by show (w.heap.push o)[g]? = w.heap[g]?; rw [Array.getElem?_push, if_neg (Nat.ne_of_lt (blk_lt h))]]
  exact h
theorem Bk.new (w : World) (t : TypeId) (l : List Int) : Bk (w.alloc (.cells (u8s l) t)) w.heap.size t l := heap_alloc_new w _
theorem Bk.lt {w : World} {g : Nat} {t : TypeId} {l : List Int} (h : Bk w g t l) : g < w.heap.size := blk_lt h
theorem Bk.below {w w' : World} {g B : Nat} {t : TypeId} {l : List Int} (h : Bk w g t l) (k : Below B w w') (hg : g < B) : Bk w' g t l := by
  unfold Bk
  rw [k.block g hg]
  exact h

theorem Bk.setRow {w : World} {g : Nat} {t : TypeId} {l : List Int} (h : Bk w g t l) (l' : List Int) : Bk (w.setRow g (u8s l')) g t l' := setRow_heap w g _ _ t _ h
theorem Bk.rowOther {w : World} {g : Nat} {t : TypeId} {l : List Int} (h : Bk w g t l) (g' : Nat) (cs : Array Value) (hg : g ≠ g') : Bk (w.setRow g' cs) g t l := by
  unfold Bk
  rw [setRow_other w g' g cs hg]
  exact h
theorem below_setRow {B : Nat} {w W : World} {g : Nat} (h : Below B w W) (hg : B ≤ g) (cs : Array Value) : Below B w (W.setRow g cs) :=
  ⟨h.os, h.tape, h.output, by simp; exact h.size, fun k hk => (setRow_other W g k cs (by omega)).trans (h.block k hk)⟩
theorem u8s_size (l : List Int) : (u8s l).size = l.length := by simp [u8s]
theorem u8s_one (l : List Int) : (u8s l).all (·.oneCell') = true := by
  rw [Array.all_eq_true_iff_forall_mem]
  intro v hv
  simp [u8s] at hv
  obtain ⟨x, _, rfl⟩ := hv
  rfl

theorem alloc_size (w : World) (o : Obj) : (w.alloc o).heap.size = w.heap.size + 1 := by show (w.heap.push o).size = _; simp

/-- How many cells an array's type has, and that it is one. -/
structure ArrT (P : Program) (ty : TypeId) (n : Nat) : Prop where
  und : ∃ d, P.underlying ty = some d ∧ (match d with | .struct _ | .array _ _ => true | _ => false) = true
  info : (P.info? ty).map (·.size) = some n

theorem load_bk {P : Program} {ops : Array Oper} {rest : List Oper} {o : Oper} {a : Act} {w : World} {Q : Exit → Act → World → Prop} {n : Nat} (ty : TypeId) (x : Operand) (ho : o.op = .load ty x) (hgd : o.guard = none)
    (g : Nat) (t : TypeId) (l : List Int) (hx : a.eval x = .pointer (some ⟨g, 0, none⟩)) (hA : ArrT P ty n) (hg : Bk w g t l) (hl : l.length = n)
    (h : wpList P ops Q rest (a.put o.dst (.agg (u8s l))) w) : wpList P ops Q (o :: rest) a w := by
  obtain ⟨d, h1, h2⟩ := hA.und
  exact wpList_load_row hgd ty x ho g hx t _ (0, 0) d hg h1 (by cases d <;> first | rfl | cases h2) (by rw [hA.info, u8s_size, hl]) h
theorem store_bk {P : Program} {ops : Array Oper} {rest : List Oper} {o : Oper} {a : Act} {w : World} {Q : Exit → Act → World → Prop} {n : Nat} (ty : TypeId) (x y : Operand) (ho : o.op = .store ty x y) (hgd : o.guard = none)
    (g : Nat) (t : TypeId) (l l' : List Int) (hx : a.eval x = .pointer (some ⟨g, 0, none⟩)) (hy : a.eval y = .agg (u8s l')) (hA : ArrT P ty n) (hg : Bk w g t l) (hl : l.length = n) (hl' : l'.length = n)
    (h : wpList P ops Q rest (a.put o.dst undef) (w.setRow g (u8s l'))) : wpList P ops Q (o :: rest) a w :=
  wpList_store_row hgd ty x y ho g (u8s l') hx hy t (u8s l) hg (by rw [hA.info, u8s_size, hl']) (by rw [u8s_size, u8s_size, hl, hl']) (u8s_one l') h
theorem ret_bk {P : Program} {fn : Func} {R : Ending → World → Prop} {a : Act} {w : World} {n : Nat} (p : Tmp) (ty : TypeId) (h : fn.results = #[.cell p ty]) (g : Nat) (t : TypeId) (l : List Int)
    (hp : a.tmps.getD p undef = .pointer (some ⟨g, 0, none⟩)) (hA : ArrT P ty n) (hg : Bk w g t l) (hl : l.length = n) (hd : a.defers = []) (hR : R (.returned (.agg (u8s l))) w) : bodyPost P fn R .ret a w := by
  obtain ⟨d, h1, h2⟩ := hA.und
  exact bodyPost_ret (results_cell_row h a.tmps w g t _ (0, 0) d hp hg h1 (by cases d <;> first | rfl | cases h2) (by rw [hA.info, u8s_size, hl])) hd hR

theorem arr16 : ArrT Try.prog 24 16 := ⟨⟨_, Try.underlying24, rfl⟩, by kernel_rfl⟩
theorem arr4 : ArrT Try.prog 52 4 := ⟨⟨_, Try.underlying52, rfl⟩, by kernel_rfl⟩
theorem arr256 : ArrT Try.prog 26 256 := ⟨⟨_, Try.underlying26, rfl⟩, by kernel_rfl⟩
theorem arrKey : ArrT Try.prog 23 32 := ⟨⟨_, Try.underlying23, rfl⟩, by kernel_rfl⟩
theorem arrBox : ArrT Try.prog 51 496 := ⟨⟨_, Try.underlying51, rfl⟩, by kernel_rfl⟩


end Go.Proofs.Ytingegkipimakaa.Ae
