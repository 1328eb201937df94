/- The equality of two arrays of bytes; the example. -/
import Derived.Test.YtingegkipimakaaAe9
import Derived.ChangeKeysEq
import Derived.Laws.StructEq
import Derived.Deep.RegionHeld3
namespace Go.Proofs.Ytingegkipimakaa.Ae
open Go.RowKit Go.Proofs.YtingegkipimakaaW.PrintWords Go.Proofs.YtingegkipimakaaW.PrintLast Go.Proofs.YtingegkipimakaaW.PrintMore Go.Proofs.Ytingegkipimakaa.PA
set_option linter.unusedVariables false
set_option linter.unusedSimpArgs false

theorem run_eq_u8 {P : Program} {t e : TypeId} {n : Nat} (hu : P.underlying t = some (.array n e)) (hi : (P.info? e).isSome = true) (hc : P.cellsOf e = 1) (hk : P.plainKey e = true) (hx : ∃ k, P.underlying e = some (.int k)) (a b : List Int) (ha : a.length = n) (hb : b.length = n) (W : World) :
    (Op.equalIn 10000 t (.agg (u8s a)) (.agg (u8s b))).run P W = .ok (decide (a = b)) W := by
  obtain ⟨i, hi'⟩ := Option.isSome_iff_exists.1 hi
  obtain ⟨k, hk'⟩ := hx
  rw [run_equalIn_array W 9999 (u8s a) (u8s b) hu hi', hc]
  have h : ∀ is : List Nat, (∀ j ∈ is, j < n) → (Op.eqItems 9999 e 1 (u8s a) (u8s b) is).run P W = .ok (decide (∀ j ∈ is, a.getD j 0 = b.getD j 0)) W := by
    intro is
    induction is with
    | nil => intro _; simp [Op.eqItems]
    | cons j is ih =>
      intro h
      have hj := h j (List.mem_cons_self ..)
      have p1 : (part e (u8s a) (j * 1)).run P W = .ok (.int .u8 (a.getD j 0)) W := run_part_plain W hk (by simp [u8s, List.getElem?_eq_getElem (ha ▸ hj)])
      have p2 : (part e (u8s b) (j * 1)).run P W = .ok (.int .u8 (b.getD j 0)) W := run_part_plain W hk (by simp [u8s, List.getElem?_eq_getElem (hb ▸ hj)])
      simp only [Op.eqItems, Sem.run_bind, p1, p2, Result.andThen_ok]
      rw [run_equalIn_int W 9998 e .u8 k _ _ hk']
      simp only [Result.andThen_ok]
      by_cases e : a.getD j 0 = b.getD j 0
      · rw [show (a.getD j 0 == b.getD j 0) = true from beq_iff_eq.2 e]
        simp only [Bool.not_true, Bool.false_eq_true, if_false]
        rw [ih (fun q hq => h q (List.mem_cons_of_mem _ hq))]
        simp [List.getD_eq_getElem?_getD] at e ⊢
        simp [e]
      · rw [show (a.getD j 0 == b.getD j 0) = false from beq_eq_false_iff_ne.2 e]
        simp [List.getD_eq_getElem?_getD] at e ⊢
        intro he
        exact absurd he e
  rw [h (List.range n) (fun j hj => List.mem_range.1 hj)]
  congr 1
  rw [decide_eq_decide]
  constructor
  · intro h
    refine getD_ext (ha.trans hb.symm) fun j => ?_
    by_cases hj : j < n
    · exact h j (List.mem_range.2 hj)
    · rw [List.getD_eq_getElem?_getD, List.getD_eq_getElem?_getD, List.getElem?_eq_none (by omega), List.getElem?_eq_none (by omega)]
  · rintro rfl j _; rfl
theorem eq16 (a b : List Int) (ha : a.length = 16) (hb : b.length = 16) (W : World) : (Op.equalIn 10000 24 (.agg (u8s a)) (.agg (u8s b))).run Try.prog W = .ok (decide (a = b)) W :=
  run_eq_u8 Try.underlying24 (by kernel_rfl) (by kernel_rfl) (by kernel_rfl) ⟨_, Try.underlying5⟩ a b ha hb W

/-- The example's key, text, answer. -/
def key0 : List Int := [0, 1, 2, 3, 4, 5, 6, 7, 8, 9, 10, 11, 12, 13, 14, 15, 16, 17, 18, 19, 20, 21, 22, 23, 24, 25, 26, 27, 28, 29, 30, 31]
def x0 : List Int := [0, 17, 34, 51, 68, 85, 102, 119, 136, 153, 170, 187, 204, 221, 238, 255]
def y0 : List Int := [142, 162, 183, 202, 81, 103, 69, 191, 234, 252, 73, 144, 75, 73, 96, 137]
set_option maxRecDepth 100000 in
theorem example0 : blockL (boxL key0) x0 = y0 := by decide +kernel

end Go.Proofs.Ytingegkipimakaa.Ae
