/- Unlike blocks are encrypted to unlike ones; plain. -/
import Derived.Test.YtingegkipimakaaAp2
import Derived.Test.YtingegkipimakaaAe11
namespace Go.Proofs.Ytingegkipimakaa.Ae
open Go.RowKit Go.Proofs.YtingegkipimakaaW.PrintWords Go.Proofs.YtingegkipimakaaW.PrintLast Go.Proofs.YtingegkipimakaaW.PrintMore Go.Proofs.Ytingegkipimakaa.PA
set_option linter.unusedVariables false
set_option linter.unusedSimpArgs false

set_option maxRecDepth 100000 in
theorem tab_inj_all : ∀ m < 256, ∀ n < 256, tabL.getD m 0 = tabL.getD n 0 → m = n := by decide +kernel
theorem byte_nat {a : Int} (h : 0 ≤ a ∧ a < 256) : ∃ n : Nat, n < 256 ∧ a = n := ⟨a.toNat, by omega, by omega⟩
theorem tab_inj {a b : Int} (ha : 0 ≤ a ∧ a < 256) (hb : 0 ≤ b ∧ b < 256) (h : tabL.getD a.toNat 0 = tabL.getD b.toNat 0) : a = b := by
  have := tab_inj_all a.toNat (by omega) b.toNat (by omega) h
  omega
theorem xor_right {a b k : Int} (ha : 0 ≤ a ∧ a < 256) (hb : 0 ≤ b ∧ b < 256) (hk : 0 ≤ k ∧ k < 256) (h : Go.bits .xor .u8 a k = Go.bits .xor .u8 b k) : a = b := by
  have e := congrArg B h
  rw [B_xor ha hk, B_xor hb hk] at e
  exact B_inj ha hb ((BitVec.xor_left_inj (B k)).1 e)
theorem addL_inj {cs : List Int} (hc : By cs) (r : Nat) {x y : List Int} (hx : x.length = 16) (hy : y.length = 16) (bx : By x) (by' : By y) (h : addL cs r x 16 = addL cs r y 16) : x = y := by
  refine getD_ext (hx.trans hy.symm) fun j => ?_
  by_cases hj : j < 16
  · have e := congrArg (fun l : List Int => l.getD j 0) h
    simp only [addL_getD cs r x 16 (by omega), addL_getD cs r y 16 (by omega), if_pos hj] at e
    exact xor_right (bx j) (by' j) (hc _) e
  · rw [List.getD_eq_getElem?_getD, List.getD_eq_getElem?_getD, List.getElem?_eq_none (by omega), List.getElem?_eq_none (by omega)]
theorem turn_back : ∀ j < 16, ∃ i < 16, (i + 4 * (i % 4)) % 16 = j := by decide
theorem rowsL_inj {ws : List Int} {x y : List Int} (hx : x.length = 16) (hy : y.length = 16) (bx : By x) (by' : By y) (h : rowsL (tabL ++ ws) x 16 = rowsL (tabL ++ ws) y 16) : x = y := by
  refine getD_ext (hx.trans hy.symm) fun j => ?_
  by_cases hj : j < 16
  · obtain ⟨i, hi, rfl⟩ := turn_back j hj
    have e := congrArg (fun l : List Int => l.getD i 0) h
    simp only [rowsL_getD _ _ 16 (Nat.le_refl _), if_pos hi] at e
    have a := bx ((i + 4 * (i % 4)) % 16)
    have b := by' ((i + 4 * (i % 4)) % 16)
    rw [box_tab _ _ (by omega), box_tab _ _ (by omega)] at e
    exact tab_inj a b e
  · rw [List.getD_eq_getElem?_getD, List.getD_eq_getElem?_getD, List.getElem?_eq_none (by omega), List.getElem?_eq_none (by omega)]
theorem mixL_inj {x y : List Int} (hx : x.length = 16) (hy : y.length = 16) (bx : By x) (by' : By y) (h : mixL x 4 = mixL y 4) : x = y := by
  have hm : ∀ i < 16, B (mm x i) = B (mm y i) := fun i hi => by
    have e := congrArg (fun l : List Int => l.getD i 0) h
    simp only [mixL_getD x hx 4 (Nat.le_refl _), mixL_getD y hy 4 (Nat.le_refl _), if_pos (show i < 4 * 4 from hi)] at e
    rw [e]
  refine getD_ext (hx.trans hy.symm) fun j => ?_
  by_cases hj : j < 16
  · refine B_inj (bx j) (by' j) ?_
    have e0 := hm j hj
    have e1 := hm (4 * (j / 4) + (j % 4 + 1) % 4) (by omega)
    have e2 := hm (4 * (j / 4) + (j % 4 + 2) % 4) (by omega)
    have e3 := hm (4 * (j / 4) + (j % 4 + 3) % 4) (by omega)
    rw [B_mm bx, B_mm by'] at e0 e1 e2 e3
    obtain ⟨c, hc⟩ : ∃ c, c = j / 4 := ⟨_, rfl⟩
    obtain ⟨q, hq⟩ : ∃ q, q = j % 4 := ⟨_, rfl⟩
    have hq4 : q < 4 := by omega
    have hjj : j = 4 * c + q := by omega
    have d1 : ∀ k, (4 * c + (q + k) % 4) / 4 = c := fun k => by omega
    have d2 : ∀ k, (4 * c + (q + k) % 4) % 4 = (q + k) % 4 := fun k => by omega
    rw [← hc, ← hq] at e0 e1 e2 e3
    rw [hjj] at e0
    simp only [d1, d2] at e1 e2 e3
    have r : ∀ a b, ((q + a) % 4 + b) % 4 = (q + (a + b)) % 4 := fun a b => by omega
    simp only [r] at e1 e2 e3
    have z : (q + 4) % 4 = q := by omega
    have z5 : (q + 5) % 4 = (q + 1) % 4 := by omega
    have z6 : (q + 6) % 4 = (q + 2) % 4 := by omega
    simp only [Nat.reduceAdd, z, z5, z6] at e1 e2 e3
    rw [hjj, ← inv_col (B (x.getD (4 * c + q) 0)) (B (x.getD (4 * c + (q + 1) % 4) 0)) (B (x.getD (4 * c + (q + 2) % 4) 0)) (B (x.getD (4 * c + (q + 3) % 4) 0)), e0, e1, e2, e3, inv_col]
  · rw [List.getD_eq_getElem?_getD, List.getD_eq_getElem?_getD, List.getElem?_eq_none (by omega), List.getElem?_eq_none (by omega)]
theorem encL_inj {ws : List Int} (hw : By (tabL ++ ws)) {x y : List Int} (hx : x.length = 16) (hy : y.length = 16) (bx : By x) (by' : By y) (r : Nat) (h : encL (tabL ++ ws) x r = encL (tabL ++ ws) y r) : x = y := by
  induction r with
  | zero => exact addL_inj hw 0 hx hy bx by' h
  | succ r ih =>
    have h1 := addL_inj hw (r + 1) (by rw [mixL_length, rowsL_length]) (by rw [mixL_length, rowsL_length]) (mixL_by (rowsL_by hw _ _) _) (mixL_by (rowsL_by hw _ _) _) h
    have h2 := mixL_inj (rowsL_length _ _ _) (rowsL_length _ _ _) (rowsL_by hw _ _) (rowsL_by hw _ _) h1
    exact ih (rowsL_inj (encL_length _ hx r) (encL_length _ hy r) (encL_by hw bx r) (encL_by hw by' r) h2)
theorem blockL_inj {key : List Int} (hw : By (boxL key)) {x y : List Int} (hx : x.length = 16) (hy : y.length = 16) (bx : By x) (by' : By y) (h : blockL (boxL key) x = blockL (boxL key) y) : x = y := by
  rw [box_is] at hw h
  have h1 := addL_inj hw 14 (rowsL_length _ _ _) (rowsL_length _ _ _) (rowsL_by hw _ _) (rowsL_by hw _ _) h
  exact encL_inj hw hx hy bx by' 13 (rowsL_inj (encL_length _ hx 13) (encL_length _ hy 13) (encL_by hw bx 13) (encL_by hw by' 13) h1)

end Go.Proofs.Ytingegkipimakaa.Ae
