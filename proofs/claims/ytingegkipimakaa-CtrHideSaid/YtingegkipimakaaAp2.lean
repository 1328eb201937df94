/- The two blocks are one; unlike blocks are encrypted to unlike ones; plain. -/
import Derived.Test.YtingegkipimakaaAp1
namespace Go.Proofs.Ytingegkipimakaa.Ae
open Go.RowKit Go.Proofs.YtingegkipimakaaW.PrintWords Go.Proofs.YtingegkipimakaaW.PrintLast Go.Proofs.YtingegkipimakaaW.PrintMore Go.Proofs.Ytingegkipimakaa.PA
set_option linter.unusedVariables false
set_option linter.unusedSimpArgs false

theorem box_key (ks : List Int) (j : Nat) : (tabL ++ ks).getD (256 + j) 0 = ks.getD j 0 := by
  rw [List.getD_eq_getElem?_getD, List.getD_eq_getElem?_getD, List.getElem?_append_right (by rw [tabL_length]; omega), tabL_length, Nat.add_sub_cancel_left]
theorem add_fill (ws : List Int) (R : Nat) (y s : List Int) (hy : y.length = 16) (hs : s.length = 16) : fillL (kR ws (16 * R) y) s 16 = addL (tabL ++ ws) R y 16 := by
  refine getD_ext (by rw [fillL_length, addL_length, hs, hy]) fun j => ?_
  rw [fillL_getD _ _ _ (by omega), addL_getD _ _ _ _ (by omega)]
  by_cases h : j < 16
  · rw [if_pos h, if_pos h, show 256 + R * 16 + j = 256 + (16 * R + j) by omega, box_key]
    rfl
  · rw [if_neg h, if_neg h, List.getD_eq_getElem?_getD, List.getD_eq_getElem?_getD, List.getElem?_eq_none (by omega), List.getElem?_eq_none (by omega)]
theorem rows_ix2 : ∀ n < 16, 4 * ((n / 4 + n % 4) % 4) + n % 4 = (n + 4 * (n % 4)) % 16 := by decide
theorem rows_fill (ws s : List Int) (hs : By s) : yR tabL s = rowsL (tabL ++ ws) s 16 := by
  refine getD_ext (by rw [yR_length, rowsL_length]) fun j => ?_
  rw [yR, fillL_getD (ry tabL s) zs 16 (Nat.le_of_eq rfl), rowsL_getD _ _ _ (Nat.le_refl _)]
  by_cases h : j < 16
  · rw [if_pos h, if_pos h]
    unfold ry
    rw [rows_ix2 j h, box_tab]
    have := hs ((j + 4 * (j % 4)) % 16)
    omega
  · rw [if_neg h, if_neg h]
    exact zeros_getD 16 j
theorem B_rz {y : List Int} (hy : By y) (n : Nat) : B (rz y n) = col (B (y.getD n 0)) (B (y.getD (4 * (n / 4) + (n % 4 + 1) % 4) 0)) (B (y.getD (4 * (n / 4) + (n % 4 + 2) % 4) 0)) (B (y.getD (4 * (n / 4) + (n % 4 + 3) % 4) 0)) := by
  unfold rz col
  rw [B_xor (bits_by _ _ _) (hy _), B_xor (bits_by _ _ _) (hy _), B_xor (twice_by (hy _)) (bits_by _ _ _), B_xor (twice_by (hy _)) (hy _), B_twice (hy _), B_twice (hy _)]
theorem B_all {y : List Int} (hy : By y) (c : Nat) : B (all4 y c) = B (y.getD c 0) ^^^ B (y.getD (c + 1) 0) ^^^ B (y.getD (c + 2) 0) ^^^ B (y.getD (c + 3) 0) := by
  unfold all4
  rw [B_xor (bits_by _ _ _) (hy _), B_xor (bits_by _ _ _) (hy _), B_xor (hy _) (hy _)]
theorem mq_by (all first : Int) (c : Nat) (s : List Int) (q : Nat) : 0 ≤ mq all first c s q ∧ mq all first c s q < 256 := bits_by _ _ _
theorem B_mq {y : List Int} (hy : By y) (c q : Nat) : B (mq (all4 y c) (y.getD c 0) c y q) = B (y.getD (c + q) 0) ^^^ (B (all4 y c) ^^^ T8 (B (y.getD (c + q) 0) ^^^ B (if q < 3 then y.getD (c + q + 1) 0 else y.getD c 0))) := by
  have hi : 0 ≤ (if q < 3 then y.getD (c + q + 1) 0 else y.getD c 0) ∧ (if q < 3 then y.getD (c + q + 1) 0 else y.getD c 0) < 256 := by split <;> exact hy _
  unfold mq
  rw [B_xor (hy _) (bits_by _ _ _), B_xor (show 0 ≤ all4 y c ∧ all4 y c < 256 from bits_by _ _ _) (twice_by (bits_by _ _ _)), B_twice (bits_by _ _ _), B_xor (hy _) hi]
theorem B_mm {y : List Int} (hy : By y) (n : Nat) : B (mm y n) = col (B (y.getD n 0)) (B (y.getD (4 * (n / 4) + (n % 4 + 1) % 4) 0)) (B (y.getD (4 * (n / 4) + (n % 4 + 2) % 4) 0)) (B (y.getD (4 * (n / 4) + (n % 4 + 3) % 4) 0)) := by
  unfold mm
  rw [B_mq hy, B_all hy, ← col_of]
  obtain ⟨c, hc⟩ : ∃ c, c = 4 * (n / 4) := ⟨_, rfl⟩
  obtain ⟨q, hq⟩ : ∃ q, q = n % 4 := ⟨_, rfl⟩
  have hn : n = c + q := by omega
  have hq4 : q < 4 := by omega
  rw [← hc, ← hq, hn]
  clear hc hq hn n
  rcases (by omega : q = 0 ∨ q = 1 ∨ q = 2 ∨ q = 3) with rfl | rfl | rfl | rfl
  all_goals
    simp only [Nat.reduceAdd, Nat.reduceMod, Nat.reduceLT, if_true, if_false, Nat.add_zero, Nat.zero_add, Nat.add_assoc]
    try (
      apply xor_all
      intro i
      simp only [BitVec.getLsbD_xor]
      generalize (B (y.getD c 0)).getLsbD i = p0
      generalize (B (y.getD (c + 1) 0)).getLsbD i = p1
      generalize (B (y.getD (c + 2) 0)).getLsbD i = p2
      generalize (B (y.getD (c + 3) 0)).getLsbD i = p3
      generalize BitVec.getLsbD (T8 _) i = tt
      revert p0 p1 p2 p3 tt
      decide)
theorem mm_by (x : List Int) (i : Nat) : 0 ≤ mm x i ∧ mm x i < 256 := mq_by _ _ _ _ _
theorem rz_mm {y : List Int} (hy : By y) (n : Nat) : rz y n = mm y n := B_inj (bits_by _ _ _) (mm_by _ _) ((B_rz hy n).trans (B_mm hy n).symm)
theorem mix_fill (s : List Int) : zR tabL s = mixL (yR tabL s) 4 := by
  have hb : By (yR tabL s) := fillL_by (fun n => by
    have hT : By tabL := by
      have h : ∀ n, By (T n) := fun n => by
        induction n with
        | zero => exact By.zeros 256
        | succ n ih => exact ih.set _ _ (bits_by _ _ _).1 (bits_by _ _ _).2
      exact (h 255).set _ _ (by decide) (by decide)
    exact hT _) (By.zeros 16) _
  refine getD_ext (by rw [zR_length, mixL_length, yR_length]) fun j => ?_
  rw [zR, fillL_getD (rz (yR tabL s)) zs 16 (Nat.le_of_eq rfl), mixL_getD _ (yR_length _ _) 4 (Nat.le_refl _)]
  by_cases h : j < 16
  · rw [if_pos h, if_pos (by omega), rz_mm hb]
  · rw [if_neg h, if_neg (by omega), show zs.getD j 0 = 0 from zeros_getD 16 j, List.getD_eq_getElem?_getD, List.getElem?_eq_none (by rw [yR_length]; omega)]
    rfl
theorem rnd_enc (ws x : List Int) (hw : By (tabL ++ ws)) (hx : x.length = 16) (hb : By x) (r : Nat) (hr : r ≤ 13) : rnd tabL ws r x = encL (tabL ++ ws) x r := by
  induction r with
  | zero => rw [rnd_zero, encL, show fillL (kR ws 0 x) x 16 = fillL (kR ws (16 * 0) x) x 16 from rfl, add_fill ws 0 x x hx hx]
  | succ r ih =>
    have e := ih (by omega)
    rw [rnd_succ, if_pos (by omega), e, encL, add_fill ws (r + 1) _ _ (zR_length _ _) (encL_length _ hx r), mix_fill, rows_fill ws _ (encL_by hw hb r)]
/-- The code's block is the reference's. -/
theorem rnd_block (ws x : List Int) (hw : By (tabL ++ ws)) (hx : x.length = 16) (hb : By x) : rnd tabL ws 14 x = blockL (tabL ++ ws) x := by
  rw [rnd_succ, if_neg (by omega), rnd_enc ws x hw hx hb 13 (Nat.le_refl _), add_fill ws 14 _ _ (yR_length _ _) (encL_length _ hx 13), blockL, rows_fill ws _ (encL_by hw hb 13)]
theorem wordsL_length (t key : List Int) : (wordsL t key).length = 240 := wrd_length t key 52
theorem box_is (key : List Int) : boxL key = tabL ++ wordsL tabL key := rfl
theorem block_is (key x : List Int) (hw : By (boxL key)) (hx : x.length = 16) (hb : By x) : rnd tabL (wordsL tabL key) 14 x = blockL (boxL key) x := by
  rw [box_is] at hw ⊢
  exact rnd_block _ x hw hx hb

end Go.Proofs.Ytingegkipimakaa.Ae
