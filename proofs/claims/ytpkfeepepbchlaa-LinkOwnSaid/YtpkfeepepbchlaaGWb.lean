import Derived.Test.YtpkfeepepbchlaaGSb5
namespace Go.Proofs.Ytpkfeepepbchlaa.Sb
open Go.RowKit Go.Proofs.YtpkfeepepbchlaaW.PrintWords Go.Proofs.YtpkfeepepbchlaaW.PrintLast Go.Proofs.YtpkfeepepbchlaaW.PrintMore Go.Proofs.Ytpkfeepepbchlaa.PK
set_option linter.unusedVariables false
set_option linter.unusedSimpArgs false
theorem be_snoc (l : List Int) (b : Int) : be (l ++ [b]) = 256 * be l + b := by simp [be, beF, List.foldl_append]
theorem be_spr : ∀ (n : Nat) (x : Int), 0 ≤ x → x < 256 ^ n → be (spr x n) = x := by
  intro n
  induction n with
  | zero => intro x h0 h1; simp at h1; have : x = 0 := by omega
            subst this; rfl
  | succ n ih =>
    intro x h0 h1
    have hp := p256_pos n
    rw [spr, be_snoc, ih (x / 256) (by omega) (by rw [Int.pow_succ] at h1; exact Int.ediv_lt_of_lt_mul (by decide) h1)]
    omega
theorem lt_wd (x : Int) (h0 : 0 ≤ x) (h1 : x < 4294967296) : ∃ m : Nat, wd x = m ∧ 1 ≤ m ∧ m ≤ 4 ∧ x < 256 ^ m := by
  unfold wd
  by_cases c1 : x < 256
  · rw [if_pos c1]; exact ⟨1, rfl, by omega, by omega, c1⟩
  · rw [if_neg c1]
    by_cases c2 : x < 65536
    · rw [if_pos c2]; exact ⟨2, rfl, by omega, by omega, c2⟩
    · rw [if_neg c2]
      by_cases c3 : x < 16777216
      · rw [if_pos c3]; exact ⟨3, rfl, by omega, by omega, c3⟩
      · rw [if_neg c3, if_pos h1]; exact ⟨4, rfl, by omega, by omega, h1⟩
theorem drop_mid (p q r : List Int) : (p ++ (q ++ r)).drop p.length = q ++ r := by simp
theorem getD_mid (p : List Int) (b : Int) (r : List Int) : (p ++ (b :: r)).getD p.length 0 = b := by simp
theorem drop_mid1 (p : List Int) (b : Int) (r : List Int) : (p ++ (b :: r)).drop (p.length + 1) = r := by
  rw [← List.drop_drop, show (p ++ (b :: r)).drop p.length = b :: r by simp]; rfl
theorem small_forth (p r : List Int) (x most : Int) (h0 : 0 ≤ x) (h1 : x < 4294967296) (hm : x ≤ most) : smallR (p ++ ((smallB x).1 ++ r)) p.length most = (x, (smallB x).1.length, 0) := by
  have key : small0 (p ++ ((smallB x).1 ++ r)) p.length = (x, (smallB x).1.length, 0) := by
    unfold smallB
    rw [if_neg (by omega)]
    by_cases c : x < 251
    · rw [if_pos c]
      unfold small0
      simp only [List.singleton_append, getD_mid]
      rw [if_neg (by simp), if_pos c]
      rfl
    · obtain ⟨m, hm, m1, m4, hx⟩ := lt_wd x h0 h1
      rw [if_neg c, hm, Int.toNat_natCast]
      unfold small0
      simp only [List.cons_append, getD_mid, drop_mid1]
      have e1 : (250 + (m : Int) - 250).toNat = m := by omega
      have e2 : (spr x m ++ r).take m = spr x m := by rw [List.take_append_of_le_length (by rw [spr_length]; omega), List.take_of_length_le (by rw [spr_length]; omega)]
      rw [if_neg (by simp), if_neg (by omega), if_neg (by omega), e1, e2, be_spr m x h0 hx, hm, if_neg (by simp [spr_length]; omega), if_neg (by omega), List.length_cons, spr_length, Nat.add_comm 1 m]
  rw [smallR_of key, if_pos rfl, if_neg (by omega)]
theorem text_forth (p r t : List Int) (most : Int) (ht : (t.length : Int) ≤ 65536) (hm : (t.length : Int) ≤ most) : textR (p ++ ((textB t).1 ++ r)) p.length most = (t, (textB t).1.length, 0) := by
  have e : (textB t).1 = (smallB (t.length : Int)).1 ++ t := by unfold textB; rw [if_neg (by omega)]
  unfold textR
  rw [e, List.append_assoc, show max most 0 = most by omega, small_forth p (t ++ r) (t.length : Int) most (by omega) (by omega) hm]
  simp only [Int.toNat_natCast]
  rw [if_neg (by simp), if_neg (by simp; omega), ← List.drop_drop, drop_mid, show ((smallB (t.length : Int)).1 ++ (t ++ r)).drop (smallB (t.length : Int)).1.length = t ++ r by simp, List.length_append]
  simp
theorem bytes_smallB (x : Int) (h0 : 0 ≤ x) : Bytes (smallB x).1 := by
  unfold smallB
  split
  · exact Bytes.nil
  · split
    · exact Bytes.cons h0 (by omega) Bytes.nil
    · have := wd_small x (by omega)
      have := wd_le x
      exact Bytes.cons (by omega) (by omega) (bytes_spr _ _)
theorem bytes_textB (t : List Int) (h : Bytes t) : Bytes (textB t).1 := by
  unfold textB
  split
  · exact Bytes.nil
  · exact (bytes_smallB _ (by omega)).append h
theorem textR_len (s : List Int) (at_ : Nat) (most : Int) : (textR s at_ most).1.length ≤ s.length := by
  unfold textR
  split
  · simp
  · split
    · simp
    · simp only [List.length_take, List.length_drop]; omega
end Go.Proofs.Ytpkfeepepbchlaa.Sb
