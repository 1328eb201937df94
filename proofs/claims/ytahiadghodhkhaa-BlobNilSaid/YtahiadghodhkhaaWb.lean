/- The plain laws of bin's claims that wire needs too. -/
import Derived.Test.YtahiadghodhkhaaSb5
namespace Go.Proofs.Ytahiadghodhkhaa.Sb
open Go.RowKit Go.Proofs.YtahiadghodhkhaaW.PrintWords Go.Proofs.YtahiadghodhkhaaW.PrintLast Go.Proofs.YtahiadghodhkhaaW.PrintMore Go.Proofs.Ytahiadghodhkhaa.PB
set_option linter.unusedVariables false
set_option linter.unusedSimpArgs false

theorem wf_bytes {l : List Int} (h : ∀ z, z ∈ l → (Lit.int .u8 z).wf = true) : Bytes l := fun x hx => by
  have := h x hx
  simp [Lit.wf, IntKind.min, IntKind.max, IntKind.signed, IntKind.bits] at this
  omega

theorem be_snoc (l : List Int) (b : Int) : be (l ++ [b]) = 256 * be l + b := by simp [be, beF, List.foldl_append]
theorem spr_be : ∀ (n : Nat) (l : List Int), l.length = n → Bytes l → spr (be l) n = l := by
  intro n
  induction n with
  | zero => intro l h _; rw [List.eq_nil_of_length_eq_zero h]; rfl
  | succ n ih =>
    intro l h hb
    obtain ⟨l', y, rfl⟩ : ∃ l' y, l = l' ++ [y] := ⟨l.dropLast, l.getLast (by intro h'; simp [h'] at h), (List.dropLast_concat_getLast _).symm⟩
    have hy := hb y (by simp)
    have h1 := ih l' (by simpa using h) (fun x hx => hb x (by simp [hx]))
    rw [be_snoc, spr, show (256 * be l' + y) / 256 = be l' by omega, show (256 * be l' + y) % 256 = y by omega, h1]

/-- What was taken as a small number is put as the very bytes. -/
theorem small_back (s : List Int) (hs : Bytes s) (at_ : Nat) (hat : at_ ≤ s.length) (most : Int) (x : Int) (n : Nat) (h : smallR s at_ most = (x, n, 0)) : smallB x = ((s.drop at_).take n, 0) := by
  have h0 : small0 s at_ = (x, n, 0) := by
    obtain ⟨x', n', e', h'⟩ : ∃ x n e, small0 s at_ = (x, n, e) := ⟨_, _, _, rfl⟩
    rw [smallR_of h'] at h
    by_cases c : e' = 0
    · rw [if_pos c] at h
      by_cases c2 : x' > most
      · rw [if_pos c2] at h; simp at h
      · rw [if_neg c2] at h; rw [h', h]
    · rw [if_neg c] at h
      simp only [Prod.mk.injEq] at h
      exact absurd h.2.2 c
  unfold small0 at h0
  by_cases c1 : s.length ≤ at_
  · rw [if_pos c1] at h0; simp at h0
  · obtain ⟨hb0, hb1⟩ := hs.get at_ (by omega)
    rw [if_neg c1] at h0
    by_cases c2 : s.getD at_ 0 < 251
    · rw [if_pos c2] at h0
      simp only [Prod.mk.injEq] at h0
      obtain ⟨rfl, rfl, _⟩ := h0
      unfold smallB
      rw [if_neg (by omega), if_pos c2, drop_cons_getD s at_ (by omega)]
      simp
    · rw [if_neg c2] at h0
      by_cases c3 : s.getD at_ 0 = 255
      · rw [if_pos c3] at h0; simp at h0
      · rw [if_neg c3] at h0
        by_cases c4 : (s.length : Int) - at_ - 1 < s.getD at_ 0 - 250
        · rw [if_pos c4] at h0; simp at h0
        · rw [if_neg c4] at h0
          obtain ⟨m, hmm⟩ : ∃ m : Nat, s.getD at_ 0 - 250 = m := ⟨(s.getD at_ 0 - 250).toNat, by omega⟩
          rw [hmm, Int.toNat_natCast] at h0
          have hl : ((s.drop (at_ + 1)).take m).length = m := by rw [List.length_take, List.length_drop]; omega
          have hbb : Bytes ((s.drop (at_ + 1)).take m) := (hs.drop _).take _
          have hsp := spr_be m _ hl hbb
          by_cases c5 : be ((s.drop (at_ + 1)).take m) < 251 ∨ wd (be ((s.drop (at_ + 1)).take m)) ≠ m
          · rw [if_pos c5] at h0; simp at h0
          · rw [if_neg c5] at h0
            simp only [Prod.mk.injEq] at h0
            obtain ⟨rfl, rfl, _⟩ := h0
            obtain ⟨k1, k2⟩ := beF_bd ((s.drop (at_ + 1)).take m) hbb 0 (by omega)
            rw [hl] at k2
            have h5 : ∀ e : Fin 5, (0 + 1 : Int) * 256 ^ e.val ≤ 4294967296 := by decide
            have h6 := h5 ⟨m, by omega⟩
            have h7 : be ((s.drop (at_ + 1)).take m) < 4294967296 := Int.lt_of_lt_of_le k2 h6
            have hwd : wd (be ((s.drop (at_ + 1)).take m)) = m := Classical.byContradiction fun h => c5 (.inr h)
            unfold smallB
            rw [if_neg (by omega), if_neg (fun h => c5 (.inl h)), hwd, Int.toNat_natCast, hsp, drop_cons_getD s at_ (by omega), show (250 : Int) + m = s.getD at_ 0 by omega, Nat.add_comm 1 m]
            rfl

theorem be_spr : ∀ (n : Nat) (x : Int), 0 ≤ x → x < 256 ^ n → be (spr x n) = x := by
  intro n
  induction n with
  | zero => intro x h0 h1; simp at h1; have : x = 0 := by omega
            subst this; rfl
  | succ n ih =>
    intro x h0 h1
    have hp := p256_pos n
    rw [spr, be_snoc, ih (x / 256) (by omega) (by rw [Int.pow_succ] at h1; exact Int.ediv_lt_of_lt_mul (by decide) h1)]
    omega

theorem lt_wd (x : Int) (h0 : 0 ≤ x) (h1 : x < 4294967296) : ∃ m : Nat, wd x = m ∧ 1 ≤ m ∧ m ≤ 4 ∧ x < 256 ^ m := by
  unfold wd
  by_cases c1 : x < 256
  · rw [if_pos c1]; exact ⟨1, rfl, by omega, by omega, c1⟩
  · rw [if_neg c1]
    by_cases c2 : x < 65536
    · rw [if_pos c2]; exact ⟨2, rfl, by omega, by omega, c2⟩
    · rw [if_neg c2]
      by_cases c3 : x < 16777216
      · rw [if_pos c3]; exact ⟨3, rfl, by omega, by omega, c3⟩
      · rw [if_neg c3, if_pos h1]; exact ⟨4, rfl, by omega, by omega, h1⟩

theorem drop_mid (p q r : List Int) : (p ++ (q ++ r)).drop p.length = q ++ r := by simp
theorem getD_mid (p : List Int) (b : Int) (r : List Int) : (p ++ (b :: r)).getD p.length 0 = b := by simp
theorem drop_mid1 (p : List Int) (b : Int) (r : List Int) : (p ++ (b :: r)).drop (p.length + 1) = r := by
  rw [← List.drop_drop, show (p ++ (b :: r)).drop p.length = b :: r by simp]; rfl

/-- What is put as a small number is taken again. -/
theorem small_forth (p r : List Int) (x most : Int) (h0 : 0 ≤ x) (h1 : x < 4294967296) (hm : x ≤ most) : smallR (p ++ ((smallB x).1 ++ r)) p.length most = (x, (smallB x).1.length, 0) := by
  have key : small0 (p ++ ((smallB x).1 ++ r)) p.length = (x, (smallB x).1.length, 0) := by
    unfold smallB
    rw [if_neg (by omega)]
    by_cases c : x < 251
    · rw [if_pos c]
      unfold small0
      simp only [List.singleton_append, getD_mid]
      rw [if_neg (by simp), if_pos c]
      rfl
    · obtain ⟨m, hm, m1, m4, hx⟩ := lt_wd x h0 h1
      rw [if_neg c, hm, Int.toNat_natCast]
      unfold small0
      simp only [List.cons_append, getD_mid, drop_mid1]
      have e1 : (250 + (m : Int) - 250).toNat = m := by omega
      have e2 : (spr x m ++ r).take m = spr x m := by rw [List.take_append_of_le_length (by rw [spr_length]; omega), List.take_of_length_le (by rw [spr_length]; omega)]
      rw [if_neg (by simp), if_neg (by omega), if_neg (by omega), e1, e2, be_spr m x h0 hx, hm, if_neg (by simp [spr_length]; omega), if_neg (by omega), List.length_cons, spr_length, Nat.add_comm 1 m]
  rw [smallR_of key, if_pos rfl, if_neg (by omega)]

/-- What is put as a number of n bytes is taken again. -/
theorem num_forth (p r : List Int) (x : Int) (n : Nat) (h0 : 0 ≤ x) (h1 : x < 256 ^ n) (hn : 1 ≤ n) (h8 : n ≤ 8) : numR (p ++ (spr x n ++ r)) p.length n = (x, n, 0) := by
  unfold numR
  have e2 : (spr x n ++ r).take n = spr x n := by rw [List.take_append_of_le_length (by rw [spr_length]; omega), List.take_of_length_le (by rw [spr_length]; omega)]
  rw [if_neg (by omega), if_neg (by simp [spr_length]; omega), drop_mid, Int.toNat_natCast, e2, be_spr n x h0 h1]

/-- What is put as a text is taken again. -/
theorem text_forth (p r t : List Int) (most : Int) (ht : (t.length : Int) ≤ 65536) (hm : (t.length : Int) ≤ most) : textR (p ++ ((textB t).1 ++ r)) p.length most = (t, (textB t).1.length, 0) := by
  have e : (textB t).1 = (smallB (t.length : Int)).1 ++ t := by unfold textB; rw [if_neg (by omega)]
  unfold textR
  rw [e, List.append_assoc, show max most 0 = most by omega, small_forth p (t ++ r) (t.length : Int) most (by omega) (by omega) hm]
  simp only [Int.toNat_natCast]
  rw [if_neg (by simp), if_neg (by simp; omega), ← List.drop_drop, drop_mid, show ((smallB (t.length : Int)).1 ++ (t ++ r)).drop (smallB (t.length : Int)).1.length = t ++ r by simp, List.length_append]
  simp

theorem bytes_smallB (x : Int) (h0 : 0 ≤ x) : Bytes (smallB x).1 := by
  unfold smallB
  split
  · exact Bytes.nil
  · split
    · exact Bytes.cons h0 (by omega) Bytes.nil
    · have := wd_small x (by omega)
      have := wd_le x
      exact Bytes.cons (by omega) (by omega) (bytes_spr _ _)
theorem bytes_textB (t : List Int) (h : Bytes t) : Bytes (textB t).1 := by
  unfold textB
  split
  · exact Bytes.nil
  · exact (bytes_smallB _ (by omega)).append h
theorem bytes_numB (x n : Int) : Bytes (numB x n).1 := by
  unfold numB
  split
  · exact Bytes.nil
  · split
    · exact Bytes.nil
    · exact bytes_spr _ _

theorem wrap64_small {x : Int} (h0 : 0 ≤ x) (h1 : x < 4611686018427387904) : wrap64 x = x := by unfold wrap64; omega

/-- A text taken at a place, as the reference tells it. -/
theorem TakeText_is (s : List Int) (hs : Bytes s) (hm : s.length ≤ 70000) (at_ : Nat) (hat : at_ ≤ s.length) (most : Int) (hmost : most ≤ 9223372036854775807) :
    scriniumref01_TakeText.f 10 s at_ most = some (0, (textR s at_ most).1, (((textR s at_ most).2.1 : Nat) : Int), (textR s at_ most).2.2) := by
  have key : ∀ mx : Int, 0 ≤ mx → mx ≤ 9223372036854775807 → max most 0 = mx → scriniumref01_TakeText.j0 10 s at_ mx = some (0, (textR s at_ most).1, (((textR s at_ most).2.1 : Nat) : Int), (textR s at_ most).2.2) := by
    intro mx h0 h1 hmx
    have eu : IntKind.u64.wrap mx = mx := u64_small h0 (by unfold M64; omega)
    simp only [scriniumref01_TakeText.j0, eu, TakeSmall_is s hs (by omega) at_ hat mx, Option.bind_some]
    clear eu
    unfold textR
    rw [hmx]
    obtain ⟨k1, k2, k3, k4, k5, k6⟩ := smallR_bd s hs at_ hat mx
    generalize smallR s at_ mx = q at k1 k2 k3 k4 k5 k6 ⊢
    obtain ⟨x, n, e⟩ := q
    simp only at k1 k2 k3 k4 k5 k6 ⊢
    by_cases c : e = 0
    · subst c
      rw [if_pos rfl, if_neg (show ¬ ((0 : Int) ≠ 0) from fun h => h rfl)]
      have w1 : wrap64 ((at_ : Int) + (n : Int)) = ((at_ + n : Nat) : Int) := by rw [wrap64_small (by omega) (by omega)]; omega
      have w2 : wrap64 ((s.length : Int) - ((at_ + n : Nat) : Int)) = (s.length : Int) - ((at_ + n : Nat) : Int) := wrap64_small (by omega) (by omega)
      have w3 : IntKind.u64.wrap ((s.length : Int) - ((at_ + n : Nat) : Int)) = (s.length : Int) - ((at_ + n : Nat) : Int) := u64_small (by omega) (by unfold M64; omega)
      have w4 : wrap64 x = x := wrap64_small k1 (by omega)
      simp only [w1, w2, w3, w4]
      clear w1 w2 w3 w4
      by_cases c2 : (s.length : Int) - ((at_ + n : Nat) : Int) < x
      · rw [if_pos c2, if_pos c2]; rfl
      · rw [if_neg c2, if_neg c2]
        obtain ⟨y, rfl⟩ : ∃ y : Nat, x = y := ⟨x.toNat, by omega⟩
        have w5 : wrap64 (((at_ + n : Nat) : Int) + (y : Int)) = ((at_ + n + y : Nat) : Int) := by rw [wrap64_small (by omega) (by omega)]; omega
        have w6 : wrap64 ((n : Int) + (y : Int)) = ((n + y : Nat) : Int) := by rw [wrap64_small (by omega) (by omega)]; omega
        have hl : (s.take (at_ + n + y)).drop (at_ + n) = (s.drop (at_ + n)).take y := by rw [List.drop_take, Nat.add_sub_cancel_left]
        have hll : ((s.drop (at_ + n)).take y).length ≤ 70000 := by rw [List.length_take, List.length_drop]; omega
        simp only [w5, w6, Int.toNat_natCast, hl, List.nil_append, List.length_nil]
        clear w5 w6
        rw [if_pos (by omega), if_pos (by omega), if_pos (by omega), if_pos (by omega)]
    · obtain ⟨rfl, rfl⟩ := k6 c
      rw [if_neg c, if_pos c]
  unfold scriniumref01_TakeText.f
  by_cases c : most < 0
  · rw [if_pos c]; exact key 0 (by omega) (by omega) (by omega)
  · rw [if_neg c]; exact key most (by omega) hmost (by omega)

theorem textR_len (s : List Int) (at_ : Nat) (most : Int) : (textR s at_ most).1.length ≤ s.length := by
  unfold textR
  split
  · simp
  · split
    · simp
    · simp only [List.length_take, List.length_drop]; omega
end Go.Proofs.Ytahiadghodhkhaa.Sb
