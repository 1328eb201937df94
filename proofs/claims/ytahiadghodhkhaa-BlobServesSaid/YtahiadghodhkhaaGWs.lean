import Derived.Test.YtahiadghodhkhaaGWr9
import Derived.Test.YtahiadghodhkhaaGPBg
namespace Go.Proofs.Ytahiadghodhkhaa.Sb
open Go.RowKit Go.Proofs.YtahiadghodhkhaaW.PrintWords Go.Proofs.YtahiadghodhkhaaW.PrintLast Go.Proofs.YtahiadghodhkhaaW.PrintMore Go.Proofs.Ytahiadghodhkhaa.PB
set_option linter.unusedVariables false
set_option linter.unusedSimpArgs false
theorem TakeSmall_is (s : List Int) (hs : Bytes s) (hm : (s.length : Int) < 4611686018427387904) (at_ : Nat) (hat : at_ ≤ s.length) (most : Int) :
    scriniumref01_TakeSmall.f 9 s at_ most = some ((smallR s at_ most).1, [], (((smallR s at_ most).2.1 : Nat) : Int), (smallR s at_ most).2.2) := by
  have e : wrap64 ((s.length : Int) - at_) = (s.length : Int) - at_ := by unfold wrap64; omega
  have er : rd s (at_ : Int) = s.getD at_ 0 := by unfold rd; rw [Int.toNat_natCast]
  unfold scriniumref01_TakeSmall.f
  simp only [e, er]
  clear e er
  by_cases c1 : s.length ≤ at_
  · rw [if_pos (by omega), smallR_of (x := 0) (n := 0) (e := 1) (by unfold small0; rw [if_pos c1])]; simp
  · obtain ⟨hb0, hb1⟩ := hs.get at_ (by omega)
    have eu : IntKind.u64.wrap (s.getD at_ 0) = s.getD at_ 0 := u64_small hb0 (by unfold M64; omega)
    rw [if_neg (by omega), if_pos (by omega), if_pos (by omega), eu]
    clear eu
    by_cases c2 : s.getD at_ 0 < 251
    · rw [if_neg (by omega), if_neg (by omega), smallR_of (x := s.getD at_ 0) (n := 1) (e := 0) (by unfold small0; rw [if_neg c1, if_pos c2]), if_pos rfl]
      by_cases cm : s.getD at_ 0 > most
      · rw [if_pos cm, if_pos cm]; rfl
      · rw [if_neg cm, if_neg cm]; rfl
    · by_cases c3 : s.getD at_ 0 = 255
      · rw [if_pos c3, smallR_of (x := 0) (n := 0) (e := 2) (by unfold small0; rw [if_neg c1, if_neg c2, if_pos c3])]; simp
      · have n1 : s.getD at_ 0 > 250 := by omega
        have e2 : wrap64 (wrap64 (s.getD at_ 0) - 250) = s.getD at_ 0 - 250 := by unfold wrap64; omega
        have e3 : wrap64 ((s.length : Int) - at_ - 1) = (s.length : Int) - at_ - 1 := by clear e2 hb0 hb1; unfold wrap64; omega
        have e4 : wrap64 ((at_ : Int) + 1) = ((at_ + 1 : Nat) : Int) := by clear e2 e3 hb0 hb1; unfold wrap64; omega
        rw [if_neg c3, if_pos n1]
        simp only [e2, e3, e4]
        clear e2 e3 e4
        by_cases c4 : (s.length : Int) - at_ - 1 < s.getD at_ 0 - 250
        · rw [if_pos c4, smallR_of (x := 0) (n := 0) (e := 1) (by unfold small0; rw [if_neg c1, if_neg c2, if_neg c3, if_pos c4])]; simp
        · rw [if_neg c4]
          obtain ⟨m, hmm⟩ : ∃ m : Nat, s.getD at_ 0 - 250 = m := ⟨(s.getD at_ 0 - 250).toNat, by omega⟩
          have hS : small0 s at_ = if be ((s.drop (at_ + 1)).take m) < 251 ∨ wd (be ((s.drop (at_ + 1)).take m)) ≠ m then (0, 0, 2) else (be ((s.drop (at_ + 1)).take m), 1 + m, 0) := by
            unfold small0; rw [if_neg c1, if_neg c2, if_neg c3, if_neg c4, hmm, Int.toNat_natCast]
          rw [hmm, number_is s hs hm (at_ + 1) m (by omega) (by omega)]
          simp only [Option.bind_some]
          obtain ⟨h1, h2⟩ := be_bd ((s.drop (at_ + 1)).take m) ((hs.drop _).take _) (by rw [List.length_take]; omega)
          have hm8 : m ≤ 5 := by omega
          generalize be ((s.drop (at_ + 1)).take m) = x at h1 h2 hS ⊢
          by_cases c5 : x < 251
          · rw [if_pos c5, smallR_of (x := 0) (n := 0) (e := 2) (by rw [hS, if_pos (.inl c5)])]; simp [scriniumref01_TakeSmall.j0]
          · rw [if_neg c5, refWidth_is _ h1 h2]
            simp only [Option.bind_some]
            by_cases c6 : wd x = m
            · rw [smallR_of (x := x) (n := 1 + m) (e := 0) (by rw [hS, if_neg (fun h => h.elim c5 (fun h => h c6))]), if_pos rfl, show (wd x != (m : Int)) = false by simp [c6]]
              have e5 : wrap64 (1 + (m : Int)) = ((1 + m : Nat) : Int) := by clear hmm hb0 hb1 h1 h2 c4 n1 c6; unfold wrap64; omega
              by_cases c7 : x > most
              · simp [scriniumref01_TakeSmall.j0, c7]
              · simp [scriniumref01_TakeSmall.j0, c7, e5]
            · rw [smallR_of (x := 0) (n := 0) (e := 2) (by rw [hS, if_pos (.inr c6)]), show (wd x != (m : Int)) = true by simp [c6]]
              simp [scriniumref01_TakeSmall.j0]
theorem TakeText_is (s : List Int) (hs : Bytes s) (hm : s.length ≤ 70000) (at_ : Nat) (hat : at_ ≤ s.length) (most : Int) (hmost : most ≤ 9223372036854775807) :
    scriniumref01_TakeText.f 10 s at_ most = some (0, (textR s at_ most).1, (((textR s at_ most).2.1 : Nat) : Int), (textR s at_ most).2.2) := by
  have key : ∀ mx : Int, 0 ≤ mx → mx ≤ 9223372036854775807 → max most 0 = mx → scriniumref01_TakeText.j0 10 s at_ mx = some (0, (textR s at_ most).1, (((textR s at_ most).2.1 : Nat) : Int), (textR s at_ most).2.2) := by
    intro mx h0 h1 hmx
    have eu : IntKind.u64.wrap mx = mx := u64_small h0 (by unfold M64; omega)
    simp only [scriniumref01_TakeText.j0, eu, TakeSmall_is s hs (by omega) at_ hat mx, Option.bind_some]
    clear eu
    unfold textR
    rw [hmx]
    obtain ⟨k1, k2, k3, k4, k5, k6⟩ := smallR_bd s hs at_ hat mx
    generalize smallR s at_ mx = q at k1 k2 k3 k4 k5 k6 ⊢
    obtain ⟨x, n, e⟩ := q
    simp only at k1 k2 k3 k4 k5 k6 ⊢
    by_cases c : e = 0
    · subst c
      rw [if_pos rfl, if_neg (show ¬ ((0 : Int) ≠ 0) from fun h => h rfl)]
      have w1 : wrap64 ((at_ : Int) + (n : Int)) = ((at_ + n : Nat) : Int) := by rw [wrap64_small (by omega) (by omega)]; omega
      have w2 : wrap64 ((s.length : Int) - ((at_ + n : Nat) : Int)) = (s.length : Int) - ((at_ + n : Nat) : Int) := wrap64_small (by omega) (by omega)
      have w3 : IntKind.u64.wrap ((s.length : Int) - ((at_ + n : Nat) : Int)) = (s.length : Int) - ((at_ + n : Nat) : Int) := u64_small (by omega) (by unfold M64; omega)
      have w4 : wrap64 x = x := wrap64_small k1 (by omega)
      simp only [w1, w2, w3, w4]
      clear w1 w2 w3 w4
      by_cases c2 : (s.length : Int) - ((at_ + n : Nat) : Int) < x
      · rw [if_pos c2, if_pos c2]; rfl
      · rw [if_neg c2, if_neg c2]
        obtain ⟨y, rfl⟩ : ∃ y : Nat, x = y := ⟨x.toNat, by omega⟩
        have w5 : wrap64 (((at_ + n : Nat) : Int) + (y : Int)) = ((at_ + n + y : Nat) : Int) := by rw [wrap64_small (by omega) (by omega)]; omega
        have w6 : wrap64 ((n : Int) + (y : Int)) = ((n + y : Nat) : Int) := by rw [wrap64_small (by omega) (by omega)]; omega
        have hl : (s.take (at_ + n + y)).drop (at_ + n) = (s.drop (at_ + n)).take y := by rw [List.drop_take, Nat.add_sub_cancel_left]
        have hll : ((s.drop (at_ + n)).take y).length ≤ 70000 := by rw [List.length_take, List.length_drop]; omega
        simp only [w5, w6, Int.toNat_natCast, hl, List.nil_append, List.length_nil]
        clear w5 w6
        rw [if_pos (by omega), if_pos (by omega), if_pos (by omega), if_pos (by omega)]
    · obtain ⟨rfl, rfl⟩ := k6 c
      rw [if_neg c, if_pos c]
  unfold scriniumref01_TakeText.f
  by_cases c : most < 0
  · rw [if_pos c]; exact key 0 (by omega) (by omega) (by omega)
  · rw [if_neg c]; exact key most (by omega) hmost (by omega)
theorem textR_bd (s : List Int) (hs : Bytes s) (at_ : Nat) (hat : at_ ≤ s.length) (most : Int) : at_ + (textR s at_ most).2.1 ≤ s.length ∧ ((textR s at_ most).2.2 = 0 → at_ < at_ + (textR s at_ most).2.1 ∨ True) ∧ Bytes (textR s at_ most).1 ∧ (textR s at_ most).1.length ≤ s.length := by
  refine ⟨?_, fun _ => .inr trivial, ?_, textR_len s at_ most⟩
  · obtain ⟨k1, k2, k3, k4, k5, k6⟩ := smallR_bd s hs at_ hat (max most 0)
    unfold textR
    by_cases c1 : (smallR s at_ (max most 0)).2.2 ≠ 0
    · rw [if_pos c1]; simp only; omega
    · rw [if_neg c1]
      by_cases c2 : (s.length : Int) - ((at_ + (smallR s at_ (max most 0)).2.1 : Nat) : Int) < (smallR s at_ (max most 0)).1
      · rw [if_pos c2]; simp only; omega
      · rw [if_neg c2]; simp only; omega
  · unfold textR
    split
    · intro x hx; simp at hx
    · split
      · intro x hx; simp at hx
      · intro x hx; exact hs x (List.mem_of_mem_drop (List.mem_of_mem_take hx))
theorem refGetA_is (l : List Int) (hs : Bytes l) (hl : l.length ≤ 4000) : scriniumref16_GetAsk.f 10 l = some ((getA l).1, (getA l).2.1, strOfNums (getA l).2.2.1, (getA l).2.2.2.1, (getA l).2.2.2.2) := by
  unfold scriniumref16_GetAsk.f getA
  by_cases h5 : l.length < 5
  · rw [if_pos (by omega), if_pos h5]; rfl
  rw [if_neg (by omega), if_pos (by omega), if_neg h5]
  have hN : scriniumref01_TakeNum.f 10 l 1 4 = some (be ((l.drop 1).take 4), [], 4, 0) := by
    have h := TakeNum_is l hs (by omega) 1 (by omega) ((4 : Nat) : Int)
    rw [numR_full l 1 4 (by omega) (by omega) (by omega)] at h
    exact h
  have hT : scriniumref01_TakeText.f 10 l 5 64 = _ := TakeText_is l hs (by omega) 5 (by omega) 64 (by omega)
  obtain ⟨hb1, -, hby, hln⟩ := textR_bd l hs 5 (by omega) 64
  obtain ⟨hbe0, hbe1⟩ := be_four l hs 1 (by omega)
  obtain ⟨hg0, hg1⟩ := hs.get 0 (by omega)
  rw [hN]; simp only [Option.bind_some]; rw [hT]; simp only [Option.bind_some]
  clear hN hT
  have er : rd l 0 = l.getD 0 0 := rfl
  rw [er, wrap64_small (x := l.getD 0 0) (by omega) (by omega), wrap64_small (x := be ((l.drop 1).take 4)) (by omega) (by omega)]
  generalize textR l 5 64 = q at hb1 hby hln ⊢
  obtain ⟨t, n, e⟩ := q
  simp only at hb1 hby hln ⊢
  by_cases he : e = 0
  rotate_left
  · rw [if_neg he, if_pos he]; rfl
  rw [if_pos he, if_neg (show ¬ (e ≠ 0) by simp [he])]
  have ew : wrap64 (5 + (n : Int)) = ((5 + n : Nat) : Int) := by rw [wrap64_small (by omega) (by omega)]; omega
  rw [ew, TakeText_is l hs (by omega) (5 + n) hb1 60000 (by omega)]; simp only [Option.bind_some]
  clear ew
  obtain ⟨hb2, -, hby2, hln2⟩ := textR_bd l hs (5 + n) hb1 60000
  generalize textR l (5 + n) 60000 = q at hb2 hby2 hln2 ⊢
  obtain ⟨t2, n2, e2⟩ := q
  simp only at hb2 hby2 hln2 ⊢
  by_cases he2 : e2 = 0
  rotate_left
  · rw [if_neg he2, if_pos he2]; rfl
  rw [if_pos he2, if_neg (show ¬ (e2 ≠ 0) by simp [he2])]
  have ew : wrap64 (((5 + n : Nat) : Int) + (n2 : Int)) = ((5 + n + n2 : Nat) : Int) := by rw [wrap64_small (by omega) (by omega)]; omega
  rw [ew]
  clear ew
  by_cases hle : 5 + n + n2 < l.length
  · rw [if_pos (show ((5 + n + n2 : Nat) : Int) < (l.length : Int) by omega), if_pos (show l.length ≠ 5 + n + n2 by omega)]; rfl
  rw [if_neg (show ¬ ((5 + n + n2 : Nat) : Int) < (l.length : Int) by omega), if_neg (show ¬ (l.length ≠ 5 + n + n2) by omega), refRight_is, strOfNums_size]
  simp only [Option.bind_some]
  cases okA (l.getD 0 0) (be ((l.drop 1).take 4)) t.length t2.length <;> rfl
end Go.Proofs.Ytahiadghodhkhaa.Sb
