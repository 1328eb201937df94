import Derived.Test.YtahiadghodhkhaaGWr9
import Derived.Test.YtahiadghodhkhaaGPBg
namespace Go.Proofs.Ytahiadghodhkhaa.Sb
open Go.RowKit Go.Proofs.YtahiadghodhkhaaW.PrintWords Go.Proofs.YtahiadghodhkhaaW.PrintLast Go.Proofs.YtahiadghodhkhaaW.PrintMore Go.Proofs.Ytahiadghodhkhaa.PB
set_option linter.unusedVariables false
set_option linter.unusedSimpArgs false
theorem TakeSmall_is (s : List Int) (hs : Bytes s) (hm : (s.length : Int) < 4611686018427387904) (at_ : Nat) (hat : at_ ≤ s.length) (most : Int) :
    scriniumref01_TakeSmall.f 9 s at_ most = some ((smallR s at_ most).1, [], (((smallR s at_ most).2.1 : Nat) : Int), (smallR s at_ most).2.2) := by
  have e : wrap64 ((s.length : Int) - at_) = (s.length : Int) - at_ := by unfold wrap64; omega
  have er : rd s (at_ : Int) = s.getD at_ 0 := by unfold rd; rw [Int.toNat_natCast]
  unfold scriniumref01_TakeSmall.f
  simp only [e, er]
  clear e er
  by_cases c1 : s.length ≤ at_
  · rw [if_pos (by omega), smallR_of (x := 0) (n := 0) (e := 1) (by unfold small0; rw [if_pos c1])]; simp
  · obtain ⟨hb0, hb1⟩ := hs.get at_ (by omega)
    have eu : IntKind.u64.wrap (s.getD at_ 0) = s.getD at_ 0 := u64_small hb0 (by unfold M64; omega)
    rw [if_neg (by omega), if_pos (by omega), if_pos (by omega), eu]
    clear eu
    by_cases c2 : s.getD at_ 0 < 251
    · rw [if_neg (by omega), if_neg (by omega), smallR_of (x := s.getD at_ 0) (n := 1) (e := 0) (by unfold small0; rw [if_neg c1, if_pos c2]), if_pos rfl]
      by_cases cm : s.getD at_ 0 > most
      · rw [if_pos cm, if_pos cm]; rfl
      · rw [if_neg cm, if_neg cm]; rfl
    · by_cases c3 : s.getD at_ 0 = 255
      · rw [if_pos c3, smallR_of (x := 0) (n := 0) (e := 2) (by unfold small0; rw [if_neg c1, if_neg c2, if_pos c3])]; simp
      · have n1 : s.getD at_ 0 > 250 := by omega
        have e2 : wrap64 (wrap64 (s.getD at_ 0) - 250) = s.getD at_ 0 - 250 := by unfold wrap64; omega
        have e3 : wrap64 ((s.length : Int) - at_ - 1) = (s.length : Int) - at_ - 1 := by clear e2 hb0 hb1; unfold wrap64; omega
        have e4 : wrap64 ((at_ : Int) + 1) = ((at_ + 1 : Nat) : Int) := by clear e2 e3 hb0 hb1; unfold wrap64; omega
        rw [if_neg c3, if_pos n1]
        simp only [e2, e3, e4]
        clear e2 e3 e4
        by_cases c4 : (s.length : Int) - at_ - 1 < s.getD at_ 0 - 250
        · rw [if_pos c4, smallR_of (x := 0) (n := 0) (e := 1) (by unfold small0; rw [if_neg c1, if_neg c2, if_neg c3, if_pos c4])]; simp
        · rw [if_neg c4]
          obtain ⟨m, hmm⟩ : ∃ m : Nat, s.getD at_ 0 - 250 = m := ⟨(s.getD at_ 0 - 250).toNat, by omega⟩
          have hS : small0 s at_ = if be ((s.drop (at_ + 1)).take m) < 251 ∨ wd (be ((s.drop (at_ + 1)).take m)) ≠ m then (0, 0, 2) else (be ((s.drop (at_ + 1)).take m), 1 + m, 0) := by
            unfold small0; rw [if_neg c1, if_neg c2, if_neg c3, if_neg c4, hmm, Int.toNat_natCast]
          rw [hmm, number_is s hs hm (at_ + 1) m (by omega) (by omega)]
          simp only [Option.bind_some]
          obtain ⟨h1, h2⟩ := be_bd ((s.drop (at_ + 1)).take m) ((hs.drop _).take _) (by rw [List.length_take]; omega)
          have hm8 : m ≤ 5 := by omega
          generalize be ((s.drop (at_ + 1)).take m) = x at h1 h2 hS ⊢
          by_cases c5 : x < 251
          · rw [if_pos c5, smallR_of (x := 0) (n := 0) (e := 2) (by rw [hS, if_pos (.inl c5)])]; simp [scriniumref01_TakeSmall.j0]
          · rw [if_neg c5, refWidth_is _ h1 h2]
            simp only [Option.bind_some]
            by_cases c6 : wd x = m
            · rw [smallR_of (x := x) (n := 1 + m) (e := 0) (by rw [hS, if_neg (fun h => h.elim c5 (fun h => h c6))]), if_pos rfl, show (wd x != (m : Int)) = false by simp [c6]]
              have e5 : wrap64 (1 + (m : Int)) = ((1 + m : Nat) : Int) := by clear hmm hb0 hb1 h1 h2 c4 n1 c6; unfold wrap64; omega
              by_cases c7 : x > most
              · simp [scriniumref01_TakeSmall.j0, c7]
              · simp [scriniumref01_TakeSmall.j0, c7, e5]
            · rw [smallR_of (x := 0) (n := 0) (e := 2) (by rw [hS, if_pos (.inr c6)]), show (wd x != (m : Int)) = true by simp [c6]]
              simp [scriniumref01_TakeSmall.j0]
end Go.Proofs.Ytahiadghodhkhaa.Sb
