import Derived.Test.YtcffacpdjcfidaaGWr7
namespace Go.Proofs.Ytcffacpdjcfidaa.Sb
open Go.RowKit Go.Proofs.YtcffacpdjcfidaaW.PrintWords Go.Proofs.YtcffacpdjcfidaaW.PrintLast Go.Proofs.YtcffacpdjcfidaaW.PrintMore Go.Proofs.Ytcffacpdjcfidaa.PW
set_option linter.unusedVariables false
set_option linter.unusedSimpArgs false
theorem i_next (i : Nat) (h : i < 140737488355328) : wrap64 ((i : Int) + 1) = ((i + 1 : Nat) : Int) := by unfold wrap64; omega
theorem right_loop (num code : Int) (bd : List Int) (l : List ByteArray) (hm : l.length ≤ 140737488355328) : ∀ (d k i : Nat), i + d = l.length → d < k → scriniumref16_RightAnswer.l0 k i num code bd l = some (okN (l.drop i) && decide (0 ≤ code ∧ code ≤ 3 ∧ 0 ≤ num ∧ num ≤ 2147483647 ∧ bd.length ≤ 60000 ∧ l.length ≤ 1000)) := by
  intro d
  induction d with
  | zero =>
    intro k i hi hk
    obtain ⟨k, rfl⟩ : ∃ j, k = j + 1 := ⟨k - 1, by omega⟩
    simp only [scriniumref16_RightAnswer.l0]
    rw [if_neg (by omega), List.drop_of_length_le (by omega)]
    show _ = some (decide _)
    repeat' split
    all_goals (congr 1)
    all_goals first | (rw [eq_comm, decide_eq_false_iff_not]; omega) | (rw [Bool.eq_iff_iff, decide_eq_true_eq, decide_eq_true_eq]; omega)
  | succ d ih =>
    intro k i hi hk
    obtain ⟨k, rfl⟩ : ∃ j, k = j + 1 := ⟨k - 1, by omega⟩
    simp only [scriniumref16_RightAnswer.l0]
    rw [if_pos (by omega), if_pos (by omega), okN_drop l i (by omega), i_next i (by omega), ih k (i + 1) (by omega) (by omega)]
    generalize rdOf ByteArray.empty l (i : Int) = s
    by_cases c : (s.size : Int) > 64
    · rw [if_pos c, decide_eq_false (by omega : ¬ s.size ≤ 64)]; rfl
    · rw [if_neg c, decide_eq_true (by omega : s.size ≤ 64), Bool.true_and]
theorem refRightN_is (num code : Int) (bd : List Int) (l : List ByteArray) (hm : l.length ≤ 140737488355328) : scriniumref16_RightAnswer.f (l.length + 1) num code bd l = some (okR num code bd.length l) :=
  right_loop num code bd l hm l.length (l.length + 1) 0 (by omega) (by omega)
theorem sameNames_loop (l : List ByteArray) (hm : l.length ≤ 140737488355328) : ∀ (d k i : Nat), i + d = l.length → d < k → scriniumref16_SameNames.l0 k l l i = some true := by
  intro d
  induction d with
  | zero =>
    intro k i hi hk
    obtain ⟨k, rfl⟩ : ∃ j, k = j + 1 := ⟨k - 1, by omega⟩
    simp only [scriniumref16_SameNames.l0]
    rw [if_neg (by omega)]
  | succ d ih =>
    intro k i hi hk
    obtain ⟨k, rfl⟩ : ∃ j, k = j + 1 := ⟨k - 1, by omega⟩
    simp only [scriniumref16_SameNames.l0]
    rw [if_pos (by omega), if_pos (by omega), if_pos (by omega), if_true, i_next i (by omega), ih k (i + 1) (by omega) (by omega)]
theorem sameNames_is (l : List ByteArray) (hm : l.length ≤ 140737488355328) (k : Nat) (hk : l.length < k) : scriniumref16_SameNames.f k l l = some true := by
  unfold scriniumref16_SameNames.f
  rw [if_pos rfl]
  exact sameNames_loop l hm l.length k 0 (by omega) hk
theorem sameAnswer_calls (num code : Int) (bd : List Int) (l : List ByteArray) (A0 : Option Addr) (n0 c0 : Nat) (B0 : Option Addr) (m0 d0 : Nat) (A1 : Option Addr) (n1 c1 : Nat) (B1 : Option Addr) (m1 d1 : Nat) (w : World)
    (hr0 : Bs.C w A0 n0 bd) (h0 : bd.length = n0) (hc0 : n0 ≤ c0) (ks0 : Kd.C Kd.string w B0 m0 l) (g0 : l.length = m0) (kc0 : m0 ≤ d0)
    (hr1 : Bs.C w A1 n1 bd) (h1 : bd.length = n1) (hc1 : n1 ≤ c1) (ks1 : Kd.C Kd.string w B1 m1 l) (g1 : l.length = m1) (kc1 : m1 ≤ d1) (hm : n0 ≤ 140737488355328) (km : m0 ≤ 140737488355328) :
    Calls Try.prog 17 #[.agg #[.int .i64 num, .int .i64 code, .slice A0 n0 c0, .slice B0 m0 d0], .agg #[.int .i64 num, .int .i64 code, .slice A1 n1 c1, .slice B1 m1 d1]] w fun e w' => e = .returned (.bool true) ∧ Below w.heap.size w w' := by
  subst h0
  subst h1
  subst g0
  subst g1
  refine scriniumref16_SameAnswer.calls (bd.length + l.length + 1) num code A0 c0 bd B0 d0 l num code A1 c1 bd B1 d1 l true w hr0 hc0 ks0 kc0 hr1 hc1 ks1 kc1 ?_
  unfold scriniumref16_SameAnswer.f
  rw [if_pos rfl, if_pos rfl, same_is bd bd _ hm (by omega), sameNames_is l km _ (by omega)]
  simp
end Go.Proofs.Ytcffacpdjcfidaa.Sb
