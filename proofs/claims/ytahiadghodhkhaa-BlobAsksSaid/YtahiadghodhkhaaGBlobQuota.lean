import Derived.Test.YtahiadghodhkhaaGBc
import Derived.Test.YtahiadghodhkhaaGPBx8
namespace Go.Proofs.Ytahiadghodhkhaa.Bl
open Go.RowKit Go.Maps Go.Proofs.YtahiadghodhkhaaW.PrintWords Go.Proofs.YtahiadghodhkhaaW.PrintLast Go.Proofs.YtahiadghodhkhaaW.PrintMore Go.Proofs.Ytahiadghodhkhaa.PB
set_option linter.unusedVariables false
set_option linter.unusedSimpArgs false
theorem long_loop (l : List S29) (hl : l.length ≤ 60) : ∀ (d i k : Nat), i + d = l.length → d < k → ∃ r, scriniumlaw19_long.l0 k l (l.length : Int) i = some r := by
  intro d
  induction d with
  | zero =>
    intro i k hi hk
    obtain ⟨k, rfl⟩ : ∃ j, k = j + 1 := ⟨k - 1, by omega⟩
    unfold scriniumlaw19_long.l0
    exact ⟨_, if_neg (by omega)⟩
  | succ d ih =>
    intro i k hi hk
    obtain ⟨k, rfl⟩ : ∃ j, k = j + 1 := ⟨k - 1, by omega⟩
    unfold scriniumlaw19_long.l0
    rw [if_pos (by omega), if_pos (by omega), if_pos (by omega)]
    split
    · exact ⟨_, rfl⟩
    · split
      · exact ⟨_, rfl⟩
      · obtain ⟨r, hr⟩ := ih (i + 1) k (by omega) (by omega)
        have e : wrap64 ((i : Int) + 1) = ((i + 1 : Nat) : Int) := by unfold wrap64; omega
        rw [e]
        exact ⟨r, hr⟩
theorem long_is (l : List S29) : ∃ r, scriniumlaw19_long.f 100 l = some r ∧ (r = false → l.length ≤ 60) := by
  unfold scriniumlaw19_long.f
  by_cases h : (l.length : Int) > 60
  · rw [if_pos h]
    exact ⟨true, rfl, by simp⟩
  · rw [if_neg h]
    obtain ⟨r, hr⟩ := long_loop l (by omega) l.length 0 100 (by omega) (by omega)
    exact ⟨r, hr, fun _ => by omega⟩
end Go.Proofs.Ytahiadghodhkhaa.Bl
