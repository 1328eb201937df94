/- Every length has the class, and every class and number of slices the size, that the document says, or both are refused alike. No condition: every int n, class, k. -/
import Derived.Test.YthdnecehgacecaaPAontSizesx2
namespace Go.Proofs.Ythdnecehgacecaa.Pure
open Go.RowKit Go.Proofs.Ythdnecehgacecaa.PAontSizes Go.Proofs.YthdnecehgacecaaW.PrintWords Go.Proofs.YthdnecehgacecaaW.PrintLast

theorem classes_small : ∀ n : Fin 1001, aont_Class.f 300 (n.val : Int) = scriniumref11_Class.f 300 (n.val : Int) ∧ (aont_Class.f 300 (n.val : Int)).isSome = true := by
  decide +kernel

theorem classes (n : Int) : ∃ r, aont_Class.f 300 n = some r ∧ scriniumref11_Class.f 300 n = some r := by
  by_cases h0 : n < 0
  · refine ⟨(0, 3), ?_, ?_⟩
    · unfold aont_Class.f; rw [if_pos h0]; simp [aont_Class.j0]
    · unfold scriniumref11_Class.f; rw [if_pos h0]; simp [scriniumref11_Class.j0]
  · by_cases h1 : n > 1000
    · refine ⟨(0, 3), ?_, ?_⟩
      · unfold aont_Class.f; rw [if_neg h0, decide_eq_true h1]; simp [aont_Class.j0]
      · unfold scriniumref11_Class.f; rw [if_neg h0, decide_eq_true h1]; simp [scriniumref11_Class.j0]
    · obtain ⟨m, rfl⟩ : ∃ m : Nat, n = (m : Int) := ⟨n.toNat, by omega⟩
      have h := classes_small ⟨m, by omega⟩
      obtain ⟨r, hr⟩ := Option.isSome_iff_exists.1 h.2
      exact ⟨r, hr, h.1.symm.trans hr⟩

theorem sizes_small : ∀ i : Fin 6, ∀ k : Fin 255, aont_Size.f 300 ((32 : Int) * ((2 : Nat) ^ i.val : Nat)) ((k.val : Int) + 1) = scriniumref11_Size.f 300 ((32 : Int) * ((2 : Nat) ^ i.val : Nat)) ((k.val : Int) + 1) ∧
    (aont_Size.f 300 ((32 : Int) * ((2 : Nat) ^ i.val : Nat)) ((k.val : Int) + 1)).isSome = true := by
  decide +kernel

theorem isClass_no (c : Int) (h1 : c ≠ 32) (h2 : c ≠ 64) (h3 : c ≠ 128) (h4 : c ≠ 256) (h5 : c ≠ 512) (h6 : c ≠ 1024) : aont_isClass.f 300 c = some false := by
  have s0 : shl .i64 32 0 = 32 := by decide +kernel
  have s1 : shl .i64 32 1 = 64 := by decide +kernel
  have s2 : shl .i64 32 2 = 128 := by decide +kernel
  have s3 : shl .i64 32 3 = 256 := by decide +kernel
  have s4 : shl .i64 32 4 = 512 := by decide +kernel
  have s5 : shl .i64 32 5 = 1024 := by decide +kernel
  simp [aont_isClass.f, aont_isClass.l0, wrap64, s0, s1, s2, s3, s4, s5, h1, h2, h3, h4, h5, h6]

theorem isClass_yes : ∀ i : Fin 6, aont_isClass.f 300 ((32 : Int) * ((2 : Nat) ^ i.val : Nat)) = some true := by decide +kernel

theorem sizes (c k : Int) : ∃ r, aont_Size.f 300 c k = some r ∧ scriniumref11_Size.f 300 c k = some r := by
  by_cases hc : ∃ i : Fin 6, c = (32 : Int) * ((2 : Nat) ^ i.val : Nat)
  · obtain ⟨i, rfl⟩ := hc
    by_cases hk : 1 ≤ k ∧ k ≤ 255
    · obtain ⟨m, rfl⟩ : ∃ m : Nat, k = (m : Int) + 1 := ⟨(k - 1).toNat, by omega⟩
      have h := sizes_small i ⟨m, by omega⟩
      obtain ⟨r, hr⟩ := Option.isSome_iff_exists.1 h.2
      exact ⟨r, hr, h.1.symm.trans hr⟩
    · refine ⟨(0, 14), ?_, ?_⟩
      · unfold aont_Size.f
        rw [isClass_yes i]
        simp only [Option.bind_some, if_true]
        by_cases h1 : k < 1
        · rw [if_pos h1]
        · rw [if_neg h1, if_pos (by omega)]
      · have hj0 : scriniumref11_Size.j0 300 ((32 : Int) * ((2 : Nat) ^ i.val : Nat)) k true = some (0, 14) := by
          simp only [scriniumref11_Size.j0, if_true]
          by_cases h1 : k < 1
          · rw [if_pos h1]; simp [scriniumref11_Size.j1]
          · rw [if_neg h1, decide_eq_true (by omega : k > 255)]; simp [scriniumref11_Size.j1]
        have hi : i.val = 0 ∨ i.val = 1 ∨ i.val = 2 ∨ i.val = 3 ∨ i.val = 4 ∨ i.val = 5 := by have := i.isLt; omega
        unfold scriniumref11_Size.f
        rcases hi with e | e | e | e | e | e <;> rw [e] at hj0 ⊢ <;> exact hj0
  · have hn : ∀ i : Fin 6, c ≠ (32 : Int) * ((2 : Nat) ^ i.val : Nat) := fun i h => hc ⟨i, h⟩
    have h1 : c ≠ 32 := hn 0
    have h2 : c ≠ 64 := hn 1
    have h3 : c ≠ 128 := hn 2
    have h4 : c ≠ 256 := hn 3
    have h5 : c ≠ 512 := hn 4
    have h6 : c ≠ 1024 := hn 5
    refine ⟨(0, 14), ?_, ?_⟩
    · unfold aont_Size.f
      rw [isClass_no c h1 h2 h3 h4 h5 h6]
      simp
    · unfold scriniumref11_Size.f
      rw [if_neg h1, if_neg h2, if_neg h3, if_neg h4, if_neg h5]
      have e : (c == 1024) = false := by simpa using h6
      rw [e]
      simp [scriniumref11_Size.j0, scriniumref11_Size.j1]

theorem wakes_true : scriniumlaw11_wakes.f 300 = some true := by decide +kernel

theorem AontSizes : scriniumlaw11_AontSizes.Pure := by
  intro n c k _ _ _
  refine ⟨300, ?_⟩
  obtain ⟨r, h1, h2⟩ := classes n
  obtain ⟨s, h3, h4⟩ := sizes c k
  unfold scriniumlaw11_AontSizes.f
  rw [wakes_true, h1, h2, h3, h4]
  simp

end Go.Proofs.Ythdnecehgacecaa.Pure
