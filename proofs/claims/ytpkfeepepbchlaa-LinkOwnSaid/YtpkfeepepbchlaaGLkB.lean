import Derived.Test.YtpkfeepepbchlaaGLkA
import Derived.Test.YtpkfeepepbchlaaGOpenL
namespace Go.Proofs.Ytpkfeepepbchlaa.Bl
open Go.RowKit Go.Maps Go.Proofs.YtpkfeepepbchlaaW.PrintWords Go.Proofs.YtpkfeepepbchlaaW.PrintLast Go.Proofs.YtpkfeepepbchlaaW.PrintMore Go.Proofs.Ytpkfeepepbchlaa.PK
set_option linter.unusedVariables false
set_option linter.unusedSimpArgs false
theorem fates_loop (l : List S43) (hm : l.length ≤ 200) : ∀ (d i k : Nat), i + d = l.length → d < k → ∃ r, scriniumref20_LongFates.l0 k l i = some r ∧ (r = false → ∀ j, i ≤ j → j < l.length → (rd_T43 l (j : Int)).f1.length ≤ 3000)
  | d, i, 0, _, h => absurd h (by omega)
  | d, i, k + 1, he, hk => by
    unfold scriniumref20_LongFates.l0
    by_cases hlt : (i : Int) < (l.length : Int)
    · rw [if_pos hlt, if_pos (by omega)]
      by_cases hb : ((rd_T43 l (i : Int)).f1.length : Int) > 3000
      · rw [if_pos hb]
        exact ⟨true, rfl, by simp⟩
      · rw [if_neg hb]
        have e : wrap64 ((i : Int) + 1) = ((i + 1 : Nat) : Int) := by unfold wrap64; omega
        rw [e]
        match d, he with
        | 0, he => exact absurd hlt (by omega)
        | d + 1, he =>
          obtain ⟨r, hr, hr2⟩ := fates_loop l hm d (i + 1) k (by omega) (by omega)
          refine ⟨r, hr, fun h j hj hjl => ?_⟩
          by_cases hji : j = i
          · subst hji; omega
          · exact hr2 h j (by omega) hjl
    · rw [if_neg hlt]
      exact ⟨false, rfl, fun _ j hj hjl => absurd hlt (by omega)⟩
theorem rd_fate (l : List S43) (j : Nat) (h : j < l.length) : rd_T43 l (j : Int) = l[j] := by unfold rd_T43; rw [Int.toNat_natCast, List.getD_eq_getElem?_getD, List.getElem?_eq_getElem h]; rfl
theorem fates_is (l : List S43) (k : Nat) (hk : 202 ≤ k) : ∃ r, scriniumref20_LongFates.f k l = some r ∧ (r = false → l.length ≤ 200 ∧ ∀ x ∈ l, x.f1.length ≤ 3000) := by
  unfold scriniumref20_LongFates.f
  by_cases h : (l.length : Int) > 200
  · rw [if_pos h]
    exact ⟨true, rfl, by simp⟩
  · rw [if_neg h]
    obtain ⟨r, hr, hr2⟩ := fates_loop l (by omega) l.length 0 k (by omega) (by omega)
    refine ⟨r, hr, fun e => ⟨by omega, fun x hx => ?_⟩⟩
    obtain ⟨j, hj⟩ := List.getElem?_of_mem hx
    obtain ⟨hjl, hjx⟩ := List.getElem?_eq_some_iff.1 hj
    have := hr2 e j (Nat.zero_le _) hjl
    rwa [rd_fate l j hjl, hjx] at this
theorem long_loop (l : List S32) (hm : l.length ≤ 40) : ∀ (d i k : Nat), i + d = l.length → d + 300 < k → ∃ r, scriniumlaw20_long.l0 k l (l.length : Int) i = some r
  | d, i, 0, _, h => absurd h (by omega)
  | d, i, k + 1, he, hk => by
    unfold scriniumlaw20_long.l0
    by_cases hlt : (i : Int) < (l.length : Int)
    · rw [if_pos hlt, if_pos (by omega), if_pos hlt]
      by_cases h1 : ((rd_T32 l (i : Int)).f2.f3.length : Int) > 300
      · rw [if_pos h1]
        exact ⟨true, rfl⟩
      · rw [if_neg h1]
        by_cases h2 : ((rd_T32 l (i : Int)).f2.f2.size : Int) > 100
        · rw [if_pos h2]
          exact ⟨true, rfl⟩
        · rw [if_neg h2]
          obtain ⟨r, hr, _⟩ := fates_is (rd_T32 l (i : Int)).f3 k (by omega)
          rw [hr]
          show ∃ r', (if r = true then some true else _) = some r'
          by_cases h3 : r = true
          · rw [if_pos h3]
            exact ⟨true, rfl⟩
          · rw [if_neg h3]
            have e : wrap64 ((i : Int) + 1) = ((i + 1 : Nat) : Int) := by unfold wrap64; omega
            rw [e]
            match d, he with
            | 0, he => exact absurd hlt (by omega)
            | d + 1, he => exact long_loop l hm d (i + 1) k (by omega) (by omega)
    · rw [if_neg hlt]
      exact ⟨false, rfl⟩
theorem long_is (K : Nat) (hK : 400 ≤ K) (l : List S32) (f : List S43) : ∃ r, scriniumlaw20_long.f (K + 1) l f = some r ∧ (r = false → l.length ≤ 40 ∧ f.length ≤ 200 ∧ ∀ x ∈ f, x.f1.length ≤ 3000) := by
  unfold scriniumlaw20_long.f
  by_cases h : (l.length : Int) > 40
  · rw [if_pos h]
    refine ⟨true, ?_, by simp⟩
    unfold scriniumlaw20_long.j0
    rfl
  · rw [if_neg h]
    obtain ⟨r, hr, hr2⟩ := fates_is f (K + 1) (by omega)
    rw [hr]
    show ∃ r', scriniumlaw20_long.j0 (K + 1) l r = some r' ∧ _
    unfold scriniumlaw20_long.j0
    cases r with
    | true => exact ⟨true, rfl, by simp⟩
    | false =>
      obtain ⟨r2, hr3⟩ := long_loop l (by omega) l.length 0 K (by omega) (by omega)
      exact ⟨r2, hr3, fun _ => ⟨by omega, hr2 rfl⟩⟩
theorem bytes_wf {t : List Int} (h : ∀ z, z ∈ t → (Lit.int .u8 z).wf = true) : Sb.Bytes t := fun x hx => wf_u8 (h x hx)
theorem rd_act (l : List S32) (j : Nat) (h : j < l.length) : rd_T32 l (j : Int) = l[j] := by unfold rd_T32; rw [Int.toNat_natCast, List.getD_eq_getElem?_getD, List.getElem?_eq_getElem h]; rfl
theorem ts_new (n gp : Nat) (ps : List Pr) : Ts (n :: gp :: ps.map (·.b)) (n :: gp :: ps.map (·.b)) n gp ps := ⟨by simp, by simp, fun p hp => by simp only [List.mem_cons, List.mem_map]; exact .inr (.inr ⟨p, hp, rfl⟩), fun _ h => h⟩
end Go.Proofs.Ytpkfeepepbchlaa.Bl
