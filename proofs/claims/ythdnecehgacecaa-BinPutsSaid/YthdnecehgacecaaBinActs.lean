/- Acts, plain: which are too many or too long; a text taken, as the reference tells it. -/
import Derived.Test.YthdnecehgacecaaBinBack
namespace Go.Proofs.Ythdnecehgacecaa.Sb
open Go.RowKit Go.Proofs.YthdnecehgacecaaW.PrintWords Go.Proofs.YthdnecehgacecaaW.PrintLast Go.Proofs.YthdnecehgacecaaW.PrintMore Go.Proofs.Ythdnecehgacecaa.PB
set_option linter.unusedVariables false
set_option linter.unusedSimpArgs false

theorem Rd.far {w0 w : World} {g : Nat} {s : List Int} {a : Nat} (h : Rd w0 w g s a) {p : Addr} (hp : g ≠ p.block) (hb : w0.heap.size ≤ p.block) (u : Value) : Rd w0 (w.setCell p u) g s a :=
  ⟨IsS76.far h.is hp u, h.below.setCell hb u, h.bytes, h.small, h.le⟩

abbrev Act := S43

theorem long_loop (l : List Act) (hm : l.length ≤ 100) : ∀ (d k i : Nat), i + d = l.length → d < k → ∃ b, scriniumlaw01_long.l0 k l l.length i = some b ∧ (b = false → ∀ j, i ≤ j → j < l.length → (rd_T43 l j).f3.length ≤ 500) := by
  intro d
  induction d with
  | zero =>
    intro k i hi hk
    obtain ⟨k, rfl⟩ : ∃ m, k = m + 1 := ⟨k - 1, by omega⟩
    refine ⟨false, ?_, fun _ j h1 h2 => by omega⟩
    simp only [scriniumlaw01_long.l0]
    rw [if_neg (by omega)]
  | succ d ih =>
    intro k i hi hk
    obtain ⟨k, rfl⟩ : ∃ m, k = m + 1 := ⟨k - 1, by omega⟩
    obtain ⟨b, hb, hbf⟩ := ih k (i + 1) (by omega) (by omega)
    have c1 : (i : Int) < (l.length : Int) := by omega
    have e : wrap64 ((i : Int) + 1) = ((i + 1 : Nat) : Int) := by clear hb hbf ih; unfold wrap64; omega
    by_cases c : ((rd_T43 l i).f3.length : Int) > 500
    · refine ⟨true, ?_, fun h => by cases h⟩
      simp only [scriniumlaw01_long.l0]
      rw [if_pos c1, if_pos (Int.natCast_nonneg _), if_pos c1, if_pos c]
    · refine ⟨b, ?_, fun h j h1 h2 => ?_⟩
      · simp only [scriniumlaw01_long.l0, e]
        rw [if_pos c1, if_pos (Int.natCast_nonneg _), if_pos c1, if_neg c]
        exact hb
      · by_cases hj : j = i
        · subst hj; omega
        · exact hbf h j (by omega) h2
theorem long_is (l : List Act) : ∃ b, scriniumlaw01_long.f 200 l = some b ∧ (b = false → l.length ≤ 100 ∧ ∀ j : Nat, j < l.length → (rd_T43 l j).f3.length ≤ 500) := by
  unfold scriniumlaw01_long.f
  by_cases c : (l.length : Int) > 100
  · rw [if_pos c]; exact ⟨true, rfl, fun h => by cases h⟩
  · rw [if_neg c]
    obtain ⟨b, h1, h2⟩ := long_loop l (by omega) l.length 200 0 (by omega) (by omega)
    exact ⟨b, h1, fun h => ⟨by omega, fun j hj => h2 h j (by omega) hj⟩⟩

theorem wrap64_small {x : Int} (h0 : 0 ≤ x) (h1 : x < 4611686018427387904) : wrap64 x = x := by unfold wrap64; omega

/-- A text taken at a place, as the reference tells it. -/
theorem TakeText_is (s : List Int) (hs : Bytes s) (hm : s.length ≤ 3000) (at_ : Nat) (hat : at_ ≤ s.length) (most : Int) (hmost : most ≤ 9223372036854775807) :
    scriniumref01_TakeText.f 10 s at_ most = some (0, (textR s at_ most).1, (((textR s at_ most).2.1 : Nat) : Int), (textR s at_ most).2.2) := by
  have key : ∀ mx : Int, 0 ≤ mx → mx ≤ 9223372036854775807 → max most 0 = mx → scriniumref01_TakeText.j0 10 s at_ mx = some (0, (textR s at_ most).1, (((textR s at_ most).2.1 : Nat) : Int), (textR s at_ most).2.2) := by
    intro mx h0 h1 hmx
    have eu : IntKind.u64.wrap mx = mx := u64_small h0 (by unfold M64; omega)
    simp only [scriniumref01_TakeText.j0, eu, TakeSmall_is s hs (by omega) at_ hat mx, Option.bind_some]
    clear eu
    unfold textR
    rw [hmx]
    obtain ⟨k1, k2, k3, k4, k5, k6⟩ := smallR_bd s hs at_ hat mx
    generalize smallR s at_ mx = q at k1 k2 k3 k4 k5 k6 ⊢
    obtain ⟨x, n, e⟩ := q
    simp only at k1 k2 k3 k4 k5 k6 ⊢
    by_cases c : e = 0
    · subst c
      rw [if_pos rfl, if_neg (show ¬ ((0 : Int) ≠ 0) from fun h => h rfl)]
      have w1 : wrap64 ((at_ : Int) + (n : Int)) = ((at_ + n : Nat) : Int) := by rw [wrap64_small (by omega) (by omega)]; omega
      have w2 : wrap64 ((s.length : Int) - ((at_ + n : Nat) : Int)) = (s.length : Int) - ((at_ + n : Nat) : Int) := wrap64_small (by omega) (by omega)
      have w3 : IntKind.u64.wrap ((s.length : Int) - ((at_ + n : Nat) : Int)) = (s.length : Int) - ((at_ + n : Nat) : Int) := u64_small (by omega) (by unfold M64; omega)
      have w4 : wrap64 x = x := wrap64_small k1 (by omega)
      simp only [w1, w2, w3, w4]
      clear w1 w2 w3 w4
      by_cases c2 : (s.length : Int) - ((at_ + n : Nat) : Int) < x
      · rw [if_pos c2, if_pos c2]; rfl
      · rw [if_neg c2, if_neg c2]
        obtain ⟨y, rfl⟩ : ∃ y : Nat, x = y := ⟨x.toNat, by omega⟩
        have w5 : wrap64 (((at_ + n : Nat) : Int) + (y : Int)) = ((at_ + n + y : Nat) : Int) := by rw [wrap64_small (by omega) (by omega)]; omega
        have w6 : wrap64 ((n : Int) + (y : Int)) = ((n + y : Nat) : Int) := by rw [wrap64_small (by omega) (by omega)]; omega
        have hl : (s.take (at_ + n + y)).drop (at_ + n) = (s.drop (at_ + n)).take y := by rw [List.drop_take, Nat.add_sub_cancel_left]
        have hll : ((s.drop (at_ + n)).take y).length ≤ 3000 := by rw [List.length_take, List.length_drop]; omega
        simp only [w5, w6, Int.toNat_natCast, hl, List.nil_append, List.length_nil]
        clear w5 w6
        rw [if_pos (by omega), if_pos (by omega), if_pos (by omega), if_pos (by omega)]
    · obtain ⟨rfl, rfl⟩ := k6 c
      rw [if_neg c, if_pos c]
  unfold scriniumref01_TakeText.f
  by_cases c : most < 0
  · rw [if_pos c]; exact key 0 (by omega) (by omega) (by omega)
  · rw [if_neg c]; exact key most (by omega) hmost (by omega)

theorem rd_mem (l : List Act) (i : Nat) (h : i < l.length) : rd_T43 l i ∈ l := by
  unfold rd_T43
  rw [Int.toNat_natCast, List.getD_eq_getElem?_getD, List.getElem?_eq_getElem h]
  exact List.getElem_mem h
theorem textR_len (s : List Int) (at_ : Nat) (most : Int) : (textR s at_ most).1.length ≤ s.length := by
  unfold textR
  split
  · simp
  · split
    · simp
    · simp only [List.length_take, List.length_drop]; omega
end Go.Proofs.Ythdnecehgacecaa.Sb
