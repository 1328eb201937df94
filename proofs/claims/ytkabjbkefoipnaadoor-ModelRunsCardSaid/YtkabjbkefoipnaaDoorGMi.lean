import Derived.Test.YtkabjbkefoipnaaDoorGMh
namespace Go.Proofs.YtkabjbkefoipnaaDoor.Md
open Go.Lib Go.RowKit Go.Proofs.YtkabjbkefoipnaaDoorW.PrintWords Go.Proofs.YtkabjbkefoipnaaDoorW.PrintLast Go.Proofs.YtkabjbkefoipnaaDoorW.PrintMore Go.Proofs.YtkabjbkefoipnaaDoor.PM Go.Proofs.YtkabjbkefoipnaaDoor.Nm
set_option linter.unusedVariables false
set_option linter.unusedSimpArgs false
structure ShortS (s : Sc) : Prop where
  name : s.f0.size ≤ 150
  vers : s.f1.length ≤ 8
  text : ∀ m (h : m < s.f1.length), s.f1[m].f2.length ≤ 2000
structure ShortL (l : List Sc) : Prop where
  len : l.length ≤ 30
  all : ∀ i (h : i < l.length), ShortS l[i]
theorem ShortL.at {l : List Sc} (h : ShortL l) {s : Sc} (hs : s ∈ l) : ShortS s := by
  obtain ⟨i, hi, rfl⟩ := List.getElem_of_mem hs
  exact h.all i hi
theorem ShortS.txt {s : Sc} (h : ShortS s) {y : Kn} (hy : y ∈ s.f1) : y.f2.length ≤ 2000 := by
  obtain ⟨i, hi, rfl⟩ := List.getElem_of_mem hy
  exact h.text i hi
theorem ShortL.sized {l : List Sc} (h : ShortL l) : Sized l :=
  ⟨by have := h.len; omega, fun s hs => ⟨by have := (h.at hs).name; omega, by have := (h.at hs).vers; omega, fun y hy => by have := (h.at hs).txt hy; omega⟩⟩
theorem wrap_succ (i : Nat) (h : i ≤ 4000000) : wrap64 ((i : Int) + 1) = ((i + 1 : Nat) : Int) := by unfold wrap64; omega
theorem wrap_pred (n : Nat) (h : n ≤ 4000000) (h1 : 1 ≤ n) : wrap64 ((n : Int) - 1) = ((n - 1 : Nat) : Int) := by unfold wrap64; omega
theorem Long_text (l : List Sc) (i : Nat) (hi : i < l.length) (hl : l.length ≤ 30) (d : Nat) (h8 : l[i].f1.length ≤ 8)
    (next : ∀ k, 11 * d + 1 ≤ k → ∃ b, scriniumref22_Long.l0 k l ((i + 1 : Nat) : Int) = some b ∧ (b = false → ∀ m (h : m < l.length), i + 1 ≤ m → ShortS l[m])) :
    ∀ (e k j : Nat), j + e = l[i].f1.length → 11 * d + e + 2 ≤ k → ∃ b, scriniumref22_Long.l1 k l (i : Int) (j : Int) = some b ∧ (b = false → (∀ m (h : m < l.length), i + 1 ≤ m → ShortS l[m]) ∧ ∀ m (h : m < l[i].f1.length), j ≤ m → l[i].f1[m].f2.length ≤ 2000) := by
  intro e
  induction e with
  | zero =>
    intro k j hj hk
    obtain ⟨k, rfl⟩ : ∃ q, k = q + 1 := ⟨k - 1, by omega⟩
    obtain ⟨b, h1, h2⟩ := next k (by omega)
    unfold scriniumref22_Long.l1
    rw [if_pos (by omega), if_pos (by omega), rdS l i hi, if_neg (by omega), wrap_succ i (by omega), h1]
    exact ⟨b, rfl, fun hb => ⟨h2 hb, fun m hm hjm => by omega⟩⟩
  | succ e ih =>
    intro k j hj hk
    obtain ⟨k, rfl⟩ : ∃ q, k = q + 1 := ⟨k - 1, by omega⟩
    have hlt : j < l[i].f1.length := by omega
    obtain ⟨b, h1, h2⟩ := ih k (j + 1) (by omega) (by omega)
    unfold scriniumref22_Long.l1
    rw [if_pos (by omega), if_pos (by omega), rdS l i hi, if_pos (by omega), if_pos (by omega), rdK _ j hlt, wrap_succ j (by omega), h1]
    split
    · exact ⟨true, rfl, fun h => by cases h⟩
    · rename_i hx
      refine ⟨b, rfl, fun hb => ⟨(h2 hb).1, fun m hm hjm => ?_⟩⟩
      rcases Nat.lt_or_eq_of_le hjm with h3 | h3
      · exact (h2 hb).2 m hm h3
      · subst h3; omega
theorem Long_loop (l : List Sc) (hl : l.length ≤ 30) : ∀ (d k i : Nat), i + d = l.length → 11 * d + 1 ≤ k → ∃ b, scriniumref22_Long.l0 k l (i : Int) = some b ∧ (b = false → ∀ m (h : m < l.length), i ≤ m → ShortS l[m]) := by
  intro d
  induction d with
  | zero =>
    intro k i hi hk
    obtain ⟨k, rfl⟩ : ∃ q, k = q + 1 := ⟨k - 1, by omega⟩
    unfold scriniumref22_Long.l0
    rw [if_neg (by omega)]
    exact ⟨false, rfl, fun _ m hm him => by omega⟩
  | succ d ih =>
    intro k i hi hk
    obtain ⟨k, rfl⟩ : ∃ q, k = q + 2 := ⟨k - 2, by omega⟩
    have hlt : i < l.length := by omega
    unfold scriniumref22_Long.l0
    rw [if_pos (by omega), if_pos (by omega), rdS l i hlt]
    split
    · unfold scriniumref22_Long.j1
      rw [if_pos rfl]
      exact ⟨true, rfl, fun h => by cases h⟩
    · rename_i hn
      unfold scriniumref22_Long.j1
      by_cases h8 : ((l[i].f1.length : Nat) : Int) > 8
      · rw [decide_eq_true h8, if_pos rfl]
        exact ⟨true, rfl, fun h => by cases h⟩
      · rw [decide_eq_false h8, if_neg (by simp)]
        obtain ⟨b, h1, h2⟩ := Long_text l i hlt hl d (by omega) (fun k hk => ih k (i + 1) (by omega) hk) l[i].f1.length k 0 (by omega) (by omega)
        have h1' : scriniumref22_Long.l1 k l (i : Int) 0 = some b := h1
        rw [h1']
        refine ⟨b, rfl, fun hb m hm him => ?_⟩
        rcases Nat.lt_or_eq_of_le him with h3 | h3
        · exact (h2 hb).1 m hm h3
        · subst h3
          exact ⟨by omega, by omega, fun q hq => (h2 hb).2 q hq (Nat.zero_le _)⟩
theorem Long_is (l : List Sc) : ∃ b, scriniumref22_Long.f 400 l = some b ∧ (b = false → ShortL l) := by
  unfold scriniumref22_Long.f
  by_cases h : (l.length : Int) > 30
  · rw [if_pos h]
    exact ⟨true, rfl, fun h => by cases h⟩
  · rw [if_neg h]
    obtain ⟨b, h1, h2⟩ := Long_loop l (by omega) l.length 400 0 (by omega) (by omega)
    exact ⟨b, h1, fun hb => ⟨by omega, fun i hi => h2 hb i hi (Nat.zero_le _)⟩⟩
theorem plain_is (s : ByteArray) (k : Nat) (hs : s.size ≤ 4000) (hk : 4030 ≤ k) : scriniumref22_plain.f k s = some (pf s) := by
  have h := le_up (F := fun k => scriniumref10_Plain.f k s) (fun k => scriniumref10_Plain.mono _ k) (a := s.size + 30) (b := k) (by omega) (Plain_is s (by omega))
  unfold scriniumref22_plain.f
  rw [h]
  rfl
theorem rightN_is (s : ByteArray) (k : Nat) (hs : s.size ≤ 4000) (hk : 4030 ≤ k) : scriniumref10_Right.f k s = some (rightN s) :=
  le_up (F := fun k => scriniumref10_Right.f k s) (fun k => scriniumref10_Right.mono _ k) (a := s.size + 30) (b := k) (by omega) (Right_is s (by omega))
end Go.Proofs.YtkabjbkefoipnaaDoor.Md
