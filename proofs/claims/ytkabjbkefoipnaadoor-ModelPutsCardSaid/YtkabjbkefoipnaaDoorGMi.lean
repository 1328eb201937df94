import Derived.Test.YtkabjbkefoipnaaDoorGMh
namespace Go.Proofs.YtkabjbkefoipnaaDoor.Md
open Go.Lib Go.RowKit Go.Proofs.YtkabjbkefoipnaaDoorW.PrintWords Go.Proofs.YtkabjbkefoipnaaDoorW.PrintLast Go.Proofs.YtkabjbkefoipnaaDoorW.PrintMore Go.Proofs.YtkabjbkefoipnaaDoor.PM Go.Proofs.YtkabjbkefoipnaaDoor.Nm
set_option linter.unusedVariables false
set_option linter.unusedSimpArgs false
structure ShortS (s : Sc) : Prop where
  name : s.f0.size ≤ 150
  vers : s.f1.length ≤ 8
  text : ∀ m (h : m < s.f1.length), s.f1[m].f2.length ≤ 2000
structure ShortL (l : List Sc) : Prop where
  len : l.length ≤ 30
  all : ∀ i (h : i < l.length), ShortS l[i]
theorem ShortL.at {l : List Sc} (h : ShortL l) {s : Sc} (hs : s ∈ l) : ShortS s := by
  obtain ⟨i, hi, rfl⟩ := List.getElem_of_mem hs
  exact h.all i hi
theorem ShortS.txt {s : Sc} (h : ShortS s) {y : Kn} (hy : y ∈ s.f1) : y.f2.length ≤ 2000 := by
  obtain ⟨i, hi, rfl⟩ := List.getElem_of_mem hy
  exact h.text i hi
theorem ShortL.sized {l : List Sc} (h : ShortL l) : Sized l :=
  ⟨by have := h.len; omega, fun s hs => ⟨by have := (h.at hs).name; omega, by have := (h.at hs).vers; omega, fun y hy => by have := (h.at hs).txt hy; omega⟩⟩
theorem wrap_succ (i : Nat) (h : i ≤ 4000000) : wrap64 ((i : Int) + 1) = ((i + 1 : Nat) : Int) := by unfold wrap64; omega
theorem wrap_pred (n : Nat) (h : n ≤ 4000000) (h1 : 1 ≤ n) : wrap64 ((n : Int) - 1) = ((n - 1 : Nat) : Int) := by unfold wrap64; omega
theorem Long_text (l : List Sc) (i : Nat) (hi : i < l.length) (hl : l.length ≤ 30) (d : Nat) (h8 : l[i].f1.length ≤ 8)
    (next : ∀ k, 11 * d + 1 ≤ k → ∃ b, scriniumref22_Long.l0 k l ((i + 1 : Nat) : Int) = some b ∧ (b = false → ∀ m (h : m < l.length), i + 1 ≤ m → ShortS l[m])) :
    ∀ (e k j : Nat), j + e = l[i].f1.length → 11 * d + e + 2 ≤ k → ∃ b, scriniumref22_Long.l1 k l (i : Int) (j : Int) = some b ∧ (b = false → (∀ m (h : m < l.length), i + 1 ≤ m → ShortS l[m]) ∧ ∀ m (h : m < l[i].f1.length), j ≤ m → l[i].f1[m].f2.length ≤ 2000) := by
  intro e
  induction e with
  | zero =>
    intro k j hj hk
    obtain ⟨k, rfl⟩ : ∃ q, k = q + 1 := ⟨k - 1, by omega⟩
    obtain ⟨b, h1, h2⟩ := next k (by omega)
    unfold scriniumref22_Long.l1
    rw [if_pos (by omega), if_pos (by omega), rdS l i hi, if_neg (by omega), wrap_succ i (by omega), h1]
    exact ⟨b, rfl, fun hb => ⟨h2 hb, fun m hm hjm => by omega⟩⟩
  | succ e ih =>
    intro k j hj hk
    obtain ⟨k, rfl⟩ : ∃ q, k = q + 1 := ⟨k - 1, by omega⟩
    have hlt : j < l[i].f1.length := by omega
    obtain ⟨b, h1, h2⟩ := ih k (j + 1) (by omega) (by omega)
    unfold scriniumref22_Long.l1
    rw [if_pos (by omega), if_pos (by omega), rdS l i hi, if_pos (by omega), if_pos (by omega), rdK _ j hlt, wrap_succ j (by omega), h1]
    split
    · exact ⟨true, rfl, fun h => by cases h⟩
    · rename_i hx
      refine ⟨b, rfl, fun hb => ⟨(h2 hb).1, fun m hm hjm => ?_⟩⟩
      rcases Nat.lt_or_eq_of_le hjm with h3 | h3
      · exact (h2 hb).2 m hm h3
      · subst h3; omega
theorem Long_loop (l : List Sc) (hl : l.length ≤ 30) : ∀ (d k i : Nat), i + d = l.length → 11 * d + 1 ≤ k → ∃ b, scriniumref22_Long.l0 k l (i : Int) = some b ∧ (b = false → ∀ m (h : m < l.length), i ≤ m → ShortS l[m]) := by
  intro d
  induction d with
  | zero =>
    intro k i hi hk
    obtain ⟨k, rfl⟩ : ∃ q, k = q + 1 := ⟨k - 1, by omega⟩
    unfold scriniumref22_Long.l0
    rw [if_neg (by omega)]
    exact ⟨false, rfl, fun _ m hm him => by omega⟩
  | succ d ih =>
    intro k i hi hk
    obtain ⟨k, rfl⟩ : ∃ q, k = q + 2 := ⟨k - 2, by omega⟩
    have hlt : i < l.length := by omega
    unfold scriniumref22_Long.l0
    rw [if_pos (by omega), if_pos (by omega), rdS l i hlt]
    split
    · unfold scriniumref22_Long.j1
      rw [if_pos rfl]
      exact ⟨true, rfl, fun h => by cases h⟩
    · rename_i hn
      unfold scriniumref22_Long.j1
      by_cases h8 : ((l[i].f1.length : Nat) : Int) > 8
      · rw [decide_eq_true h8, if_pos rfl]
        exact ⟨true, rfl, fun h => by cases h⟩
      · rw [decide_eq_false h8, if_neg (by simp)]
        obtain ⟨b, h1, h2⟩ := Long_text l i hlt hl d (by omega) (fun k hk => ih k (i + 1) (by omega) hk) l[i].f1.length k 0 (by omega) (by omega)
        have h1' : scriniumref22_Long.l1 k l (i : Int) 0 = some b := h1
        rw [h1']
        refine ⟨b, rfl, fun hb m hm him => ?_⟩
        rcases Nat.lt_or_eq_of_le him with h3 | h3
        · exact (h2 hb).1 m hm h3
        · subst h3
          exact ⟨by omega, by omega, fun q hq => (h2 hb).2 q hq (Nat.zero_le _)⟩
theorem Long_is (l : List Sc) : ∃ b, scriniumref22_Long.f 400 l = some b ∧ (b = false → ShortL l) := by
  unfold scriniumref22_Long.f
  by_cases h : (l.length : Int) > 30
  · rw [if_pos h]
    exact ⟨true, rfl, fun h => by cases h⟩
  · rw [if_neg h]
    obtain ⟨b, h1, h2⟩ := Long_loop l (by omega) l.length 400 0 (by omega) (by omega)
    exact ⟨b, h1, fun hb => ⟨by omega, fun i hi => h2 hb i hi (Nat.zero_le _)⟩⟩
theorem Same_self (a : List Int) (ha : a.length ≤ 4000000) : ∀ (d k i : Nat), i + d = a.length → d < k → scriniumref01_Same.l0 k a a (i : Int) = some true := by
  intro d
  induction d with
  | zero =>
    intro k i hi hk
    obtain ⟨k, rfl⟩ : ∃ q, k = q + 1 := ⟨k - 1, by omega⟩
    unfold scriniumref01_Same.l0
    rw [if_neg (by omega)]
  | succ d ih =>
    intro k i hi hk
    obtain ⟨k, rfl⟩ : ∃ q, k = q + 1 := ⟨k - 1, by omega⟩
    unfold scriniumref01_Same.l0
    rw [if_pos (by omega), if_pos (by omega), if_pos (by omega), if_pos rfl, wrap_succ i (by omega)]
    exact ih k (i + 1) (by omega) (by omega)
theorem Same_is (a : List Int) (k : Nat) (ha : a.length ≤ 4000000) (hk : a.length < k) : scriniumref01_Same.f k a a = some true := by
  unfold scriniumref01_Same.f
  rw [if_pos rfl]
  exact Same_self a ha a.length k 0 (by omega) hk
theorem SameKnown_is (x : Kn) (k : Nat) (ha : x.f2.length ≤ 4000000) (hk : x.f2.length < k) : scriniumref22_SameKnown.f k x.f0 x.f1 x.f2 x.f0 x.f1 x.f2 = some true := by
  unfold scriniumref22_SameKnown.f
  rw [if_pos rfl, if_pos (by cases x.f1 <;> rfl), Same_is _ _ ha hk]
  rfl
theorem SameAll_self (a : List Kn) (ha : a.length ≤ 4000000) (hx : ∀ x, x ∈ a → x.f2.length ≤ 2000) : ∀ (d k i : Nat), i + d = a.length → d + 2001 < k → scriniumref22_SameAll.l0 k a a (i : Int) = some true := by
  intro d
  induction d with
  | zero =>
    intro k i hi hk
    obtain ⟨k, rfl⟩ : ∃ q, k = q + 1 := ⟨k - 1, by omega⟩
    unfold scriniumref22_SameAll.l0
    rw [if_neg (by omega)]
  | succ d ih =>
    intro k i hi hk
    obtain ⟨k, rfl⟩ : ∃ q, k = q + 1 := ⟨k - 1, by omega⟩
    have hlt : i < a.length := by omega
    have := hx _ (List.getElem_mem hlt)
    unfold scriniumref22_SameAll.l0
    rw [if_pos (by omega), if_pos (by omega), if_pos (by omega), rdK a i hlt, SameKnown_is _ k (by omega) (by omega), Option.bind_some, if_pos rfl, wrap_succ i (by omega)]
    exact ih k (i + 1) (by omega) (by omega)
theorem SameAll_is (a : List Kn) (k : Nat) (ha : a.length ≤ 4000000) (hx : ∀ x, x ∈ a → x.f2.length ≤ 2000) (hk : a.length + 2001 < k) : scriniumref22_SameAll.f k a a = some true := by
  unfold scriniumref22_SameAll.f
  rw [if_pos rfl]
  exact SameAll_self a ha hx a.length k 0 (by omega) hk
theorem SameL_self (a : List Sc) (ha : a.length ≤ 4000000) (hx : ∀ s, s ∈ a → s.f1.length ≤ 100 ∧ ∀ x, x ∈ s.f1 → x.f2.length ≤ 2000) : ∀ (d k i : Nat), i + d = a.length → d + 2200 < k → scriniumref22_Same.l0 k a a (i : Int) = some true := by
  intro d
  induction d with
  | zero =>
    intro k i hi hk
    obtain ⟨k, rfl⟩ : ∃ q, k = q + 1 := ⟨k - 1, by omega⟩
    unfold scriniumref22_Same.l0
    rw [if_neg (by omega)]
  | succ d ih =>
    intro k i hi hk
    obtain ⟨k, rfl⟩ : ∃ q, k = q + 1 := ⟨k - 1, by omega⟩
    have hlt : i < a.length := by omega
    obtain ⟨h1, h2⟩ := hx _ (List.getElem_mem hlt)
    unfold scriniumref22_Same.l0
    rw [if_pos (by omega), if_pos (by omega), if_pos (by omega), if_pos rfl, rdS a i hlt, SameAll_is _ k (by omega) h2 (by omega), Option.bind_some, if_pos rfl, wrap_succ i (by omega)]
    exact ih k (i + 1) (by omega) (by omega)
theorem SameL_is (a : List Sc) (ha : a.length ≤ 100) (hx : ∀ s, s ∈ a → s.f1.length ≤ 100 ∧ ∀ x, x ∈ s.f1 → x.f2.length ≤ 2000) : scriniumref22_Same.f 3000 a a = some true := by
  unfold scriniumref22_Same.f
  rw [if_pos rfl]
  exact SameL_self a (by omega) hx a.length 3000 0 (by omega) (by omega)
theorem plain_is (s : ByteArray) (k : Nat) (hs : s.size ≤ 4000) (hk : 4030 ≤ k) : scriniumref22_plain.f k s = some (pf s) := by
  have h := le_up (F := fun k => scriniumref10_Plain.f k s) (fun k => scriniumref10_Plain.mono _ k) (a := s.size + 30) (b := k) (by omega) (Plain_is s (by omega))
  unfold scriniumref22_plain.f
  rw [h]
  rfl
theorem rightN_is (s : ByteArray) (k : Nat) (hs : s.size ≤ 4000) (hk : 4030 ≤ k) : scriniumref10_Right.f k s = some (rightN s) :=
  le_up (F := fun k => scriniumref10_Right.f k s) (fun k => scriniumref10_Right.mono _ k) (a := s.size + 30) (b := k) (by omega) (Right_is s (by omega))
theorem toList_ne {a b : ByteArray} (h : a ≠ b) : a.toList ≠ b.toList := by
  intro e
  have := str_ne h
  rw [e] at this
  simp at this
theorem find_loop (l : List Sc) (n : ByteArray) (hl : l.length ≤ 400) (hz : ∀ s, s ∈ l → s.f0.size ≤ 4000) (hn : n.size ≤ 4000) (i : Nat) (t : Bool) (hf : FndP l n i t) (hR : RightP l) (hr : rightN n = true) : ∀ (d k j : Nat), j + d = l.length → d + 4031 ≤ k → (t = true → j ≤ i) → scriniumref22_find.l0 k l n (j : Int) = some (if t = true then (i : Int) else -1) := by
  intro d
  induction d with
  | zero =>
    intro k j hj hk hji
    obtain ⟨k, rfl⟩ : ∃ q, k = q + 1 := ⟨k - 1, by omega⟩
    unfold scriniumref22_find.l0
    rw [if_neg (by omega)]
    cases t with
    | false => rfl
    | true => obtain ⟨h, _⟩ := hf.yes rfl; have := hji rfl; omega
  | succ d ih =>
    intro k j hj hk hji
    obtain ⟨k, rfl⟩ : ∃ q, k = q + 1 := ⟨k - 1, by omega⟩
    have hlt : j < l.length := by omega
    unfold scriniumref22_find.l0
    rw [if_pos (by omega), if_pos (by omega), rdS l j hlt, plain_is _ k (hz _ (List.getElem_mem hlt)) (by omega), Option.bind_some, plain_is n k hn (by omega), Option.bind_some]
    by_cases he : pf l[j].f0 = pf n
    · obtain ⟨rfl, rfl⟩ := hf.only hR hr j hlt he
      rw [if_pos (by rw [he]), if_pos rfl]
    · rw [if_neg (toList_ne he), wrap_succ j (by omega)]
      refine ih k (j + 1) (by omega) (by omega) (fun ht => ?_)
      have h1 := hji ht
      obtain ⟨h2, h3⟩ := hf.yes ht
      rcases Nat.lt_or_eq_of_le h1 with h4 | h4
      · exact h4
      · subst h4; exact absurd h3 he
theorem FndP.any (l : List Sc) (n : ByteArray) : ∃ i t, FndP l n i t := by
  have key : ∀ d i, i + d = l.length → (∀ j (h : j < l.length), j < i → Ls l[j].f0 n) → ∃ i, i ≤ l.length ∧ (∀ j (h : j < l.length), j < i → Ls l[j].f0 n) ∧ ∀ h : i < l.length, ¬ Ls l[i].f0 n := by
    intro d
    induction d with
    | zero => exact fun i hi h => ⟨i, by omega, h, fun h' => by omega⟩
    | succ d ih =>
      intro i hi h
      have hlt : i < l.length := by omega
      by_cases hs : Ls l[i].f0 n
      · refine ih (i + 1) (by omega) (fun j hj hji => ?_)
        rcases Nat.lt_or_eq_of_le (Nat.le_of_lt_succ hji) with h1 | h1
        · exact h j hj h1
        · subst h1; exact hs
      · exact ⟨i, by omega, h, fun _ => hs⟩
  obtain ⟨i, h1, h2, h3⟩ := key l.length 0 (by omega) (fun j _ h => by omega)
  by_cases he : ∃ h : i < l.length, pf l[i].f0 = pf n
  · exact ⟨i, true, h1, h2, fun _ => he, fun h => by cases h⟩
  · exact ⟨i, false, h1, h2, fun h => (by cases h), fun _ h => ⟨h3 h, fun e => he ⟨h, e⟩⟩⟩
end Go.Proofs.YtkabjbkefoipnaaDoor.Md
