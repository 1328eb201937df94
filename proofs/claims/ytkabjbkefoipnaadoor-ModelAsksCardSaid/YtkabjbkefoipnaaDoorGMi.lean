import Derived.Test.YtkabjbkefoipnaaDoorGMh
namespace Go.Proofs.YtkabjbkefoipnaaDoor.Md
open Go.Lib Go.RowKit Go.Proofs.YtkabjbkefoipnaaDoorW.PrintWords Go.Proofs.YtkabjbkefoipnaaDoorW.PrintLast Go.Proofs.YtkabjbkefoipnaaDoorW.PrintMore Go.Proofs.YtkabjbkefoipnaaDoor.PM Go.Proofs.YtkabjbkefoipnaaDoor.Nm
set_option linter.unusedVariables false
set_option linter.unusedSimpArgs false
structure ShortS (s : Sc) : Prop where
  name : s.f0.size ≤ 150
  vers : s.f1.length ≤ 8
  text : ∀ m (h : m < s.f1.length), s.f1[m].f2.length ≤ 2000
structure ShortL (l : List Sc) : Prop where
  len : l.length ≤ 30
  all : ∀ i (h : i < l.length), ShortS l[i]
theorem ShortL.at {l : List Sc} (h : ShortL l) {s : Sc} (hs : s ∈ l) : ShortS s := by
  obtain ⟨i, hi, rfl⟩ := List.getElem_of_mem hs
  exact h.all i hi
theorem ShortS.txt {s : Sc} (h : ShortS s) {y : Kn} (hy : y ∈ s.f1) : y.f2.length ≤ 2000 := by
  obtain ⟨i, hi, rfl⟩ := List.getElem_of_mem hy
  exact h.text i hi
theorem ShortL.sized {l : List Sc} (h : ShortL l) : Sized l :=
  ⟨by have := h.len; omega, fun s hs => ⟨by have := (h.at hs).name; omega, by have := (h.at hs).vers; omega, fun y hy => by have := (h.at hs).txt hy; omega⟩⟩
theorem wrap_succ (i : Nat) (h : i ≤ 4000000) : wrap64 ((i : Int) + 1) = ((i + 1 : Nat) : Int) := by unfold wrap64; omega
theorem wrap_pred (n : Nat) (h : n ≤ 4000000) (h1 : 1 ≤ n) : wrap64 ((n : Int) - 1) = ((n - 1 : Nat) : Int) := by unfold wrap64; omega
theorem Long_text (l : List Sc) (i : Nat) (hi : i < l.length) (hl : l.length ≤ 30) (d : Nat) (h8 : l[i].f1.length ≤ 8)
    (next : ∀ k, 11 * d + 1 ≤ k → ∃ b, scriniumref22_Long.l0 k l ((i + 1 : Nat) : Int) = some b ∧ (b = false → ∀ m (h : m < l.length), i + 1 ≤ m → ShortS l[m])) :
    ∀ (e k j : Nat), j + e = l[i].f1.length → 11 * d + e + 2 ≤ k → ∃ b, scriniumref22_Long.l1 k l (i : Int) (j : Int) = some b ∧ (b = false → (∀ m (h : m < l.length), i + 1 ≤ m → ShortS l[m]) ∧ ∀ m (h : m < l[i].f1.length), j ≤ m → l[i].f1[m].f2.length ≤ 2000) := by
  intro e
  induction e with
  | zero =>
    intro k j hj hk
    obtain ⟨k, rfl⟩ : ∃ q, k = q + 1 := ⟨k - 1, by omega⟩
    obtain ⟨b, h1, h2⟩ := next k (by omega)
    unfold scriniumref22_Long.l1
    rw [if_pos (by omega), if_pos (by omega), rdS l i hi, if_neg (by omega), wrap_succ i (by omega), h1]
    exact ⟨b, rfl, fun hb => ⟨h2 hb, fun m hm hjm => by omega⟩⟩
  | succ e ih =>
    intro k j hj hk
    obtain ⟨k, rfl⟩ : ∃ q, k = q + 1 := ⟨k - 1, by omega⟩
    have hlt : j < l[i].f1.length := by omega
    obtain ⟨b, h1, h2⟩ := ih k (j + 1) (by omega) (by omega)
    unfold scriniumref22_Long.l1
    rw [if_pos (by omega), if_pos (by omega), rdS l i hi, if_pos (by omega), if_pos (by omega), rdK _ j hlt, wrap_succ j (by omega), h1]
    split
    · exact ⟨true, rfl, fun h => by cases h⟩
    · rename_i hx
      refine ⟨b, rfl, fun hb => ⟨(h2 hb).1, fun m hm hjm => ?_⟩⟩
      rcases Nat.lt_or_eq_of_le hjm with h3 | h3
      · exact (h2 hb).2 m hm h3
      · subst h3; omega
theorem Long_loop (l : List Sc) (hl : l.length ≤ 30) : ∀ (d k i : Nat), i + d = l.length → 11 * d + 1 ≤ k → ∃ b, scriniumref22_Long.l0 k l (i : Int) = some b ∧ (b = false → ∀ m (h : m < l.length), i ≤ m → ShortS l[m]) := by
  intro d
  induction d with
  | zero =>
    intro k i hi hk
    obtain ⟨k, rfl⟩ : ∃ q, k = q + 1 := ⟨k - 1, by omega⟩
    unfold scriniumref22_Long.l0
    rw [if_neg (by omega)]
    exact ⟨false, rfl, fun _ m hm him => by omega⟩
  | succ d ih =>
    intro k i hi hk
    obtain ⟨k, rfl⟩ : ∃ q, k = q + 2 := ⟨k - 2, by omega⟩
    have hlt : i < l.length := by omega
    unfold scriniumref22_Long.l0
    rw [if_pos (by omega), if_pos (by omega), rdS l i hlt]
    split
    · unfold scriniumref22_Long.j1
      rw [if_pos rfl]
      exact ⟨true, rfl, fun h => by cases h⟩
    · rename_i hn
      unfold scriniumref22_Long.j1
      by_cases h8 : ((l[i].f1.length : Nat) : Int) > 8
      · rw [decide_eq_true h8, if_pos rfl]
        exact ⟨true, rfl, fun h => by cases h⟩
      · rw [decide_eq_false h8, if_neg (by simp)]
        obtain ⟨b, h1, h2⟩ := Long_text l i hlt hl d (by omega) (fun k hk => ih k (i + 1) (by omega) hk) l[i].f1.length k 0 (by omega) (by omega)
        have h1' : scriniumref22_Long.l1 k l (i : Int) 0 = some b := h1
        rw [h1']
        refine ⟨b, rfl, fun hb m hm him => ?_⟩
        rcases Nat.lt_or_eq_of_le him with h3 | h3
        · exact (h2 hb).1 m hm h3
        · subst h3
          exact ⟨by omega, by omega, fun q hq => (h2 hb).2 q hq (Nat.zero_le _)⟩
theorem Long_is (l : List Sc) : ∃ b, scriniumref22_Long.f 400 l = some b ∧ (b = false → ShortL l) := by
  unfold scriniumref22_Long.f
  by_cases h : (l.length : Int) > 30
  · rw [if_pos h]
    exact ⟨true, rfl, fun h => by cases h⟩
  · rw [if_neg h]
    obtain ⟨b, h1, h2⟩ := Long_loop l (by omega) l.length 400 0 (by omega) (by omega)
    exact ⟨b, h1, fun hb => ⟨by omega, fun i hi => h2 hb i hi (Nat.zero_le _)⟩⟩
theorem Same_self (a : List Int) (ha : a.length ≤ 4000000) : ∀ (d k i : Nat), i + d = a.length → d < k → scriniumref01_Same.l0 k a a (i : Int) = some true := by
  intro d
  induction d with
  | zero =>
    intro k i hi hk
    obtain ⟨k, rfl⟩ : ∃ q, k = q + 1 := ⟨k - 1, by omega⟩
    unfold scriniumref01_Same.l0
    rw [if_neg (by omega)]
  | succ d ih =>
    intro k i hi hk
    obtain ⟨k, rfl⟩ : ∃ q, k = q + 1 := ⟨k - 1, by omega⟩
    unfold scriniumref01_Same.l0
    rw [if_pos (by omega), if_pos (by omega), if_pos (by omega), if_pos rfl, wrap_succ i (by omega)]
    exact ih k (i + 1) (by omega) (by omega)
theorem Same_is (a : List Int) (k : Nat) (ha : a.length ≤ 4000000) (hk : a.length < k) : scriniumref01_Same.f k a a = some true := by
  unfold scriniumref01_Same.f
  rw [if_pos rfl]
  exact Same_self a ha a.length k 0 (by omega) hk
theorem SameKnown_is (x : Kn) (k : Nat) (ha : x.f2.length ≤ 4000000) (hk : x.f2.length < k) : scriniumref22_SameKnown.f k x.f0 x.f1 x.f2 x.f0 x.f1 x.f2 = some true := by
  unfold scriniumref22_SameKnown.f
  rw [if_pos rfl, if_pos (by cases x.f1 <;> rfl), Same_is _ _ ha hk]
  rfl
theorem SameAll_self (a : List Kn) (ha : a.length ≤ 4000000) (hx : ∀ x, x ∈ a → x.f2.length ≤ 2000) : ∀ (d k i : Nat), i + d = a.length → d + 2001 < k → scriniumref22_SameAll.l0 k a a (i : Int) = some true := by
  intro d
  induction d with
  | zero =>
    intro k i hi hk
    obtain ⟨k, rfl⟩ : ∃ q, k = q + 1 := ⟨k - 1, by omega⟩
    unfold scriniumref22_SameAll.l0
    rw [if_neg (by omega)]
  | succ d ih =>
    intro k i hi hk
    obtain ⟨k, rfl⟩ : ∃ q, k = q + 1 := ⟨k - 1, by omega⟩
    have hlt : i < a.length := by omega
    have := hx _ (List.getElem_mem hlt)
    unfold scriniumref22_SameAll.l0
    rw [if_pos (by omega), if_pos (by omega), if_pos (by omega), rdK a i hlt, SameKnown_is _ k (by omega) (by omega), Option.bind_some, if_pos rfl, wrap_succ i (by omega)]
    exact ih k (i + 1) (by omega) (by omega)
theorem SameAll_is (a : List Kn) (k : Nat) (ha : a.length ≤ 4000000) (hx : ∀ x, x ∈ a → x.f2.length ≤ 2000) (hk : a.length + 2001 < k) : scriniumref22_SameAll.f k a a = some true := by
  unfold scriniumref22_SameAll.f
  rw [if_pos rfl]
  exact SameAll_self a ha hx a.length k 0 (by omega) hk
theorem SameNames_self (a : List ByteArray) (ha : a.length ≤ 4000000) : ∀ (d k i : Nat), i + d = a.length → d < k → scriniumref16_SameNames.l0 k a a (i : Int) = some true := by
  intro d
  induction d with
  | zero =>
    intro k i hi hk
    obtain ⟨k, rfl⟩ : ∃ q, k = q + 1 := ⟨k - 1, by omega⟩
    unfold scriniumref16_SameNames.l0
    rw [if_neg (by omega)]
  | succ d ih =>
    intro k i hi hk
    obtain ⟨k, rfl⟩ : ∃ q, k = q + 1 := ⟨k - 1, by omega⟩
    unfold scriniumref16_SameNames.l0
    rw [if_pos (by omega), if_pos (by omega), if_pos (by omega), if_pos rfl, wrap_succ i (by omega)]
    exact ih k (i + 1) (by omega) (by omega)
theorem SameNames_is (a : List ByteArray) (ha : a.length ≤ 100) : scriniumref16_SameNames.f 200 a a = some true := by
  unfold scriniumref16_SameNames.f
  rw [if_pos rfl]
  exact SameNames_self a (by omega) a.length 200 0 (by omega) (by omega)
theorem plain_is (s : ByteArray) (k : Nat) (hs : s.size ≤ 4000) (hk : 4030 ≤ k) : scriniumref22_plain.f k s = some (pf s) := by
  have h := le_up (F := fun k => scriniumref10_Plain.f k s) (fun k => scriniumref10_Plain.mono _ k) (a := s.size + 30) (b := k) (by omega) (Plain_is s (by omega))
  unfold scriniumref22_plain.f
  rw [h]
  rfl
theorem rightN_is (s : ByteArray) (k : Nat) (hs : s.size ≤ 4000) (hk : 4030 ≤ k) : scriniumref10_Right.f k s = some (rightN s) :=
  le_up (F := fun k => scriniumref10_Right.f k s) (fun k => scriniumref10_Right.mono _ k) (a := s.size + 30) (b := k) (by omega) (Right_is s (by omega))
theorem toList_ne {a b : ByteArray} (h : a ≠ b) : a.toList ≠ b.toList := by
  intro e
  have := str_ne h
  rw [e] at this
  simp at this
theorem find_loop (l : List Sc) (n : ByteArray) (hl : l.length ≤ 400) (hz : ∀ s, s ∈ l → s.f0.size ≤ 4000) (hn : n.size ≤ 4000) (i : Nat) (t : Bool) (hf : FndP l n i t) (hR : RightP l) (hr : rightN n = true) : ∀ (d k j : Nat), j + d = l.length → d + 4031 ≤ k → (t = true → j ≤ i) → scriniumref22_find.l0 k l n (j : Int) = some (if t = true then (i : Int) else -1) := by
  intro d
  induction d with
  | zero =>
    intro k j hj hk hji
    obtain ⟨k, rfl⟩ : ∃ q, k = q + 1 := ⟨k - 1, by omega⟩
    unfold scriniumref22_find.l0
    rw [if_neg (by omega)]
    cases t with
    | false => rfl
    | true => obtain ⟨h, _⟩ := hf.yes rfl; have := hji rfl; omega
  | succ d ih =>
    intro k j hj hk hji
    obtain ⟨k, rfl⟩ : ∃ q, k = q + 1 := ⟨k - 1, by omega⟩
    have hlt : j < l.length := by omega
    unfold scriniumref22_find.l0
    rw [if_pos (by omega), if_pos (by omega), rdS l j hlt, plain_is _ k (hz _ (List.getElem_mem hlt)) (by omega), Option.bind_some, plain_is n k hn (by omega), Option.bind_some]
    by_cases he : pf l[j].f0 = pf n
    · obtain ⟨rfl, rfl⟩ := hf.only hR hr j hlt he
      rw [if_pos (by rw [he]), if_pos rfl]
    · rw [if_neg (toList_ne he), wrap_succ j (by omega)]
      refine ih k (j + 1) (by omega) (by omega) (fun ht => ?_)
      have h1 := hji ht
      obtain ⟨h2, h3⟩ := hf.yes ht
      rcases Nat.lt_or_eq_of_le h1 with h4 | h4
      · exact h4
      · subst h4; exact absurd h3 he
theorem FndP.any (l : List Sc) (n : ByteArray) : ∃ i t, FndP l n i t := by
  have key : ∀ d i, i + d = l.length → (∀ j (h : j < l.length), j < i → Ls l[j].f0 n) → ∃ i, i ≤ l.length ∧ (∀ j (h : j < l.length), j < i → Ls l[j].f0 n) ∧ ∀ h : i < l.length, ¬ Ls l[i].f0 n := by
    intro d
    induction d with
    | zero => exact fun i hi h => ⟨i, by omega, h, fun h' => by omega⟩
    | succ d ih =>
      intro i hi h
      have hlt : i < l.length := by omega
      by_cases hs : Ls l[i].f0 n
      · refine ih (i + 1) (by omega) (fun j hj hji => ?_)
        rcases Nat.lt_or_eq_of_le (Nat.le_of_lt_succ hji) with h1 | h1
        · exact h j hj h1
        · subst h1; exact hs
      · exact ⟨i, by omega, h, fun _ => hs⟩
  obtain ⟨i, h1, h2, h3⟩ := key l.length 0 (by omega) (fun j _ h => by omega)
  by_cases he : ∃ h : i < l.length, pf l[i].f0 = pf n
  · exact ⟨i, true, h1, h2, fun _ => he, fun h => by cases h⟩
  · exact ⟨i, false, h1, h2, fun h => (by cases h), fun _ h => ⟨h3 h, fun e => he ⟨h, e⟩⟩⟩
theorem Vers_is (l : List Sc) (n : ByteArray) (hz : Sized l) (hn : n.size ≤ 4000) (hR : RightP l) : ∃ vs z, VrsP l n vs z ∧ scriniumref22_Versions.f 5000 l n = some (vs, z) := by
  unfold scriniumref22_Versions.f
  rw [rightN_is n 5000 hn (by decide), Option.bind_some]
  cases hr : rightN n with
  | false => exact ⟨[], 5, .name hr, by rw [if_neg (by simp)]⟩
  | true =>
    obtain ⟨i, t, hf⟩ := FndP.any l n
    have h1 : scriniumref22_find.f 5000 l n = some (if t = true then (i : Int) else -1) := find_loop l n hz.1 (fun s hs => (hz.2 s hs).1) hn i t hf hR hr l.length 5000 0 (by omega) (by have := hz.1; omega) (fun _ => Nat.zero_le _)
    rw [if_pos rfl, h1, Option.bind_some]
    cases t with
    | false => exact ⟨[], 6, .none i hr hf, rfl⟩
    | true =>
      obtain ⟨hi, _⟩ := hf.yes rfl
      refine ⟨l[i].f1, 0, .some i hi hr hf, ?_⟩
      rw [if_pos rfl, if_neg (by omega), if_pos (by omega), if_pos (by omega), rdS l i hi]
theorem refGet_is (l : List Sc) (n : ByteArray) (hz : Sized l) (hn : n.size ≤ 4000) (hR : RightP l) : ∃ vs z, VrsP l n vs z ∧ scriniumref22_Get.f 5000 l n = some ((getV vs z).1.f0, (getV vs z).1.f1, (getV vs z).1.f2, (getV vs z).2) := by
  obtain ⟨vs, z, hv, h1⟩ := Vers_is l n hz hn hR
  refine ⟨vs, z, hv, ?_⟩
  unfold scriniumref22_Get.f
  rw [h1, Option.bind_some]
  dsimp only
  by_cases h0 : z = 0
  · subst h0
    have hp := hv.pos hR
    have hlt : vs.length - 1 < vs.length := by omega
    rw [if_pos rfl, wrap_pred _ (by omega) hp.1, if_pos (by omega), if_pos (by omega), rdK vs _ hlt, ← lastV_get (by omega)]
    cases hg : (lastV vs).f1 with
    | true => rw [if_pos rfl, getV_gone hg]; rfl
    | false => rw [if_neg (by simp), getV_there hg, hg]
  · rw [if_neg h0, getV_err h0]
    rfl
theorem refAt_loop (num : Int) (vs : List Kn) (hl : vs.length ≤ 100) : ∀ (d k j : Nat), j + d = vs.length → d < k → scriniumref22_At.l0 k num vs (j : Int) = some (match (vs.drop j).find? (hitV num) with | some v => (v.f0, v.f1, v.f2, 0) | none => (0, false, [], 6)) := by
  intro d
  induction d with
  | zero =>
    intro k j hj hk
    obtain ⟨k, rfl⟩ : ∃ q, k = q + 1 := ⟨k - 1, by omega⟩
    unfold scriniumref22_At.l0
    rw [if_neg (by omega), List.drop_of_length_le (by omega)]
    rfl
  | succ d ih =>
    intro k j hj hk
    obtain ⟨k, rfl⟩ : ∃ q, k = q + 1 := ⟨k - 1, by omega⟩
    have hlt : j < vs.length := by omega
    unfold scriniumref22_At.l0
    rw [if_pos (by omega), if_pos (by omega), rdK vs j hlt, wrap_succ j (by omega), ih k (j + 1) (by omega) (by omega), drop_at vs j hlt, List.find?_cons]
    generalize vs[j] = x
    by_cases h1 : x.f0 = num
    · rw [if_pos h1]
      cases h2 : x.f1 with
      | true => rw [if_pos rfl, show hitV num x = false by simp [hitV, h2]]
      | false => rw [if_neg (by simp), show hitV num x = true by simp [hitV, h1, h2]]; simp only [h2]
    · rw [if_neg h1, show hitV num x = false by simp [hitV, h1]]
theorem refAt_is (l : List Sc) (n : ByteArray) (num : Int) (hz : Sized l) (hn : n.size ≤ 4000) (hR : RightP l) : ∃ vs z, VrsP l n vs z ∧ scriniumref22_At.f 5000 l n num = some ((atV num vs z).1.f0, (atV num vs z).1.f1, (atV num vs z).1.f2, (atV num vs z).2) := by
  obtain ⟨vs, z, hv, h1⟩ := Vers_is l n hz hn hR
  refine ⟨vs, z, hv, ?_⟩
  unfold scriniumref22_At.f
  rw [h1, Option.bind_some]
  dsimp only
  by_cases h0 : z = 0
  · subst h0
    have hp := hv.pos hR
    have h2 := refAt_loop num vs (by omega) vs.length 5000 0 (by omega) (by omega)
    have h2' : scriniumref22_At.l0 5000 num vs 0 = _ := h2
    rw [if_pos rfl, h2', List.drop_zero]
    unfold atV
    rw [if_pos rfl]
    cases vs.find? (hitV num) <;> rfl
  · rw [if_neg h0, atV_err h0]
    rfl
theorem refHis_loop (vs : List Kn) (hl : vs.length ≤ 100) : ∀ (d k j : Nat) (acc : List Kn), j + d = vs.length → d < k → acc.length ≤ j → scriniumref22_History.l0 k vs acc (j : Int) = some (acc ++ (vs.drop j).map bare, 0) := by
  intro d
  induction d with
  | zero =>
    intro k j acc hj hk ha
    obtain ⟨k, rfl⟩ : ∃ q, k = q + 1 := ⟨k - 1, by omega⟩
    unfold scriniumref22_History.l0
    rw [if_neg (by omega), List.drop_of_length_le (by omega)]
    simp
  | succ d ih =>
    intro k j acc hj hk ha
    obtain ⟨k, rfl⟩ : ∃ q, k = q + 1 := ⟨k - 1, by omega⟩
    have hlt : j < vs.length := by omega
    unfold scriniumref22_History.l0
    rw [if_pos (by omega), if_pos (by omega), rdK vs j hlt, if_pos (by omega), wrap_succ j (by omega), ih k (j + 1) _ (by omega) (by omega) (by rw [List.length_append, List.length_singleton]; omega), drop_at vs j hlt, List.map_cons, List.append_assoc]
    rfl
theorem refHis_is (l : List Sc) (n : ByteArray) (hz : Sized l) (hn : n.size ≤ 4000) (hR : RightP l) : ∃ vs z, VrsP l n vs z ∧ scriniumref22_History.f 5000 l n = some ((hisV vs z).1, (hisV vs z).2) := by
  obtain ⟨vs, z, hv, h1⟩ := Vers_is l n hz hn hR
  refine ⟨vs, z, hv, ?_⟩
  unfold scriniumref22_History.f
  rw [h1, Option.bind_some]
  dsimp only
  by_cases h0 : z = 0
  · subst h0
    have hp := hv.pos hR
    have h2 := refHis_loop vs (by omega) vs.length 5000 0 [] (by omega) (by omega) (by simp)
    have h2' : scriniumref22_History.l0 5000 vs [] 0 = _ := h2
    rw [if_pos rfl, h2', List.drop_zero, List.nil_append]
    rfl
  · rw [if_neg h0]
    unfold hisV
    rw [if_neg h0]
theorem List_loop (l : List Sc) (hl : l.length ≤ 400) (hv : ∀ s, s ∈ l → s.f1.length ≤ 1000) : ∀ (d k j : Nat) (acc : List ByteArray), j + d = l.length → d < k → acc.length ≤ j → model_List.l0 k acc l (l.length : Int) (j : Int) = some (acc ++ listV (l.drop j)) := by
  intro d
  induction d with
  | zero =>
    intro k j acc hj hk ha
    obtain ⟨k, rfl⟩ : ∃ q, k = q + 1 := ⟨k - 1, by omega⟩
    unfold model_List.l0
    rw [if_neg (by omega), List.drop_of_length_le (by omega)]
    simp [listV]
  | succ d ih =>
    intro k j acc hj hk ha
    obtain ⟨k, rfl⟩ : ∃ q, k = q + 1 := ⟨k - 1, by omega⟩
    have hlt : j < l.length := by omega
    have hvj := hv _ (List.getElem_mem hlt)
    unfold model_List.l0
    rw [if_pos (by omega), if_pos (by omega), if_pos (by omega), rdS l j hlt, wrap_succ j (by omega), ih k (j + 1) acc (by omega) (by omega) (by omega), ih k (j + 1) _ (by omega) (by omega) (by rw [List.length_append, List.length_singleton]; omega), drop_at l j hlt]
    unfold listV
    rw [List.filter_cons]
    by_cases h0 : ((l[j].f1.length : Nat) : Int) > 0
    · have hlt2 : l[j].f1.length - 1 < l[j].f1.length := by omega
      rw [if_pos h0, wrap_pred _ (by omega) (by omega), if_pos (by omega), if_pos (by omega), rdK _ _ hlt2, ← lastV_get (by omega)]
      cases hg : (lastV l[j].f1).f1 with
      | true => rw [if_pos rfl, if_neg (by simp [liveV, hg])]
      | false => rw [if_neg (by simp), if_pos (by omega), if_pos (by simp [liveV, hg]; omega), List.map_cons, List.append_assoc]; rfl
    · rw [if_neg h0, if_neg (by simp [liveV]; intro h; omega)]
theorem List_is (l : List Sc) (hz : Sized l) : model_List.f 500 l = some (listV l) := by
  have := List_loop l hz.1 (fun s hs => (hz.2 s hs).2.1) l.length 500 0 [] (by omega) (by have := hz.1; omega) (by simp)
  have h2 : model_List.l0 500 [] l (l.length : Int) 0 = _ := this
  unfold model_List.f
  rw [h2, List.drop_zero, List.nil_append]
theorem refList_loop (l : List Sc) (hl : l.length ≤ 400) (hv : ∀ s, s ∈ l → 1 ≤ s.f1.length ∧ s.f1.length ≤ 1000) : ∀ (d k j : Nat) (acc : List ByteArray), j + d = l.length → d < k → acc.length ≤ j → scriniumref22_List.l0 k l acc (j : Int) = some (acc ++ listV (l.drop j)) := by
  intro d
  induction d with
  | zero =>
    intro k j acc hj hk ha
    obtain ⟨k, rfl⟩ : ∃ q, k = q + 1 := ⟨k - 1, by omega⟩
    unfold scriniumref22_List.l0
    rw [if_neg (by omega), List.drop_of_length_le (by omega)]
    simp [listV]
  | succ d ih =>
    intro k j acc hj hk ha
    obtain ⟨k, rfl⟩ : ∃ q, k = q + 1 := ⟨k - 1, by omega⟩
    have hlt : j < l.length := by omega
    obtain ⟨hv1, hvj⟩ := hv _ (List.getElem_mem hlt)
    have hlt2 : l[j].f1.length - 1 < l[j].f1.length := by omega
    unfold scriniumref22_List.l0
    rw [if_pos (by omega), if_pos (by omega), rdS l j hlt, wrap_succ j (by omega), ih k (j + 1) acc (by omega) (by omega) (by omega), ih k (j + 1) _ (by omega) (by omega) (by rw [List.length_append, List.length_singleton]; omega), drop_at l j hlt]
    unfold listV
    rw [List.filter_cons, wrap_pred _ (by omega) (by omega), if_pos (by omega), if_pos (by omega), rdK _ _ hlt2, ← lastV_get (by omega)]
    cases hg : (lastV l[j].f1).f1 with
    | true => rw [if_pos rfl, if_neg (by simp [liveV, hg])]
    | false => rw [if_neg (by simp), if_pos (by omega), if_pos (by simp [liveV, hg]; omega), List.map_cons, List.append_assoc]; rfl
theorem refList_is (l : List Sc) (hz : Sized l) (hR : RightP l) : scriniumref22_List.f 500 l = some (listV l) := by
  have := refList_loop l hz.1 (fun s hs => ⟨(hR.secs s hs).pos, (hz.2 s hs).2.1⟩) l.length 500 0 [] (by omega) (by have := hz.1; omega) (by simp)
  have h2 : scriniumref22_List.l0 500 l [] 0 = _ := this
  unfold scriniumref22_List.f
  rw [h2, List.drop_zero, List.nil_append]
end Go.Proofs.YtkabjbkefoipnaaDoor.Md
