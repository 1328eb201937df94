import Derived.Test.YtkabjbkefoipnaaDoorGNm2
namespace Go.Proofs.YtkabjbkefoipnaaDoor.Nm
open Go.Lib Go.RowKit Go.Proofs.YtkabjbkefoipnaaDoorW.PrintWords Go.Proofs.YtkabjbkefoipnaaDoorW.PrintLast Go.Proofs.YtkabjbkefoipnaaDoorW.PrintMore Go.Proofs.YtkabjbkefoipnaaDoor.PM
set_option linter.unusedVariables false
set_option linter.unusedSimpArgs false
def lowN (b : Nat) : Nat := if 65 ≤ b ∧ b ≤ 90 then b + 32 else b
def lowZ (c : Int) : Int := if 65 ≤ c ∧ c ≤ 90 then c + 32 else c
def lowB (b : UInt8) : UInt8 := UInt8.ofNat (lowN b.toNat)
theorem lowB_nat (b : UInt8) : (lowB b).toNat = lowN b.toNat := by
  have h := b.toNat_lt
  unfold lowB lowN
  split <;> rw [UInt8.toNat_ofNat'] <;> omega
theorem lowZ_N (b : Nat) : lowZ (b : Int) = (lowN b : Int) := by
  unfold lowZ lowN
  repeat' split
  all_goals omega
theorem lower_is (c : Int) (h : 0 ≤ c) (h1 : c ≤ 1114111) : names_lower.f c = some (lowZ c) := by
  unfold names_lower.f lowZ
  by_cases c1 : c ≥ 65
  · rw [if_pos c1]
    by_cases c2 : c ≤ 90
    · rw [if_pos c2, if_pos ⟨c1, c2⟩]
      congr 1
      unfold wrap32
      omega
    · rw [if_neg c2, if_neg (by omega)]
  · rw [if_neg c1, if_neg (by omega)]
theorem low_cases (b : Nat) : lowN b = b ∨ (65 ≤ b ∧ b ≤ 90 ∧ lowN b = b + 32) := by unfold lowN; split <;> omega
theorem decodeN_low (n b0 b1 b2 b3 : Nat) : decodeN n (lowN b0) (lowN b1) (lowN b2) (lowN b3) = (lowN (decodeN n b0 b1 b2 b3).1, (decodeN n b0 b1 b2 b3).2) := by
  by_cases a : b0 < 128
  · have h : lowN b0 < 128 := by unfold lowN; split <;> omega
    simp only [decodeN, if_pos a, if_pos h]
  have e0 : lowN b0 = b0 := by unfold lowN; rw [if_neg (by omega)]
  rw [e0]
  have hi : ∀ d : Nat × Nat, 128 ≤ d.1 → d = (lowN d.1, d.2) := fun d hd => by
    have : lowN d.1 = d.1 := by unfold lowN; rw [if_neg (by omega)]
    rw [this]
  have h128 : 128 ≤ (decodeN n b0 b1 b2 b3).1 := by
    rcases decodeN_shape n b0 b1 b2 b3 with ⟨c, e⟩ | ⟨c1, c2, c3, cv, e⟩ | ⟨c1, c2, c3, c4, cv, cs, e⟩ | ⟨c1, c2, c3, c4, c5, cv, cw, e⟩ | e
    all_goals (rw [e]; simp only; omega)
  rw [← hi _ h128]
  clear hi h128 e0
  rcases low_cases b1 with e1 | ⟨x1, y1, e1⟩
  · rw [e1]
    rcases low_cases b2 with e2 | ⟨x2, y2, e2⟩
    · rw [e2]
      rcases low_cases b3 with e3 | ⟨x3, y3, e3⟩
      · rw [e3]
      · have p : ¬ (b3 / 64 = 2) := by omega
        have q : ¬ (lowN b3 / 64 = 2) := by omega
        simp only [decodeN, if_neg a, p, q, and_false, if_false]
    · have p : ¬ (b2 / 64 = 2) := by omega
      have q : ¬ (lowN b2 / 64 = 2) := by omega
      simp only [decodeN, if_neg a, p, q, and_false, false_and, if_false]
  · have p : ¬ (b1 / 64 = 2) := by omega
    have q : ¬ (lowN b1 / 64 = 2) := by omega
    simp only [decodeN, if_neg a, p, q, and_false, false_and, if_false]
theorem getD_low (l : List UInt8) (k : Nat) : ((l.map lowB).getD k 0).toNat = lowN (l.getD k 0).toNat := by
  rw [← lowB_nat]
  congr 1
  simp only [List.getD_eq_getElem?_getD, List.getElem?_map]
  cases l[k]? with
  | none => rfl
  | some x => rfl
theorem decodeL_low (l : List UInt8) : decodeL (l.map lowB) = (lowN (decodeL l).1, (decodeL l).2) := by
  rw [decodeL_N, decodeL_N, List.length_map, getD_low, getD_low, getD_low, getD_low, decodeN_low]
theorem runes_low : ∀ (n : Nat) (l : List UInt8), l.length ≤ n → runes (l.map lowB) = (runes l).map lowN
  | 0, l, h => by
    have : l = [] := List.eq_nil_of_length_eq_zero (by omega)
    subst this; rfl
  | n + 1, l, h => by
    by_cases hne : l = []
    · subst hne; rfl
    · have hw := decodeL_width l
      have hl : 0 < l.length := List.length_pos_iff.2 hne
      rw [runes_step l hne, runes_step (l.map lowB) (by simp [hne]), decodeL_low, List.map_cons, ← List.map_drop, runes_low n (l.drop (decodeL l).2) (by rw [List.length_drop]; omega)]
theorem low_high (b : UInt8) (h : 128 ≤ b.toNat) : lowB b = b := by
  unfold lowB lowN
  rw [if_neg (by omega)]
  simp
theorem mapD_low : ∀ (n : Nat) (l : List UInt8), l.length ≤ n → (∀ c, c ∈ runes l → c ≠ 65533) → mapD lowZ l = l.map lowB
  | 0, l, h, _ => by
    have : l = [] := List.eq_nil_of_length_eq_zero (by omega)
    subst this; rfl
  | n + 1, l, h, hb => by
    by_cases hne : l = []
    · subst hne; rfl
    have hw := decodeL_width l
    have hl : 0 < l.length := List.length_pos_iff.2 hne
    rw [runes_step l hne] at hb
    have hd : (decodeL l).1 ≠ 65533 := hb _ (by simp)
    have ih := mapD_low n (l.drop (decodeL l).2) (by rw [List.length_drop]; omega) (fun c hc => hb c (by simp [hc]))
    have hle := decodeL_le l hne
    have k0 := (l.getD 0 0).toNat_lt
    have sp : l.map lowB = (l.take (decodeL l).2).map lowB ++ (l.drop (decodeL l).2).map lowB := by rw [← List.map_append, List.take_append_drop]
    rw [sp, ← ih]
    by_cases a : (l.getD 0 0).toNat < 128
    · have e : decodeL l = ((l.getD 0 0).toNat, 1) := by rw [decodeL_N]; unfold decodeN; rw [if_pos a]
      rw [mapD_step _ _ hne, e]
      simp only
      rw [takeA l hl, lowZ_N, if_pos (by omega)]
      congr 1
      generalize (l.getD 0 0) = b at a k0
      have hl' : lowN b.toNat ≤ 127 := by unfold lowN; split <;> omega
      unfold encodeRune
      rw [encodeRuneZ_one (by omega) (by omega)]
      simp only [List.map_cons, List.map_nil]
      rw [toByte _ (lowB b) (by rw [lowB_nat])]
    · have hsame : lowZ ((decodeL l).1 : Int) = ((decodeL l).1 : Int) := by
        have : 128 ≤ (decodeL l).1 := by
          rw [decodeL_N]
          rcases decodeN_shape l.length (l.getD 0 0).toNat (l.getD 1 0).toNat (l.getD 2 0).toNat (l.getD 3 0).toNat with ⟨c, e⟩ | ⟨c1, c2, c3, cv, e⟩ | ⟨c1, c2, c3, c4, cv, cs, e⟩ | ⟨c1, c2, c3, c4, c5, cv, cw, e⟩ | e
          all_goals (rw [e]; simp only; omega)
        unfold lowZ
        rw [if_neg (by omega)]
      rw [mapD_same _ _ hne hsame (fun h => hd h.1)]
      congr 1
      rw [decodeL_N] at hd hle ⊢
      rcases decodeN_shape l.length (l.getD 0 0).toNat (l.getD 1 0).toNat (l.getD 2 0).toNat (l.getD 3 0).toNat with ⟨c, e⟩ | ⟨c1, c2, c3, cv, e⟩ | ⟨c1, c2, c3, c4, cv, cs, e⟩ | ⟨c1, c2, c3, c4, c5, cv, cw, e⟩ | e
      · exact absurd c a
      · rw [e]; simp only; rw [takeB l c2]; simp only [List.map_cons, List.map_nil]
        rw [low_high _ (by omega), low_high _ (by omega)]
      · rw [e]; simp only; rw [takeC l c2]; simp only [List.map_cons, List.map_nil]
        rw [low_high _ (by omega), low_high _ (by omega), low_high _ (by omega)]
      · rw [e]; simp only; rw [takeD l c2]; simp only [List.map_cons, List.map_nil]
        rw [low_high _ (by omega), low_high _ (by omega), low_high _ (by omega), low_high _ (by omega)]
      · rw [e] at hd; simp at hd
theorem right_ne (l : List Nat) (h : right l = true) : ∀ c, c ∈ l → c ≠ 65533 := by
  intro c hc he
  unfold right at h
  rw [Bool.and_eq_true, List.all_eq_true] at h
  have := h.1 c hc
  simp [barredN, he] at this
def ints (l : List UInt8) : List Int := l.map fun b => (b.toNat : Int)
theorem str_ints (l : List UInt8) : strOfNums (ints l) = ⟨l.toArray⟩ := by
  unfold strOfNums ints
  congr 1
  rw [List.map_map]
  congr 1
  conv => rhs; rw [← List.map_id l]
  refine List.map_congr_left fun x _ => ?_
  simp
theorem drop_get (l : List UInt8) (i : Nat) (h : i < l.length) : l.drop i = l.getD i 0 :: l.drop (i + 1) := by
  rw [List.drop_eq_getElem_cons h]
  congr 1
  simp [List.getD_eq_getElem?_getD, h]
theorem Plain_loop (s : ByteArray) (hm : s.size ≤ 4000000) : ∀ (d k i : Nat) (acc : List Int), i + d = s.size → d < k → acc.length = i →
    scriniumref10_Plain.l0 k s acc i = some (strOfNums (acc ++ ints (((BL s).drop i).map lowB)), 0) := by
  intro d
  induction d with
  | zero =>
    intro k i acc hi hk ha
    obtain ⟨k, rfl⟩ : ∃ j, k = j + 1 := ⟨k - 1, by omega⟩
    unfold scriniumref10_Plain.l0
    rw [if_neg (by omega), List.drop_eq_nil_of_le (by rw [BL_length]; omega)]
    simp [ints]
  | succ d ih =>
    intro k i acc hi hk ha
    obtain ⟨k, rfl⟩ : ∃ j, k = j + 1 := ⟨k - 1, by omega⟩
    have hlt : i < s.size := by omega
    have ei := Aside0.mk (show wrap64 ((i : Int) + 1) = ((i + 1 : Nat) : Int) by rw [wrap64_small (by omega) (by omega)]; omega)
    rw [drop_get _ i (by rw [BL_length]; exact hlt)]
    unfold scriniumref10_Plain.l0
    rw [if_pos (by omega), if_pos (by omega), bt_get, ei.out]
    have k0 := ((BL s).getD i 0).toNat_lt
    have hx : (((BL s).getD i 0).toNat : Int) ≥ 65 ∧ (((BL s).getD i 0).toNat : Int) ≤ 90 → ((((BL s).getD i 0).toNat : Int) + 32) % 256 = ((lowB ((BL s).getD i 0)).toNat : Int) := by
      intro h
      rw [lowB_nat]
      unfold lowN
      rw [if_pos (by omega)]
      omega
    have hy : ¬ ((((BL s).getD i 0).toNat : Int) ≥ 65 ∧ (((BL s).getD i 0).toNat : Int) ≤ 90) → (((BL s).getD i 0).toNat : Int) = ((lowB ((BL s).getD i 0)).toNat : Int) := by
      intro h
      rw [lowB_nat]
      unfold lowN
      rw [if_neg (by omega)]
    generalize (BL s).getD i 0 = b at k0 hx hy ⊢
    have fin : ∀ z : Int, z = ((lowB b).toNat : Int) → (if acc.length < 140737488355328 then scriniumref10_Plain.l0 k s (acc ++ [z]) ((i + 1 : Nat) : Int) else none) = some (strOfNums (acc ++ ints ((b :: (BL s).drop (i + 1)).map lowB)), 0) := by
      intro z hz
      rw [if_pos (by omega), ih k (i + 1) (acc ++ [z]) (by omega) (by omega) (by simp [ha]), hz]
      simp [ints]
    by_cases c1 : (b.toNat : Int) ≥ 65
    · rw [if_pos c1]
      by_cases c2 : (b.toNat : Int) ≤ 90
      · rw [if_pos c2]; exact fin _ (hx ⟨c1, c2⟩)
      · rw [if_neg c2]; exact fin _ (hy (by omega))
    · rw [if_neg c1]; exact fin _ (hy (by omega))
theorem Plain_is (s : ByteArray) (hm : s.size ≤ 4000000) : scriniumref10_Plain.f (s.size + 30) s = some (if right (runes (BL s)) = true then (⟨((BL s).map lowB).toArray⟩, 0) else (⟨#[]⟩, 5)) := by
  unfold scriniumref10_Plain.f
  rw [Right_is s hm]
  simp only [Option.bind_some]
  cases right (runes (BL s)) with
  | false => rfl
  | true =>
    rw [if_pos rfl, if_pos rfl]
    have h := Plain_loop s hm s.size (s.size + 30) 0 [] (by omega) (by omega) rfl
    rw [List.drop_zero, List.nil_append, str_ints] at h
    exact h
theorem all_low (l : List Nat) : (l.map lowN).all (fun c => !barredN c) = l.all (fun c => !barredN c) := by
  rw [List.all_map]
  congr 1
  funext c
  simp only [Function.comp, barredN]
  congr 1
  apply decide_eq_decide.2
  unfold lowN
  split <;> omega
theorem low_32 (o : Option Nat) : o.map lowN = some 32 ↔ o = some 32 := by
  cases o with
  | none => simp
  | some x =>
    simp only [Option.map_some, Option.some.injEq]
    unfold lowN
    split <;> omega
theorem right_low (l : List Nat) : right (l.map lowN) = right l := by
  unfold right
  rw [all_low, List.length_map, List.head?_map, List.getLast?_map]
  congr 1
  apply decide_eq_decide.2
  simp only [ne_eq, low_32]
theorem low_low (l : List UInt8) : (l.map lowB).map lowB = l.map lowB := by
  rw [List.map_map]
  refine List.map_congr_left fun b _ => ?_
  simp only [Function.comp]
  apply UInt8.toNat_inj.1
  rw [lowB_nat, lowB_nat]
  unfold lowN
  repeat' split
  all_goals omega
end Go.Proofs.YtkabjbkefoipnaaDoor.Nm
