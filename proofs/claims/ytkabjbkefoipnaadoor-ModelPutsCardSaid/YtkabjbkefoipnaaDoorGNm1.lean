import Derived.Test.YtkabjbkefoipnaaDoorGPMa
import Derived.Lib.MapLaws
import Derived.Lib.TrimUEq
import Derived.Lib.TrimU
namespace Go.Proofs.YtkabjbkefoipnaaDoor.Nm
open Go.Lib Go.RowKit Go.Proofs.YtkabjbkefoipnaaDoorW.PrintWords Go.Proofs.YtkabjbkefoipnaaDoorW.PrintLast Go.Proofs.YtkabjbkefoipnaaDoorW.PrintMore Go.Proofs.YtkabjbkefoipnaaDoor.PM
set_option linter.unusedVariables false
set_option linter.unusedSimpArgs false
theorem le_up {α : Type} {F : Nat → Option α} (h : ∀ k, LeO (F k) (F (k + 1))) {a b : Nat} (hab : a ≤ b) {r : α} (e : F a = some r) : F b = some r := by
  obtain ⟨d, rfl⟩ : ∃ d, b = a + d := ⟨b - a, by omega⟩
  clear hab
  induction d with
  | zero => exact e
  | succ d ih => exact h _ _ ih
theorem wrap64_small {x : Int} (h0 : -4611686018427387904 ≤ x) (h1 : x < 4611686018427387904) : wrap64 x = x := by unfold wrap64; omega
abbrev BL (s : ByteArray) : List UInt8 := s.data.toList
theorem BL_length (s : ByteArray) : (BL s).length = s.size := rfl
theorem bt_get (s : ByteArray) (i : Nat) : bt s (i : Int) = (((BL s).getD i 0).toNat : Int) := by
  unfold bt
  by_cases h : i < s.size
  · have h' : i < s.data.size := h
    rw [dif_pos (by simpa using h)]
    simp only [BL, List.getD_eq_getElem?_getD, Array.getElem?_toList, Array.getElem?_eq_getElem h']
    rfl
  · have h' : s.data.size ≤ i := Nat.le_of_not_lt h
    rw [dif_neg (by simpa using h)]
    simp only [BL, List.getD_eq_getElem?_getD, Array.getElem?_toList, Array.getElem?_eq_none h']
    rfl
theorem BL_extract (s : ByteArray) (p : Nat) : BL (s.extract p s.size) = (BL s).drop p := by
  have h : (s.extract p s.size).data = s.data.extract p s.data.size := by simp [ByteArray.data_extract]
  simp only [BL, h, Array.toList_extract, List.extract]
  rw [List.take_of_length_le]
  simp
def rs : Nat → List UInt8 → List Nat
  | 0, _ => []
  | n + 1, l => if l = [] then [] else (decodeL l).1 :: rs n (l.drop (decodeL l).2)
theorem rs_nil : ∀ n, rs n [] = []
  | 0 => rfl
  | n + 1 => by simp [rs]
theorem rs_fuel : ∀ (n m : Nat) (l : List UInt8), l.length ≤ n → l.length ≤ m → rs n l = rs m l
  | 0, m, l, hn, _ => by
    have : l = [] := List.eq_nil_of_length_eq_zero (by omega)
    subst this
    rw [rs_nil, rs_nil]
  | n + 1, 0, l, _, hm => by
    have : l = [] := List.eq_nil_of_length_eq_zero (by omega)
    subst this
    rw [rs_nil, rs_nil]
  | n + 1, m + 1, l, hn, hm => by
    by_cases h : l = []
    · subst h; rw [rs_nil, rs_nil]
    · have hw := decodeL_width l
      have hl : 0 < l.length := List.length_pos_iff.2 h
      simp only [rs, if_neg h]
      rw [rs_fuel n m _ (by rw [List.length_drop]; omega) (by rw [List.length_drop]; omega)]
def runes (l : List UInt8) : List Nat := rs l.length l
theorem runes_nil : runes [] = [] := rfl
theorem runes_step (l : List UInt8) (h : l ≠ []) : runes l = (decodeL l).1 :: runes (l.drop (decodeL l).2) := by
  have hw := decodeL_width l
  have hl : 0 < l.length := List.length_pos_iff.2 h
  unfold runes
  obtain ⟨n, hn⟩ : ∃ n, l.length = n + 1 := ⟨l.length - 1, by omega⟩
  conv => lhs; rw [hn]; unfold rs; rw [if_neg h]
  rw [rs_fuel n (l.drop (decodeL l).2).length _ (by rw [List.length_drop]; omega) (Nat.le_refl _)]
theorem runes_length_le : ∀ (n : Nat) (l : List UInt8), l.length ≤ n → (runes l).length ≤ l.length
  | 0, l, hn => by
    have : l = [] := List.eq_nil_of_length_eq_zero (by omega)
    subst this; simp [runes_nil]
  | n + 1, l, hn => by
    by_cases h : l = []
    · subst h; simp [runes_nil]
    · have hw := decodeL_width l
      have hl : 0 < l.length := List.length_pos_iff.2 h
      rw [runes_step l h]
      have ih := runes_length_le n (l.drop (decodeL l).2) (by rw [List.length_drop]; omega)
      rw [List.length_drop] at ih
      simp only [List.length_cons]
      omega
def bad (d : Nat × Nat) : Bool := decide (d.1 = 65533 ∧ d.2 = 1)
theorem first_fin (k : Nat) (s : ByteArray) (x n m : Int) (hn : n = 2 ∧ m = 128 ∨ n = 3 ∧ m = 2048 ∨ n = 4 ∧ m = 65536) :
    scriniumref10_First.l0 (k + 1) s n x n 65533 1 false = some (if x < m then (65533, 1, false) else if x > 1114111 then (65533, 1, false) else if x ≥ 55296 ∧ x < 57344 then (65533, 1, false) else (x, n, true)) := by
  have hl : scriniumref10_least.f n = some m := by
    rcases hn with ⟨rfl, rfl⟩ | ⟨rfl, rfl⟩ | ⟨rfl, rfl⟩ <;> rfl
  unfold scriniumref10_First.l0
  rw [if_neg (Int.lt_irrefl n), hl]
  simp only [Option.bind_some]
  repeat' split
  all_goals first | rfl | omega
theorem first_step (k : Nat) (s : ByteArray) (x n : Int) (i : Nat) (hi : (i : Int) < n) (hs : i < s.size) (hi4 : i < 100) (h0 : 0 ≤ x) (h1 : x < 16777216) :
    scriniumref10_First.l0 (k + 1) s n x i 65533 1 false = if bt s i < 128 ∨ bt s i ≥ 192 then some (65533, 1, false) else scriniumref10_First.l0 k s n (64 * x + bt s i - 128) ((i + 1 : Nat) : Int) 65533 1 false := by
  have hb := bt_range s (i : Int)
  conv => lhs; unfold scriniumref10_First.l0
  rw [if_pos hi, if_pos (by omega), if_pos (by omega)]
  have e1 := Aside0.mk (show wrap64 (bt s i) = bt s i from wrap64_small (by omega) (by omega))
  have e2 := Aside0.mk (show wrap64 (64 * x) = 64 * x from wrap64_small (by omega) (by omega))
  have e3 := Aside0.mk (show wrap64 (64 * x + bt s i) = 64 * x + bt s i from wrap64_small (by omega) (by omega))
  have e4 := Aside0.mk (show wrap64 (64 * x + bt s i - 128) = 64 * x + bt s i - 128 from wrap64_small (by omega) (by omega))
  have e5 : wrap64 ((i : Int) + 1) = ((i + 1 : Nat) : Int) := by rw [wrap64_small (by omega) (by omega)]; omega
  rw [e1.out, e2.out, e3.out, e4.out, e5]
  clear e1 e2 e3 e4 e5
  by_cases c1 : bt s i < 128
  · rw [if_pos c1, if_pos (.inl c1)]
  · rw [if_neg c1]
    by_cases c2 : bt s i ≥ 192
    · rw [if_pos c2, if_pos (.inr c2)]
    · rw [if_neg c2, if_neg (by omega)]
theorem J0 (k : Nat) (s : ByteArray) (a b c : Int) (d : Bool) : scriniumref10_First.j0 (k + 1) s a b c d = if d = true then scriniumref10_First.j1 k s a 2 (wrap64 (a - 192)) else scriniumref10_First.j1 k s a b c := rfl
theorem J1 (k : Nat) (s : ByteArray) (a b c : Int) : scriniumref10_First.j1 (k + 1) s a b c = if a ≥ 224 then scriniumref10_First.j2 k s a b c (decide (a < 240)) else scriniumref10_First.j2 k s a b c false := rfl
theorem J2 (k : Nat) (s : ByteArray) (a b c : Int) (d : Bool) : scriniumref10_First.j2 (k + 1) s a b c d = if d = true then scriniumref10_First.j3 k s a 3 (wrap64 (a - 224)) else scriniumref10_First.j3 k s a b c := rfl
theorem J3 (k : Nat) (s : ByteArray) (a b c : Int) : scriniumref10_First.j3 (k + 1) s a b c = if a ≥ 240 then scriniumref10_First.j4 k s a b c (decide (a < 248)) else scriniumref10_First.j4 k s a b c false := rfl
theorem J4 (k : Nat) (s : ByteArray) (a b c : Int) (d : Bool) : scriniumref10_First.j4 (k + 1) s a b c d = if d = true then scriniumref10_First.j5 k s 4 (wrap64 (a - 240)) else scriniumref10_First.j5 k s b c := rfl
theorem J5 (k : Nat) (s : ByteArray) (n : Nat) (x : Int) (hn : n = 2 ∨ n = 3 ∨ n = 4) : scriniumref10_First.j5 (k + 2) s (n : Int) x = if (s.size : Int) < n then some (65533, 1, false) else scriniumref10_First.l0 k s n x 1 65533 1 false := by
  show (if (n : Int) = 0 then scriniumref10_First.j6 (k + 1) s n x true 65533 1 false else scriniumref10_First.j6 (k + 1) s n x (decide ((s.size : Int) < n)) 65533 1 false) = _
  rw [if_neg (by omega)]
  show (if decide ((s.size : Int) < n) = true then _ else _) = _
  by_cases c : (s.size : Int) < n
  · rw [decide_eq_true c, if_pos rfl, if_pos c]
  · rw [decide_eq_false c, if_neg (by simp), if_neg c]
theorem J5z (k : Nat) (s : ByteArray) (x : Int) : scriniumref10_First.j5 (k + 2) s 0 x = some (65533, 1, false) := rfl
set_option maxHeartbeats 8000000 in
theorem First_is (s : ByteArray) (hs : 0 < s.size) : scriniumref10_First.f 20 s = some (((decodeL (BL s)).1 : Int), ((decodeL (BL s)).2 : Int), !bad (decodeL (BL s))) := by
  rw [decodeL_N]
  have g0 := bt_get s 0; have g1 := bt_get s 1; have g2 := bt_get s 2; have g3 := bt_get s 3
  have k0 := ((BL s).getD 0 0).toNat_lt; have k1 := ((BL s).getD 1 0).toNat_lt; have k2 := ((BL s).getD 2 0).toNat_lt; have k3 := ((BL s).getD 3 0).toNat_lt
  rw [BL_length]
  generalize ((BL s).getD 0 0).toNat = b0 at *
  generalize ((BL s).getD 1 0).toNat = b1 at *
  generalize ((BL s).getD 2 0).toNat = b2 at *
  generalize ((BL s).getD 3 0).toNat = b3 at *
  have g0' : bt s 0 = (b0 : Int) := g0
  have e0 := Aside0.mk (show wrap64 (b0 : Int) = (b0 : Int) from wrap64_small (by omega) (by omega))
  have e1 := Aside0.mk (show wrap64 ((b0 : Int) - 192) = (b0 : Int) - 192 from wrap64_small (by omega) (by omega))
  have e2 := Aside0.mk (show wrap64 ((b0 : Int) - 224) = (b0 : Int) - 224 from wrap64_small (by omega) (by omega))
  have e3 := Aside0.mk (show wrap64 ((b0 : Int) - 240) = (b0 : Int) - 240 from wrap64_small (by omega) (by omega))
  unfold scriniumref10_First.f
  rw [if_pos (by omega), g0', e0.out]
  by_cases a1 : b0 < 128
  · rw [if_pos (by omega)]
    have : decodeN s.size b0 b1 b2 b3 = (b0, 1) := by unfold decodeN; rw [if_pos a1]
    rw [this]
    simp [bad]; omega
  rw [if_neg (by omega)]
  by_cases a2 : b0 < 192
  · have hd : decodeN s.size b0 b1 b2 b3 = (65533, 1) := by
      unfold decodeN; rw [if_neg a1, if_neg (by omega), if_neg (by omega), if_neg (by omega)]
    rw [hd, if_neg (by omega)]
    rw [J0 19, if_neg (show ¬ (false = true) by decide), J1 18, if_neg (show ¬ ((b0 : Int) ≥ 224) by omega), J2 17, if_neg (show ¬ (false = true) by decide), J3 16, if_neg (show ¬ ((b0 : Int) ≥ 240) by omega), J4 15, if_neg (show ¬ (false = true) by decide), J5z 13]
    rfl
  rw [if_pos (by omega)]
  by_cases a3 : b0 < 224
  · rw [decide_eq_true (show (b0 : Int) < 224 by omega)]
    have key : scriniumref10_First.j0 20 s (b0 : Int) 0 0 true = scriniumref10_First.j5 15 s ((2 : Nat) : Int) ((b0 : Int) - 192) := by
      rw [J0 19, if_pos rfl, e1.out, J1 18, if_neg (show ¬ ((b0 : Int) ≥ 224) by omega), J2 17, if_neg (show ¬ (false = true) by decide), J3 16, if_neg (show ¬ ((b0 : Int) ≥ 240) by omega), J4 15, if_neg (show ¬ (false = true) by decide)]
      rfl
    rw [key, J5 13 s 2 _ (.inl rfl)]
    by_cases c1 : s.size < 2
    · rw [if_pos (by omega)]
      have hd : decodeN s.size b0 b1 b2 b3 = (65533, 1) := by
        unfold decodeN; rw [if_neg a1, if_neg (by omega), if_neg (by omega), if_neg (by omega)]
      rw [hd]; rfl
    rw [if_neg (by omega)]
    have st := first_step 12 s ((b0 : Int) - 192) ((2 : Nat) : Int) 1 (by omega) (by omega) (by omega) (by omega) (by omega)
    rw [g1] at st
    refine Eq.trans st ?_
    by_cases c2 : b1 < 128 ∨ b1 ≥ 192
    · rw [if_pos (by omega)]
      have hd : decodeN s.size b0 b1 b2 b3 = (65533, 1) := by
        unfold decodeN; rw [if_neg a1, if_neg (by omega), if_neg (by omega), if_neg (by omega)]
      rw [hd]; rfl
    rw [if_neg (by omega)]
    refine Eq.trans (first_fin 11 s _ 2 128 (.inl ⟨rfl, rfl⟩)) ?_
    have hd : decodeN s.size b0 b1 b2 b3 = if b0 % 32 * 64 + b1 % 64 ≥ 128 then (b0 % 32 * 64 + b1 % 64, 2) else (65533, 1) := by
      unfold decodeN; rw [if_neg a1, if_pos (by omega)]
    rw [hd]
    by_cases c3 : b0 % 32 * 64 + b1 % 64 ≥ 128
    · rw [if_pos c3, if_neg (by omega), if_neg (by omega), if_neg (by omega)]
      congr 1
      refine Prod.ext (by simp only; omega) (Prod.ext rfl ?_)
      simp [bad]
    · rw [if_neg c3, if_pos (by omega)]; rfl
  rw [decide_eq_false (show ¬ (b0 : Int) < 224 by omega)]
  by_cases a4 : b0 < 240
  · have key : scriniumref10_First.j0 20 s (b0 : Int) 0 0 false = scriniumref10_First.j5 15 s ((3 : Nat) : Int) ((b0 : Int) - 224) := by
      rw [J0 19, if_neg (show ¬ (false = true) by decide), J1 18, if_pos (show (b0 : Int) ≥ 224 by omega), decide_eq_true (show (b0 : Int) < 240 by omega), J2 17, if_pos rfl, e2.out, J3 16, if_neg (show ¬ ((b0 : Int) ≥ 240) by omega), J4 15, if_neg (show ¬ (false = true) by decide)]
      rfl
    rw [key, J5 13 s 3 _ (.inr (.inl rfl))]
    by_cases c1 : s.size < 3
    · rw [if_pos (by omega)]
      have hd : decodeN s.size b0 b1 b2 b3 = (65533, 1) := by
        unfold decodeN; rw [if_neg a1, if_neg (by omega), if_neg (by omega), if_neg (by omega)]
      rw [hd]; rfl
    rw [if_neg (by omega)]
    have st := first_step 12 s ((b0 : Int) - 224) ((3 : Nat) : Int) 1 (by omega) (by omega) (by omega) (by omega) (by omega)
    rw [g1] at st
    refine Eq.trans st ?_
    by_cases c2 : b1 < 128 ∨ b1 ≥ 192
    · rw [if_pos (by omega)]
      have hd : decodeN s.size b0 b1 b2 b3 = (65533, 1) := by
        unfold decodeN; rw [if_neg a1, if_neg (by omega), if_neg (by omega), if_neg (by omega)]
      rw [hd]; rfl
    rw [if_neg (by omega)]
    have st := first_step 11 s (64 * ((b0 : Int) - 224) + (b1 : Int) - 128) ((3 : Nat) : Int) 2 (by omega) (by omega) (by omega) (by omega) (by omega)
    rw [g2] at st
    refine Eq.trans st ?_
    by_cases c3 : b2 < 128 ∨ b2 ≥ 192
    · rw [if_pos (by omega)]
      have hd : decodeN s.size b0 b1 b2 b3 = (65533, 1) := by
        unfold decodeN; rw [if_neg a1, if_neg (by omega), if_neg (by omega), if_neg (by omega)]
      rw [hd]; rfl
    rw [if_neg (by omega)]
    refine Eq.trans (first_fin 10 s _ 3 2048 (.inr (.inl ⟨rfl, rfl⟩))) ?_
    have hd : decodeN s.size b0 b1 b2 b3 = if b0 % 16 * 4096 + b1 % 64 * 64 + b2 % 64 ≥ 2048 ∧ (b0 % 16 * 4096 + b1 % 64 * 64 + b2 % 64 < 55296 ∨ (57344 ≤ b0 % 16 * 4096 + b1 % 64 * 64 + b2 % 64 ∧ b0 % 16 * 4096 + b1 % 64 * 64 + b2 % 64 ≤ 1114111))
     then (b0 % 16 * 4096 + b1 % 64 * 64 + b2 % 64, 3) else (65533, 1) := by
      unfold decodeN; rw [if_neg a1, if_neg (by omega), if_pos (by omega)]
    rw [hd]
    have ex : 64 * (64 * ((b0 : Int) - 224) + (b1 : Int) - 128) + (b2 : Int) - 128 = ((b0 % 16 * 4096 + b1 % 64 * 64 + b2 % 64 : Nat) : Int) := by omega
    rw [ex]
    clear ex
    have hxl : b0 % 16 * 4096 + b1 % 64 * 64 + b2 % 64 < 65536 := by omega
    generalize b0 % 16 * 4096 + b1 % 64 * 64 + b2 % 64 = x at hxl ⊢
    by_cases d1 : x < 2048
    · rw [if_pos (by omega), if_neg (by omega)]; rfl
    rw [if_neg (by omega), if_neg (by omega)]
    by_cases d2 : x ≥ 55296 ∧ x < 57344
    · rw [if_pos (by omega), if_neg (by omega)]; rfl
    rw [if_neg (by omega), if_pos (by omega)]
    simp [bad]
  · by_cases a5 : b0 < 248
    · have key : scriniumref10_First.j0 20 s (b0 : Int) 0 0 false = scriniumref10_First.j5 15 s ((4 : Nat) : Int) ((b0 : Int) - 240) := by
        rw [J0 19, if_neg (show ¬ (false = true) by decide), J1 18, if_pos (show (b0 : Int) ≥ 224 by omega), decide_eq_false (show ¬ (b0 : Int) < 240 by omega), J2 17, if_neg (show ¬ (false = true) by decide), J3 16, if_pos (show (b0 : Int) ≥ 240 by omega), decide_eq_true (show (b0 : Int) < 248 by omega), J4 15, if_pos rfl, e3.out]
        rfl
      rw [key, J5 13 s 4 _ (.inr (.inr rfl))]
      by_cases c1 : s.size < 4
      · rw [if_pos (by omega)]
        have hd : decodeN s.size b0 b1 b2 b3 = (65533, 1) := by
          unfold decodeN; rw [if_neg a1, if_neg (by omega), if_neg (by omega), if_neg (by omega)]
        rw [hd]; rfl
      rw [if_neg (by omega)]
      have st := first_step 12 s ((b0 : Int) - 240) ((4 : Nat) : Int) 1 (by omega) (by omega) (by omega) (by omega) (by omega)
      rw [g1] at st
      refine Eq.trans st ?_
      by_cases c2 : b1 < 128 ∨ b1 ≥ 192
      · rw [if_pos (by omega)]
        have hd : decodeN s.size b0 b1 b2 b3 = (65533, 1) := by
          unfold decodeN; rw [if_neg a1, if_neg (by omega), if_neg (by omega), if_neg (by omega)]
        rw [hd]; rfl
      rw [if_neg (by omega)]
      have st := first_step 11 s (64 * ((b0 : Int) - 240) + (b1 : Int) - 128) ((4 : Nat) : Int) 2 (by omega) (by omega) (by omega) (by omega) (by omega)
      rw [g2] at st
      refine Eq.trans st ?_
      by_cases c3 : b2 < 128 ∨ b2 ≥ 192
      · rw [if_pos (by omega)]
        have hd : decodeN s.size b0 b1 b2 b3 = (65533, 1) := by
          unfold decodeN; rw [if_neg a1, if_neg (by omega), if_neg (by omega), if_neg (by omega)]
        rw [hd]; rfl
      rw [if_neg (by omega)]
      have st := first_step 10 s (64 * (64 * ((b0 : Int) - 240) + (b1 : Int) - 128) + (b2 : Int) - 128) ((4 : Nat) : Int) 3 (by omega) (by omega) (by omega) (by omega) (by omega)
      rw [g3] at st
      refine Eq.trans st ?_
      by_cases c4 : b3 < 128 ∨ b3 ≥ 192
      · rw [if_pos (by omega)]
        have hd : decodeN s.size b0 b1 b2 b3 = (65533, 1) := by
          unfold decodeN; rw [if_neg a1, if_neg (by omega), if_neg (by omega), if_neg (by omega)]
        rw [hd]; rfl
      rw [if_neg (by omega)]
      refine Eq.trans (first_fin 9 s _ 4 65536 (.inr (.inr ⟨rfl, rfl⟩))) ?_
      have hd : decodeN s.size b0 b1 b2 b3 = if b0 % 8 * 262144 + b1 % 64 * 4096 + b2 % 64 * 64 + b3 % 64 ≥ 65536 ∧ (b0 % 8 * 262144 + b1 % 64 * 4096 + b2 % 64 * 64 + b3 % 64 < 55296 ∨ (57344 ≤ b0 % 8 * 262144 + b1 % 64 * 4096 + b2 % 64 * 64 + b3 % 64 ∧ b0 % 8 * 262144 + b1 % 64 * 4096 + b2 % 64 * 64 + b3 % 64 ≤ 1114111))
       then (b0 % 8 * 262144 + b1 % 64 * 4096 + b2 % 64 * 64 + b3 % 64, 4) else (65533, 1) := by
        unfold decodeN; rw [if_neg a1, if_neg (by omega), if_neg (by omega), if_pos (by omega)]
      rw [hd]
      have ex : 64 * (64 * (64 * ((b0 : Int) - 240) + (b1 : Int) - 128) + (b2 : Int) - 128) + (b3 : Int) - 128 = ((b0 % 8 * 262144 + b1 % 64 * 4096 + b2 % 64 * 64 + b3 % 64 : Nat) : Int) := by omega
      rw [ex]
      clear ex
      generalize b0 % 8 * 262144 + b1 % 64 * 4096 + b2 % 64 * 64 + b3 % 64 = x
      by_cases d1 : x < 65536
      · rw [if_pos (by omega), if_neg (by omega)]; rfl
      rw [if_neg (by omega)]
      by_cases d2 : x > 1114111
      · rw [if_pos (by omega), if_neg (by omega)]; rfl
      rw [if_neg (by omega), if_neg (by omega), if_pos (by omega)]
      simp [bad]
    · have hd : decodeN s.size b0 b1 b2 b3 = (65533, 1) := by
        unfold decodeN; rw [if_neg a1, if_neg (by omega), if_neg (by omega), if_neg (by omega)]
      rw [hd]
      rw [J0 19, if_neg (show ¬ (false = true) by decide), J1 18, if_pos (show (b0 : Int) ≥ 224 by omega), decide_eq_false (show ¬ (b0 : Int) < 240 by omega), J2 17, if_neg (show ¬ (false = true) by decide), J3 16, if_pos (show (b0 : Int) ≥ 240 by omega), decide_eq_false (show ¬ (b0 : Int) < 248 by omega), J4 15, if_neg (show ¬ (false = true) by decide), J5z 13]
      rfl
end Go.Proofs.YtkabjbkefoipnaaDoor.Nm
