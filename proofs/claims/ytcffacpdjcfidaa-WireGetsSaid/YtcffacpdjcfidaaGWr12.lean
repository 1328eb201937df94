import Derived.Test.YtcffacpdjcfidaaGWr11
import Derived.Test.YtcffacpdjcfidaaGPWy5
import Derived.Test.YtcffacpdjcfidaaGPWy6
namespace Go.Proofs.Ytcffacpdjcfidaa.Sb
open Go.RowKit Go.Proofs.YtcffacpdjcfidaaW.PrintWords Go.Proofs.YtcffacpdjcfidaaW.PrintLast Go.Proofs.YtcffacpdjcfidaaW.PrintMore Go.Proofs.Ytcffacpdjcfidaa.PW
set_option linter.unusedVariables false
set_option linter.unusedSimpArgs false
theorem le_up {α : Type} {F : Nat → Option α} (h : ∀ k, LeO (F k) (F (k + 1))) {a b : Nat} (hab : a ≤ b) {r : α} (e : F a = some r) : F b = some r := by
  obtain ⟨d, rfl⟩ : ∃ d, b = a + d := ⟨b - a, by omega⟩
  clear hab
  induction d with
  | zero => exact e
  | succ d ih => exact h _ _ ih
theorem textR_bd (s : List Int) (hs : Bytes s) (at_ : Nat) (hat : at_ ≤ s.length) (most : Int) : at_ + (textR s at_ most).2.1 ≤ s.length ∧ ((textR s at_ most).2.2 = 0 → at_ < at_ + (textR s at_ most).2.1 ∨ True) ∧ Bytes (textR s at_ most).1 ∧ (textR s at_ most).1.length ≤ s.length := by
  refine ⟨?_, fun _ => .inr trivial, ?_, textR_len s at_ most⟩
  · obtain ⟨k1, k2, k3, k4, k5, k6⟩ := smallR_bd s hs at_ hat (max most 0)
    unfold textR
    by_cases c1 : (smallR s at_ (max most 0)).2.2 ≠ 0
    · rw [if_pos c1]; simp only; omega
    · rw [if_neg c1]
      by_cases c2 : (s.length : Int) - ((at_ + (smallR s at_ (max most 0)).2.1 : Nat) : Int) < (smallR s at_ (max most 0)).1
      · rw [if_pos c2]; simp only; omega
      · rw [if_neg c2]; simp only; omega
  · unfold textR
    split
    · intro x hx; simp at hx
    · split
      · intro x hx; simp at hx
      · intro x hx; exact hs x (List.mem_of_mem_drop (List.mem_of_mem_take hx))
theorem refGetA_is (l : List Int) (hs : Bytes l) (hl : l.length ≤ 4000) : scriniumref16_GetAsk.f 10 l = some ((getA l).1, (getA l).2.1, strOfNums (getA l).2.2.1, (getA l).2.2.2.1, (getA l).2.2.2.2) := by
  unfold scriniumref16_GetAsk.f getA
  by_cases h5 : l.length < 5
  · rw [if_pos (by omega), if_pos h5]; rfl
  rw [if_neg (by omega), if_pos (by omega), if_neg h5]
  have hN : scriniumref01_TakeNum.f 10 l 1 4 = some (be ((l.drop 1).take 4), [], 4, 0) := by
    have h := TakeNum_is l hs (by omega) 1 (by omega) ((4 : Nat) : Int)
    rw [numR_full l 1 4 (by omega) (by omega) (by omega)] at h
    exact h
  have hT : scriniumref01_TakeText.f 10 l 5 64 = _ := TakeText_is l hs (by omega) 5 (by omega) 64 (by omega)
  obtain ⟨hb1, -, hby, hln⟩ := textR_bd l hs 5 (by omega) 64
  obtain ⟨hbe0, hbe1⟩ := be_four l hs 1 (by omega)
  obtain ⟨hg0, hg1⟩ := hs.get 0 (by omega)
  rw [hN]; simp only [Option.bind_some]; rw [hT]; simp only [Option.bind_some]
  clear hN hT
  have er : rd l 0 = l.getD 0 0 := rfl
  rw [er, wrap64_small (x := l.getD 0 0) (by omega) (by omega), wrap64_small (x := be ((l.drop 1).take 4)) (by omega) (by omega)]
  generalize textR l 5 64 = q at hb1 hby hln ⊢
  obtain ⟨t, n, e⟩ := q
  simp only at hb1 hby hln ⊢
  by_cases he : e = 0
  rotate_left
  · rw [if_neg he, if_pos he]; rfl
  rw [if_pos he, if_neg (show ¬ (e ≠ 0) by simp [he])]
  have ew : wrap64 (5 + (n : Int)) = ((5 + n : Nat) : Int) := by rw [wrap64_small (by omega) (by omega)]; omega
  rw [ew, TakeText_is l hs (by omega) (5 + n) hb1 60000 (by omega)]; simp only [Option.bind_some]
  clear ew
  obtain ⟨hb2, -, hby2, hln2⟩ := textR_bd l hs (5 + n) hb1 60000
  generalize textR l (5 + n) 60000 = q at hb2 hby2 hln2 ⊢
  obtain ⟨t2, n2, e2⟩ := q
  simp only at hb2 hby2 hln2 ⊢
  by_cases he2 : e2 = 0
  rotate_left
  · rw [if_neg he2, if_pos he2]; rfl
  rw [if_pos he2, if_neg (show ¬ (e2 ≠ 0) by simp [he2])]
  have ew : wrap64 (((5 + n : Nat) : Int) + (n2 : Int)) = ((5 + n + n2 : Nat) : Int) := by rw [wrap64_small (by omega) (by omega)]; omega
  rw [ew]
  clear ew
  by_cases hle : 5 + n + n2 < l.length
  · rw [if_pos (show ((5 + n + n2 : Nat) : Int) < (l.length : Int) by omega), if_pos (show l.length ≠ 5 + n + n2 by omega)]; rfl
  rw [if_neg (show ¬ ((5 + n + n2 : Nat) : Int) < (l.length : Int) by omega), if_neg (show ¬ (l.length ≠ 5 + n + n2) by omega), refRight_is, strOfNums_size]
  simp only [Option.bind_some]
  cases okA (l.getD 0 0) (be ((l.drop 1).take 4)) t.length t2.length <;> rfl
theorem refN_loop (l : List Int) (hs : Bytes l) (hl : l.length ≤ 4000) (num code : Int) (bd : List Int) (x : Int) (hx0 : 0 ≤ x) (hx : x ≤ 1000) (y : List Int) (z u : Int) : ∀ (d k i at_ : Nat) (acc : List ByteArray), (i : Int) + d = x → d + 1020 ≤ k → at_ ≤ l.length → acc.length = i →
    scriniumref16_GetAnswer.l0 k l at_ i num code bd acc x y z u = some (if (namesR l d at_).2.2 ≠ 0 then (0, 0, [], [], (namesR l d at_).2.2) else if l.length ≠ (namesR l d at_).2.1 then (0, 0, [], [], 2) else if okR num code bd.length (acc ++ (namesR l d at_).1) = false then (0, 0, [], [], 14) else (num, code, bd, acc ++ (namesR l d at_).1, 0)) := by
  intro d
  induction d with
  | zero =>
    intro k i at_ acc hi hk hat hacc
    obtain ⟨k, rfl⟩ : ∃ j, k = j + 1 := ⟨k - 1, by omega⟩
    unfold scriniumref16_GetAnswer.l0
    rw [wrap64_small hx0 (by omega), if_neg (show ¬ ((i : Int) < x) by omega)]
    simp only [namesR, List.append_nil]
    rw [if_neg (show ¬ ((0 : Int) ≠ 0) by simp)]
    by_cases hle : at_ < l.length
    · rw [if_pos (show ((at_ : Nat) : Int) < (l.length : Int) by omega), if_pos (show l.length ≠ at_ by omega)]
    rw [if_neg (show ¬ ((at_ : Nat) : Int) < (l.length : Int) by omega), if_neg (show ¬ (l.length ≠ at_) by omega)]
    have hR := le_up (F := fun k => scriniumref16_RightAnswer.f k num code bd acc) (fun k => scriniumref16_RightAnswer.mono num code bd acc k) (a := acc.length + 1) (b := k) (by omega) (refRightN_is num code bd acc (by omega))
    rw [hR]
    simp only [Option.bind_some]
    cases okR num code bd.length acc <;> rfl
  | succ d ih =>
    intro k i at_ acc hi hk hat hacc
    obtain ⟨k, rfl⟩ : ∃ j, k = j + 1 := ⟨k - 1, by omega⟩
    unfold scriniumref16_GetAnswer.l0
    rw [wrap64_small hx0 (by omega), if_pos (show (i : Int) < x by omega)]
    have hT := le_up (F := fun k => scriniumref01_TakeText.f k l at_ 64) (fun k => scriniumref01_TakeText.mono l at_ 64 k) (a := 10) (b := k) (by omega) (TakeText_is l hs (by omega) at_ hat 64 (by omega))
    rw [hT]
    simp only [Option.bind_some, namesR]
    clear hT
    obtain ⟨hb1, -, hby, hln⟩ := textR_bd l hs at_ hat 64
    obtain ⟨t, n, e, hq⟩ : ∃ t n e, textR l at_ 64 = (t, n, e) := ⟨_, _, _, rfl⟩
    simp only [hq] at hb1 hby hln ⊢
    clear hq
    by_cases he : e = 0
    rotate_left
    · rw [if_neg he, if_pos he]; simp only; rw [if_pos he]
    rw [if_pos he, if_neg (show ¬ (e ≠ 0) by simp [he]), if_pos (show acc.length < 8796093022208 by omega)]
    have ew : wrap64 ((at_ : Int) + (n : Int)) = ((at_ + n : Nat) : Int) := by rw [wrap64_small (by omega) (by omega)]; omega
    have ei : wrap64 ((i : Int) + 1) = ((i + 1 : Nat) : Int) := by rw [wrap64_small (by omega) (by omega)]; omega
    rw [ew, ei, ih k (i + 1) (at_ + n) (acc ++ [strOfNums t]) (by omega) (by omega) hb1 (by simp [hacc])]
    simp only [List.append_assoc, List.singleton_append]
theorem refGetN_is (l : List Int) (hs : Bytes l) (hl : l.length ≤ 4000) : scriniumref16_GetAnswer.f 3000 l = some (getN l) := by
  unfold scriniumref16_GetAnswer.f getN
  by_cases h5 : l.length < 5
  · rw [if_pos (by omega), if_pos h5]
  rw [if_neg (by omega), if_pos (by omega), if_neg h5]
  have hN : scriniumref01_TakeNum.f 10 l 1 4 = some (be ((l.drop 1).take 4), [], 4, 0) := by
    have h := TakeNum_is l hs (by omega) 1 (by omega) ((4 : Nat) : Int)
    rw [numR_full l 1 4 (by omega) (by omega) (by omega)] at h
    exact h
  have hN' := le_up (F := fun k => scriniumref01_TakeNum.f k l 1 4) (fun k => scriniumref01_TakeNum.mono l 1 4 k) (a := 10) (b := 3000) (by omega) hN
  have hT : scriniumref01_TakeText.f 10 l 5 60000 = _ := TakeText_is l hs (by omega) 5 (by omega) 60000 (by omega)
  have hT' := le_up (F := fun k => scriniumref01_TakeText.f k l 5 60000) (fun k => scriniumref01_TakeText.mono l 5 60000 k) (a := 10) (b := 3000) (by omega) hT
  obtain ⟨hb1, -, hby, hln⟩ := textR_bd l hs 5 (by omega) 60000
  obtain ⟨hbe0, hbe1⟩ := be_four l hs 1 (by omega)
  obtain ⟨hg0, hg1⟩ := hs.get 0 (by omega)
  rw [hN']; simp only [Option.bind_some]; rw [hT']; simp only [Option.bind_some]
  clear hN hT hN' hT'
  have er : rd l 0 = l.getD 0 0 := rfl
  rw [er, wrap64_small (x := l.getD 0 0) (by omega) (by omega), wrap64_small (x := be ((l.drop 1).take 4)) (by omega) (by omega)]
  generalize textR l 5 60000 = q at hb1 hby hln ⊢
  obtain ⟨t, n, e⟩ := q
  simp only at hb1 hby hln ⊢
  by_cases he : e = 0
  rotate_left
  · rw [if_neg he, if_pos he]
  rw [if_pos he, if_neg (show ¬ (e ≠ 0) by simp [he])]
  have ew : wrap64 (5 + (n : Int)) = ((5 + n : Nat) : Int) := by rw [wrap64_small (by omega) (by omega)]; omega
  have hS := le_up (F := fun k => scriniumref01_TakeSmall.f k l ((5 + n : Nat) : Int) 1000) (fun k => scriniumref01_TakeSmall.mono l _ 1000 k) (a := 9) (b := 3000) (by omega) (TakeSmall_is l hs (by omega) (5 + n) hb1 1000)
  rw [ew, hS]; simp only [Option.bind_some]
  clear ew hS
  obtain ⟨k1, k2, k3, k4, k5, k6⟩ := smallR_bd l hs (5 + n) hb1 1000
  generalize smallR l (5 + n) 1000 = q at k1 k2 k3 k4 k5 k6 ⊢
  obtain ⟨x, n2, e2⟩ := q
  simp only at k1 k2 k3 k4 k5 k6 ⊢
  by_cases he2 : e2 = 0
  rotate_left
  · rw [if_neg he2, if_pos he2]
  rw [if_pos he2, if_neg (show ¬ (e2 ≠ 0) by simp [he2])]
  have hx := k3 he2
  have ew : wrap64 (((5 + n : Nat) : Int) + (n2 : Int)) = ((5 + n + n2 : Nat) : Int) := by rw [wrap64_small (by omega) (by omega)]; omega
  rw [ew]
  have h := refN_loop l hs hl (be ((l.drop 1).take 4)) (l.getD 0 0) t x k1 hx [] (n2 : Int) e2 x.toNat 3000 0 (5 + n + n2) [] (by omega) (by omega) k4 rfl
  rw [List.nil_append] at h
  exact h
theorem text_back (s : List Int) (hs : Bytes s) (at_ : Nat) (hat : at_ ≤ s.length) (most : Int) (hm : most ≤ 65536) (t : List Int) (n : Nat) (h : textR s at_ most = (t, n, 0)) : (textB t).1 = (s.drop at_).take n ∧ at_ + n ≤ s.length ∧ Bytes t := by
  have hbd := textR_bd s hs at_ hat most
  rw [h] at hbd
  simp only at hbd
  refine ⟨?_, hbd.1, hbd.2.2.1⟩
  obtain ⟨k1, k2, k3, k4, k5, k6⟩ := smallR_bd s hs at_ hat (max most 0)
  have hb := fun x m => small_back s hs at_ hat (max most 0) x m
  unfold textR at h
  generalize smallR s at_ (max most 0) = q at k1 k2 k3 k4 k5 k6 hb h
  obtain ⟨x, m, e⟩ := q
  simp only at k1 k2 k3 k4 k5 k6 hb h
  by_cases he : e = 0
  rotate_left
  · rw [if_pos he] at h; simp only [Prod.mk.injEq] at h; exact absurd h.2.2 he
  rw [if_neg (show ¬ (e ≠ 0) by simp [he])] at h
  subst he
  by_cases hlt : (s.length : Int) - ((at_ + m : Nat) : Int) < x
  · rw [if_pos hlt] at h; simp at h
  rw [if_neg hlt] at h
  simp only [Prod.mk.injEq] at h
  obtain ⟨rfl, rfl, -⟩ := h
  have hx := k3 rfl
  have hlen : ((s.drop (at_ + m)).take x.toNat).length = x.toNat := by rw [List.length_take, List.length_drop]; omega
  have hsm := hb x m rfl
  unfold textB
  rw [hlen, if_neg (by omega), show ((x.toNat : Nat) : Int) = x by omega, hsm]
  simp only
  rw [← List.drop_drop, List.take_add, List.drop_drop]
theorem bytesOf_str (t : List Int) (ht : Bytes t) : bytesOf (strOfNums t) = t := by
  unfold bytesOf strOfNums
  simp only [List.map_map]
  conv => rhs; rw [← List.map_id t]
  refine List.map_congr_left fun x hx => ?_
  obtain ⟨h0, h1⟩ := ht x hx
  simp only [Function.comp, id]
  rw [UInt8.toNat_ofNat']
  omega
theorem names_back (s : List Int) (hs : Bytes s) : ∀ (k at_ : Nat) (l : List ByteArray) (b : Nat), at_ ≤ s.length → namesR s k at_ = (l, b, 0) → at_ ≤ b ∧ b ≤ s.length ∧ l.length = k ∧ namesB l = (s.drop at_).take (b - at_)
  | 0, at_, l, b, hat, h => by
    simp only [namesR, Prod.mk.injEq] at h
    obtain ⟨rfl, rfl, -⟩ := h
    exact ⟨Nat.le_refl _, hat, rfl, by simp [namesB]⟩
  | k + 1, at_, l, b, hat, h => by
    unfold namesR at h
    have htb := text_back s hs at_ hat 64 (by omega)
    generalize textR s at_ 64 = q at htb h
    obtain ⟨t, n, e⟩ := q
    simp only at htb h
    by_cases he : e = 0
    rotate_left
    · rw [if_pos he] at h; simp only [Prod.mk.injEq] at h; exact absurd h.2.2 he
    rw [if_neg (show ¬ (e ≠ 0) by simp [he])] at h
    subst he
    obtain ⟨h1, h2, h3⟩ := htb t n rfl
    have ih := names_back s hs k (at_ + n)
    generalize namesR s k (at_ + n) = q at ih h
    obtain ⟨l', b', e'⟩ := q
    simp only [Prod.mk.injEq] at h
    obtain ⟨rfl, rfl, rfl⟩ := h
    obtain ⟨i1, i2, i3, i4⟩ := ih l' b' h2 rfl
    refine ⟨by omega, i2, by simp [i3], ?_⟩
    simp only [namesB]
    rw [bytesOf_str t h3, h1, i4, show b' - at_ = n + (b' - (at_ + n)) by omega, List.take_add, List.drop_drop]
theorem head_five (l : List Int) (hs : Bytes l) (h5 : 5 ≤ l.length) : (numB (l.getD 0 0) 1).1 ++ (numB (be ((l.drop 1).take 4)) 4).1 = l.take 5 := by
  obtain ⟨a, b, c, d, e, l, rfl⟩ : ∃ a b c d e l', l = a :: b :: c :: d :: e :: l' := by
    match l, h5 with
    | a :: b :: c :: d :: e :: l', _ => exact ⟨a, b, c, d, e, l', rfl⟩
  have h4 := spr_be 4 [b, c, d, e] rfl (fun x hx => hs x (by simp at hx ⊢; omega))
  have h1 := spr_be 1 [a] rfl (fun x hx => hs x (by simp at hx ⊢; omega))
  obtain ⟨hbe0, hbe1⟩ := be_four (a :: b :: c :: d :: e :: l) hs 1 (by simp)
  have ha := hs a (by simp)
  have hb1 : be [a] = a := by simp [be, beF]
  have hd : ((a :: b :: c :: d :: e :: l).drop 1).take 4 = [b, c, d, e] := rfl
  rw [hd] at hbe0 hbe1 ⊢
  rw [hb1] at h1
  have w1 : wd a ≤ 1 := by unfold wd; rw [if_pos (by omega)]; exact Int.le_refl 1
  have w4 := wd_small _ hbe1
  unfold numB
  show (if (1 : Int) < 1 ∨ (1 : Int) > 8 then (([], 14) : List Int × Int) else if wd a > 1 then ([], 3) else (spr a (Int.toNat 1), 0)).1 ++ _ = _
  rw [if_neg (by omega), if_neg (by omega), if_neg (by omega), if_neg (by omega)]
  show spr a 1 ++ spr (be [b, c, d, e]) 4 = [a, b, c, d, e]
  rw [h1, h4]
  rfl
theorem getA_back (l : List Int) (hs : Bytes l) (hl : l.length ≤ 4000) (h : (getA l).2.2.2.2 = 0) : askB (getA l).1 (getA l).2.1 (strOfNums (getA l).2.2.1) (getA l).2.2.2.1 = (l, 0) := by
  unfold getA at h ⊢
  by_cases h5 : l.length < 5
  · rw [if_pos h5] at h; simp at h
  rw [if_neg h5] at h ⊢
  have t1 := fun t n => text_back l hs 5 (by omega) 64 (by omega) t n
  generalize textR l 5 64 = q at t1 h ⊢
  obtain ⟨t, n, e⟩ := q
  simp only at t1 h ⊢
  by_cases he : e = 0
  rotate_left
  · rw [if_pos he] at h; exact absurd h he
  rw [if_neg (show ¬ (e ≠ 0) by simp [he])] at h ⊢
  subst he
  obtain ⟨a1, a2, a3⟩ := t1 t n rfl
  have t2 := fun t' n' => text_back l hs (5 + n) a2 60000 (by omega) t' n'
  generalize textR l (5 + n) 60000 = q at t2 h ⊢
  obtain ⟨t', n', e⟩ := q
  simp only at t2 h ⊢
  by_cases he : e = 0
  rotate_left
  · rw [if_pos he] at h; exact absurd h he
  rw [if_neg (show ¬ (e ≠ 0) by simp [he])] at h ⊢
  subst he
  obtain ⟨b1, b2, b3⟩ := t2 t' n' rfl
  by_cases hle : l.length ≠ 5 + n + n'
  · rw [if_pos hle] at h; simp at h
  rw [if_neg hle] at h ⊢
  cases hok : okA (l.getD 0 0) (be ((l.drop 1).take 4)) t.length t'.length with
  | false => rw [hok, if_pos rfl] at h; simp at h
  | true =>
    rw [if_neg (by simp)]
    unfold askB
    simp only
    rw [strOfNums_size, hok, if_pos rfl, bytesOf_str t a3, head_five l hs (by omega), a1, b1]
    congr 1
    rw [← List.take_add, ← List.take_add]
    exact List.take_of_length_le (by omega)
theorem getN_back (l : List Int) (hs : Bytes l) (hl : l.length ≤ 4000) (h : (getN l).2.2.2.2 = 0) : ansB (getN l).1 (getN l).2.1 (getN l).2.2.1 (getN l).2.2.2.1 = (l, 0) := by
  unfold getN at h ⊢
  by_cases h5 : l.length < 5
  · rw [if_pos h5] at h; simp at h
  rw [if_neg h5] at h ⊢
  have t1 := fun t n => text_back l hs 5 (by omega) 60000 (by omega) t n
  generalize textR l 5 60000 = q at t1 h ⊢
  obtain ⟨t, n, e⟩ := q
  simp only at t1 h ⊢
  by_cases he : e = 0
  rotate_left
  · rw [if_pos he] at h; exact absurd h he
  rw [if_neg (show ¬ (e ≠ 0) by simp [he])] at h ⊢
  subst he
  obtain ⟨a1, a2, a3⟩ := t1 t n rfl
  obtain ⟨k1, k2, k3, k4, k5, k6⟩ := smallR_bd l hs (5 + n) a2 1000
  have t2 := fun x m => small_back l hs (5 + n) a2 1000 x m
  generalize smallR l (5 + n) 1000 = q at t2 k1 k2 k3 k4 k5 k6 h ⊢
  obtain ⟨x, m, e⟩ := q
  simp only at t2 k1 k2 k3 k4 k5 k6 h ⊢
  by_cases he : e = 0
  rotate_left
  · rw [if_pos he] at h; exact absurd h he
  rw [if_neg (show ¬ (e ≠ 0) by simp [he])] at h ⊢
  subst he
  have b1 := t2 x m rfl
  have t3 := fun l' b => names_back l hs x.toNat (5 + n + m) l' b k4
  generalize namesR l x.toNat (5 + n + m) = q at t3 h ⊢
  obtain ⟨ns, b, e⟩ := q
  simp only at t3 h ⊢
  by_cases he : e = 0
  rotate_left
  · rw [if_pos he] at h; exact absurd h he
  rw [if_neg (show ¬ (e ≠ 0) by simp [he])] at h ⊢
  subst he
  obtain ⟨c1, c2, c3, c4⟩ := t3 ns b rfl
  by_cases hle : l.length ≠ b
  · rw [if_pos hle] at h; simp at h
  rw [if_neg hle] at h ⊢
  cases hok : okR (be ((l.drop 1).take 4)) (l.getD 0 0) t.length ns with
  | false => rw [hok, if_pos rfl] at h; simp at h
  | true =>
    rw [if_neg (by simp)]
    unfold ansB
    simp only
    rw [hok, if_pos rfl, head_five l hs (by omega), a1, c3, show ((x.toNat : Nat) : Int) = x by omega, b1, c4]
    congr 1
    simp only
    rw [← List.take_add, ← List.take_add, ← List.take_add]
    exact List.take_of_length_le (by omega)
theorem getA_len (l : List Int) : (getA l).2.2.1.length ≤ l.length ∧ (getA l).2.2.2.1.length ≤ l.length := by
  have h1 := textR_len l 5 64
  have h2 := textR_len l (5 + (textR l 5 64).2.1) 60000
  unfold getA
  repeat' split
  all_goals first | exact ⟨Nat.zero_le _, Nat.zero_le _⟩ | exact ⟨h1, h2⟩
theorem namesR_len (l : List Int) : ∀ (k at_ : Nat), (namesR l k at_).1.length ≤ k
  | 0, at_ => Nat.zero_le _
  | k + 1, at_ => by
    unfold namesR
    split
    · exact Nat.zero_le _
    · simp only [List.length_cons]
      exact Nat.succ_le_succ (namesR_len l k _)
theorem getN_len (l : List Int) (hs : Bytes l) (hl : l.length ≤ 4000) : (getN l).2.2.1.length ≤ l.length ∧ (getN l).2.2.2.1.length ≤ 4294967296 := by
  have h1 := textR_len l 5 60000
  by_cases h5 : l.length < 5
  · unfold getN; rw [if_pos h5]; exact ⟨Nat.zero_le _, Nat.zero_le _⟩
  obtain ⟨hb1, -, -, -⟩ := textR_bd l hs 5 (by omega) 60000
  obtain ⟨k1, k2, -, -, -, -⟩ := smallR_bd l hs (5 + (textR l 5 60000).2.1) hb1 1000
  have h2 := namesR_len l (smallR l (5 + (textR l 5 60000).2.1) 1000).1.toNat (5 + (textR l 5 60000).2.1 + (smallR l (5 + (textR l 5 60000).2.1) 1000).2.1)
  have h3 : (smallR l (5 + (textR l 5 60000).2.1) 1000).1.toNat ≤ 4294967296 := by omega
  unfold getN
  repeat' split
  all_goals first | exact ⟨Nat.zero_le _, Nat.zero_le _⟩ | exact ⟨h1, Nat.le_trans h2 h3⟩
end Go.Proofs.Ytcffacpdjcfidaa.Sb
