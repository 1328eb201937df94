/- wire: an answer cut off, an answer with a byte more: the plain law. -/
import Derived.Test.YtcffacpdjcfidaaWr10
namespace Go.Proofs.Ytcffacpdjcfidaa.Sb
open Go.RowKit Go.Proofs.YtcffacpdjcfidaaW.PrintWords Go.Proofs.YtcffacpdjcfidaaW.PrintLast Go.Proofs.YtcffacpdjcfidaaW.PrintMore Go.Proofs.Ytcffacpdjcfidaa.PW
set_option linter.unusedVariables false
set_option linter.unusedSimpArgs false

theorem small_cut (p : List Int) (x most : Int) (k : Nat) (h0 : 0 ≤ x) (h1 : x < 4294967296) (hk : k < (smallB x).1.length) : smallR (p ++ (smallB x).1.take k) p.length most = (0, 0, 1) := by
  have key : small0 (p ++ (smallB x).1.take k) p.length = (0, 0, 1) := by
    cases k with
    | zero => unfold small0; rw [if_pos (by simp)]
    | succ k =>
      by_cases c : x < 251
      · have e : (smallB x).1 = [x] := by unfold smallB; rw [if_neg (by omega), if_pos c]
        rw [e] at hk
        simp at hk
      · obtain ⟨m, hm, hm1, hm4, hlt⟩ := lt_wd x h0 h1
        have e : (smallB x).1 = (250 + (m : Int)) :: spr x m := by unfold smallB; rw [if_neg (by omega), if_neg c, hm]; rfl
        rw [e] at hk ⊢
        rw [List.length_cons, spr_length] at hk
        rw [List.take_succ_cons]
        have hl : (p ++ (250 + (m : Int)) :: (spr x m).take k).length = p.length + 1 + k := by simp only [List.length_append, List.length_cons, List.length_take, spr_length]; omega
        unfold small0
        rw [if_neg (by omega), getD_mid, if_neg (by omega), if_neg (by omega), if_pos (by omega)]
  unfold smallR
  rw [key]
  rfl

theorem text_cut (p t : List Int) (most : Int) (k : Nat) (ht : (t.length : Int) ≤ 65536) (hm : (t.length : Int) ≤ most) (hk : k < (textB t).1.length) : textR (p ++ (textB t).1.take k) p.length most = ([], 0, 1) := by
  have e : (textB t).1 = (smallB (t.length : Int)).1 ++ t := by unfold textB; rw [if_neg (by omega)]
  rw [e] at hk ⊢
  rw [List.length_append] at hk
  have em : max most 0 = most := by omega
  by_cases c : k < (smallB (t.length : Int)).1.length
  · rw [List.take_append_of_le_length (by omega)]
    unfold textR
    rw [em, small_cut p (t.length : Int) most k (by omega) (by omega) c]
    rfl
  · rw [List.take_append, List.take_of_length_le (by omega)]
    unfold textR
    rw [em, small_forth p (t.take (k - (smallB (t.length : Int)).1.length)) (t.length : Int) most (by omega) (by omega) hm]
    simp only [ne_eq, not_true_eq_false, if_false]
    rw [if_pos (by simp only [List.length_append, List.length_take]; omega)]

theorem names_forth2 : ∀ (l : List ByteArray) (p r : List Int), (∀ s, s ∈ l → s.size ≤ 64) → namesR (p ++ (namesB l ++ r)) l.length p.length = (l, p.length + (namesB l).length, 0) := by
  intro l
  induction l with
  | nil => intro p r _; simp [namesB, namesR]
  | cons s l ih =>
    intro p r h
    have hs := h s List.mem_cons_self
    have ht := text_forth p (namesB l ++ r) (bytesOf s) 64 (by rw [bytesOf_length]; omega) (by rw [bytesOf_length]; omega)
    have hi := ih (p ++ (textB (bytesOf s)).1) r (fun x hx => h x (List.mem_cons_of_mem _ hx))
    have e : p ++ (textB (bytesOf s)).1 ++ (namesB l ++ r) = p ++ ((textB (bytesOf s)).1 ++ (namesB l ++ r)) := List.append_assoc _ _ _
    rw [e, List.length_append] at hi
    show namesR (p ++ ((textB (bytesOf s)).1 ++ namesB l ++ r)) (l.length + 1) p.length = _
    rw [List.append_assoc]
    simp only [namesR]
    rw [ht]
    simp only [ne_eq, not_true_eq_false, if_false]
    rw [hi, str_bytesOf]
    simp only [namesB, List.length_append, Nat.add_assoc]
theorem names_cut : ∀ (l : List ByteArray) (p : List Int) (k : Nat), (∀ s, s ∈ l → s.size ≤ 64) → k < (namesB l).length → (namesR (p ++ (namesB l).take k) l.length p.length).2.2 = 1 := by
  intro l
  induction l with
  | nil => intro p k _ hk; simp [namesB] at hk
  | cons s l ih =>
    intro p k h hk
    have hs := h s List.mem_cons_self
    simp only [namesB, List.length_append] at hk
    show (namesR (p ++ ((textB (bytesOf s)).1 ++ namesB l).take k) (l.length + 1) p.length).2.2 = 1
    by_cases c : k < (textB (bytesOf s)).1.length
    · rw [List.take_append_of_le_length (by omega)]
      simp only [namesR]
      rw [text_cut p (bytesOf s) 64 k (by rw [bytesOf_length]; omega) (by rw [bytesOf_length]; omega) c]
      rfl
    · rw [List.take_append, List.take_of_length_le (by omega)]
      have ht := text_forth p ((namesB l).take (k - (textB (bytesOf s)).1.length)) (bytesOf s) 64 (by rw [bytesOf_length]; omega) (by rw [bytesOf_length]; omega)
      have hi := ih (p ++ (textB (bytesOf s)).1) (k - (textB (bytesOf s)).1.length) (fun x hx => h x (List.mem_cons_of_mem _ hx)) (by omega)
      rw [List.append_assoc, List.length_append] at hi
      simp only [namesR]
      rw [ht]
      simp only [ne_eq, not_true_eq_false, if_false]
      exact hi

theorem getN_cut {num code : Int} {bd : List Int} {l : List ByteArray} (h : okR num code bd.length l = true) (k : Nat) (hk : k < (ansB num code bd l).1.length) : (getN ((ansB num code bd l).1.take k)).2.2.2.2 = 1 := by
  have hK2 : okN l = true ∧ (0 ≤ code ∧ code ≤ 3 ∧ 0 ≤ num ∧ num ≤ 2147483647 ∧ bd.length ≤ 60000 ∧ l.length ≤ 1000) := by
    have h := h
    unfold okR at h
    rw [Bool.and_eq_true] at h
    exact ⟨h.1, of_decide_eq_true h.2⟩
  obtain ⟨hN, hp⟩ := hK2
  have hM := okN_mem hN
  have hs : (ansB num code bd l).1 = ([code] ++ spr num 4) ++ ((textB bd).1 ++ ((smallB l.length).1 ++ namesB l)) := by unfold ansB; rw [h, numB1 code (by omega) (by omega), numB4 num (by omega)]; simp
  rw [hs] at hk ⊢
  have e5 : ([code] ++ spr num 4).length = 5 := by simp [spr_length]
  generalize [code] ++ spr num 4 = p at *
  by_cases c1 : k < 5
  · unfold getN
    rw [if_pos (by rw [List.length_take]; omega)]
  have hlen : ¬ ((p ++ ((textB bd).1 ++ ((smallB l.length).1 ++ namesB l))).take k).length < 5 := by rw [List.length_take]; omega
  unfold getN
  rw [if_neg hlen]
  rw [List.take_append, List.take_of_length_le (l := p) (by omega), e5]
  simp only [List.length_append] at hk
  by_cases c2 : k - 5 < (textB bd).1.length
  · have t := text_cut p bd 60000 (k - 5) (by omega) (by omega) c2
    rw [e5] at t
    rw [List.take_append_of_le_length (by omega), t]
    simp
  · rw [List.take_append, List.take_of_length_le (l := (textB bd).1) (by omega)]
    have t1 := text_forth p (((smallB l.length).1 ++ namesB l).take (k - 5 - (textB bd).1.length)) bd 60000 (by omega) (by omega)
    rw [e5] at t1
    rw [t1]
    simp only [ne_eq, not_true_eq_false, if_false]
    by_cases c3 : k - 5 - (textB bd).1.length < (smallB (l.length : Int)).1.length
    · have t2 := small_cut (p ++ (textB bd).1) (l.length : Int) 1000 (k - 5 - (textB bd).1.length) (by omega) (by omega) c3
      rw [List.length_append, e5, List.append_assoc] at t2
      rw [List.take_append_of_le_length (by omega), t2]
      simp
    · rw [List.take_append, List.take_of_length_le (l := (smallB (l.length : Int)).1) (by omega)]
      have t2 := small_forth (p ++ (textB bd).1) ((namesB l).take (k - 5 - (textB bd).1.length - (smallB (l.length : Int)).1.length)) (l.length : Int) 1000 (by omega) (by omega) (by omega)
      rw [List.length_append, e5, List.append_assoc] at t2
      rw [t2]
      simp only [ne_eq, not_true_eq_false, if_false, Int.toNat_natCast]
      have t3 := names_cut l (p ++ (textB bd).1 ++ (smallB (l.length : Int)).1) (k - 5 - (textB bd).1.length - (smallB (l.length : Int)).1.length) hM (by omega)
      rw [List.length_append, List.length_append, e5, List.append_assoc, List.append_assoc] at t3
      rw [t3]
      simp

theorem getN_more {num code : Int} {bd : List Int} {l : List ByteArray} (h : okR num code bd.length l = true) (b : Int) : (getN ((ansB num code bd l).1 ++ [b])).2.2.2.2 = 2 := by
  have hK2 : okN l = true ∧ (0 ≤ code ∧ code ≤ 3 ∧ 0 ≤ num ∧ num ≤ 2147483647 ∧ bd.length ≤ 60000 ∧ l.length ≤ 1000) := by
    have h := h
    unfold okR at h
    rw [Bool.and_eq_true] at h
    exact ⟨h.1, of_decide_eq_true h.2⟩
  obtain ⟨hN, hp⟩ := hK2
  have hM := okN_mem hN
  have hs : (ansB num code bd l).1 ++ [b] = ([code] ++ spr num 4) ++ ((textB bd).1 ++ ((smallB l.length).1 ++ (namesB l ++ [b]))) := by unfold ansB; rw [h, numB1 code (by omega) (by omega), numB4 num (by omega)]; simp
  rw [hs]
  have e5 : ([code] ++ spr num 4).length = 5 := by simp [spr_length]
  generalize [code] ++ spr num 4 = p at *
  have kl : (p ++ ((textB bd).1 ++ ((smallB l.length).1 ++ (namesB l ++ [b])))).length = 5 + (textB bd).1.length + (smallB (l.length : Int)).1.length + (namesB l).length + 1 := by simp only [List.length_append, List.length_singleton, e5]; omega
  have t1 := text_forth p ((smallB l.length).1 ++ (namesB l ++ [b])) bd 60000 (by omega) (by omega)
  have t2 := small_forth (p ++ (textB bd).1) (namesB l ++ [b]) (l.length : Int) 1000 (by omega) (by omega) (by omega)
  have t3 := names_forth2 l (p ++ (textB bd).1 ++ (smallB (l.length : Int)).1) [b] hM
  rw [e5] at t1
  rw [List.length_append, e5, List.append_assoc] at t2
  rw [List.length_append, List.length_append, e5, List.append_assoc, List.append_assoc] at t3
  generalize p ++ ((textB bd).1 ++ ((smallB l.length).1 ++ (namesB l ++ [b]))) = q at *
  unfold getN
  rw [if_neg (by omega), t1]
  simp only [ne_eq, not_true_eq_false, if_false]
  rw [t2]
  simp only [ne_eq, not_true_eq_false, if_false, Int.toNat_natCast]
  rw [t3]
  simp only [ne_eq, not_true_eq_false, if_false]
  rw [if_pos (by omega)]

end Go.Proofs.Ytcffacpdjcfidaa.Sb
