import Derived.Test.YtkabjbkefoipnaaDoorGNm1
namespace Go.Proofs.YtkabjbkefoipnaaDoor.Nm
open Go.Lib Go.RowKit Go.Proofs.YtkabjbkefoipnaaDoorW.PrintWords Go.Proofs.YtkabjbkefoipnaaDoorW.PrintLast Go.Proofs.YtkabjbkefoipnaaDoorW.PrintMore Go.Proofs.YtkabjbkefoipnaaDoor.PM
set_option linter.unusedVariables false
set_option linter.unusedSimpArgs false
def rr : Nat → List UInt8 → List S75
  | 0, _ => []
  | n + 1, l => if l = [] then [] else (⟨((decodeL l).1 : Int), ((decodeL l).2 : Int), !bad (decodeL l)⟩ : S75) :: rr n (l.drop (decodeL l).2)
theorem bad_65533 (d : Nat × Nat) (h : bad d = true) : d.1 = 65533 := (of_decide_eq_true h).1
theorem rr_f0 : ∀ (n : Nat) (l : List UInt8), (rr n l).map (fun x => x.f0) = (rs n l).map (fun x : Nat => (x : Int))
  | 0, _ => rfl
  | n + 1, l => by
    unfold rr rs
    split
    · rfl
    · simp only [List.map_cons, rr_f0 n]
theorem rr_len (n : Nat) (l : List UInt8) : (rr n l).length = (rs n l).length := by
  have := congrArg List.length (rr_f0 n l)
  simpa using this
theorem All_loop (s : ByteArray) (hm : s.size ≤ 4000000) : ∀ (n k p : Nat) (acc : List S75), s.size ≤ p + n → n + 22 ≤ k → p ≤ s.size → acc.length ≤ p →
    scriniumref10_All.l0 k s acc p = some (acc ++ rr n ((BL s).drop p)) := by
  intro n
  induction n with
  | zero =>
    intro k p acc hn hk hp ha
    obtain ⟨k, rfl⟩ : ∃ j, k = j + 1 := ⟨k - 1, by omega⟩
    unfold scriniumref10_All.l0
    rw [if_neg (by omega)]
    simp [rr]
  | succ n ih =>
    intro k p acc hn hk hp ha
    obtain ⟨k, rfl⟩ : ∃ j, k = j + 1 := ⟨k - 1, by omega⟩
    unfold scriniumref10_All.l0
    by_cases hlt : p < s.size
    · rw [if_pos (by omega), if_pos (by omega), if_pos (by omega)]
      have hx : (((p : Nat) : Int)).toNat = p := by omega
      rw [hx]
      have hsz : 0 < (s.extract p s.size).size := by
        rw [← BL_length, BL_extract, List.length_drop, BL_length]; omega
      have hF := le_up (F := fun k => scriniumref10_First.f k (s.extract p s.size)) (fun k => scriniumref10_First.mono _ k) (a := 20) (b := k) (by omega) (First_is (s.extract p s.size) hsz)
      rw [hF, BL_extract]
      simp only [Option.bind_some]
      have hne : (BL s).drop p ≠ [] := by
        intro h
        have := congrArg List.length h
        rw [List.length_drop, BL_length] at this
        simp at this; omega
      have hw := decodeL_width ((BL s).drop p)
      have hle := decodeL_le ((BL s).drop p) hne
      rw [List.length_drop, BL_length] at hle
      conv => rhs; unfold rr; rw [if_neg hne]
      rw [List.drop_drop]
      generalize decodeL ((BL s).drop p) = d at hw hle ⊢
      rw [if_pos (by omega)]
      have ew : wrap64 ((p : Int) + (d.2 : Int)) = ((p + d.2 : Nat) : Int) := by rw [wrap64_small (by omega) (by omega)]; omega
      rw [ew]
      clear ew
      rw [ih k (p + d.2) _ (by omega) (by omega) (by omega) (by simp; omega)]
      simp
    · rw [if_neg (by omega)]
      have : (BL s).drop p = [] := List.drop_eq_nil_of_le (by rw [BL_length]; omega)
      rw [this]
      simp [rr]
def a40 (s : ByteArray) : List S75 := rr s.size (BL s)
theorem All_is (s : ByteArray) (hm : s.size ≤ 4000000) : scriniumref10_All.f (s.size + 22) s = some (a40 s) := by
  have h := All_loop s hm s.size (s.size + 22) 0 [] (by omega) (by omega) (by omega) (by simp)
  simpa [scriniumref10_All.f, a40] using h
theorem a40_f0 (s : ByteArray) : (a40 s).map (fun x => x.f0) = (runes (BL s)).map (fun x : Nat => (x : Int)) := rr_f0 _ _
theorem a40_len (s : ByteArray) : (a40 s).length = (runes (BL s)).length := rr_len _ _
def barredN (c : Nat) : Bool := decide (c < 32 ∨ 127 ≤ c ∧ c ≤ 159 ∨ c = 47 ∨ c = 65533)
def right (l : List Nat) : Bool := l.all (fun c => !barredN c) && decide (1 ≤ l.length ∧ l.length ≤ 24 ∧ l.head? ≠ some 32 ∧ l.getLast? ≠ some 32)
theorem rr_ok : ∀ (n : Nat) (l : List UInt8) (x : S75), x ∈ rr n l → x.f2 = false → x.f0 = 65533
  | 0, _, x, h, _ => by simp [rr] at h
  | n + 1, l, x, h, h2 => by
    unfold rr at h
    split at h
    · simp at h
    · rcases List.mem_cons.1 h with h | h
      · subst h
        simp only [Bool.not_eq_eq_eq_not, Bool.not_false] at h2
        have := bad_65533 _ h2
        simp only
        omega
      · exact rr_ok n _ x h h2
theorem rd_at (l : List S75) (i : Nat) (h : i < l.length) : rd_T75 l (i : Int) = l[i] := by
  unfold rd_T75
  simp [h]
theorem Right_loop (l : List S75) (hl : l.length ≤ 4000000) (hok : ∀ x, x ∈ l → x.f2 = false → x.f0 = 65533) : ∀ (d k i : Nat), i + d = l.length → d < k →
    scriniumref10_Right.l0 k l i = some ((l.drop i).all fun x => !decide (x.f0 < 32 ∨ 127 ≤ x.f0 ∧ x.f0 ≤ 159 ∨ x.f0 = 47 ∨ x.f0 = 65533)) := by
  intro d
  induction d with
  | zero =>
    intro k i hi hk
    obtain ⟨k, rfl⟩ : ∃ j, k = j + 1 := ⟨k - 1, by omega⟩
    unfold scriniumref10_Right.l0
    rw [if_neg (by omega), List.drop_eq_nil_of_le (by omega)]
    rfl
  | succ d ih =>
    intro k i hi hk
    obtain ⟨k, rfl⟩ : ∃ j, k = j + 1 := ⟨k - 1, by omega⟩
    have hlt : i < l.length := by omega
    unfold scriniumref10_Right.l0
    have ei : wrap64 ((i : Int) + 1) = ((i + 1 : Nat) : Int) := by rw [wrap64_small (by omega) (by omega)]; omega
    rw [if_pos (by omega), if_pos (by omega), rd_at l i hlt, ei, ih k (i + 1) (by omega) (by omega), List.drop_eq_getElem_cons hlt]
    clear ei
    have hx := hok l[i] (List.getElem_mem hlt)
    simp only [List.all_cons]
    generalize l[i] = x at hx
    cases h2 : x.f2 with
    | false =>
      have h0 := hx h2
      rw [if_neg (by simp), decide_eq_true (by omega)]
      rfl
    | true =>
      rw [if_pos rfl]
      clear hx
      repeat' split
      all_goals first
        | (rw [decide_eq_true (by omega)]; rfl)
        | (rw [decide_eq_false (by omega)]; simp)
theorem Right_is (s : ByteArray) (hm : s.size ≤ 4000000) : scriniumref10_Right.f (s.size + 30) s = some (right (runes (BL s))) := by
  have hA := le_up (F := fun k => scriniumref10_All.f k s) (fun k => scriniumref10_All.mono _ k) (a := s.size + 22) (b := s.size + 30) (by omega) (All_is s hm)
  unfold scriniumref10_Right.f
  rw [hA]
  simp only [Option.bind_some]
  have hlen := a40_len s
  have hle := runes_length_le _ (BL s) (Nat.le_refl _)
  rw [BL_length] at hle
  have hf := a40_f0 s
  have hok : ∀ x, x ∈ a40 s → x.f2 = false → x.f0 = 65533 := rr_ok _ _
  have hlp := Right_loop (a40 s) (by omega) hok (a40 s).length (s.size + 29) 0 (by omega) (by omega)
  have hall : ((a40 s).drop 0).all (fun x => !decide (x.f0 < 32 ∨ 127 ≤ x.f0 ∧ x.f0 ≤ 159 ∨ x.f0 = 47 ∨ x.f0 = 65533)) = (runes (BL s)).all (fun c => !barredN c) := by
    have e : (a40 s).all (fun x => !decide (x.f0 < 32 ∨ 127 ≤ x.f0 ∧ x.f0 ≤ 159 ∨ x.f0 = 47 ∨ x.f0 = 65533)) = ((a40 s).map (fun x => x.f0)).all (fun z : Int => !decide (z < 32 ∨ 127 ≤ z ∧ z ≤ 159 ∨ z = 47 ∨ z = 65533)) := by rw [List.all_map]; rfl
    rw [List.drop_zero, e, hf, List.all_map]
    congr 1
    funext c
    simp only [Function.comp, barredN]
    congr 1
    exact decide_eq_decide.2 (by omega)
  rw [hall] at hlp
  generalize a40 s = l at hlen hf hlp
  generalize runes (BL s) = r at hlen hf hlp hle ⊢
  have jt : scriniumref10_Right.j0 (s.size + 30) l true = some false := rfl
  have jf : scriniumref10_Right.j0 (s.size + 30) l false = some (r.all fun c => !barredN c) := hlp
  unfold right
  by_cases c1 : (l.length : Int) < 1
  · rw [if_pos c1, jt, decide_eq_false (by omega), Bool.and_false]
  rw [if_neg c1]
  by_cases c2 : (l.length : Int) > 24
  · rw [if_pos c2, jt, decide_eq_false (by omega), Bool.and_false]
  have ew : wrap64 ((l.length : Int) - 1) = ((l.length - 1 : Nat) : Int) := by rw [wrap64_small (by omega) (by omega)]; omega
  have h0 : (rd_T75 l 0).f0 = ((r[0]'(by omega) : Nat) : Int) := by
    have := rd_at l 0 (by omega)
    have h := congrArg (fun m => m[0]?) hf
    simp only [List.getElem?_map, List.getElem?_eq_getElem (show 0 < l.length by omega), List.getElem?_eq_getElem (show 0 < r.length by omega), Option.map_some, Option.some.injEq] at h
    rw [show (0 : Int) = ((0 : Nat) : Int) from rfl, this, h]
  have h1 : (rd_T75 l ((l.length - 1 : Nat) : Int)).f0 = ((r[r.length - 1]'(by omega) : Nat) : Int) := by
    have := rd_at l (l.length - 1) (by omega)
    have h := congrArg (fun m => m[l.length - 1]?) hf
    simp only [List.getElem?_map, List.getElem?_eq_getElem (show l.length - 1 < l.length by omega), List.getElem?_eq_getElem (show l.length - 1 < r.length by omega), Option.map_some, Option.some.injEq] at h
    rw [this, h]
    simp only [hlen]
  have hh : r.head? = some (r[0]'(by omega)) := by rw [List.head?_eq_getElem?, List.getElem?_eq_getElem]
  have hg : r.getLast? = some (r[r.length - 1]'(by omega)) := by rw [List.getLast?_eq_getElem?, List.getElem?_eq_getElem]
  rw [if_neg c2, if_pos (by omega), h0, ew, h1, hh, hg]
  clear ew hf hlp
  by_cases c3 : r[0]'(by omega) = 32
  · rw [if_pos (by omega), jt, decide_eq_false (by simp [c3]), Bool.and_false]
  rw [if_neg (by omega), if_pos (by omega), if_pos (by omega)]
  by_cases c4 : r[r.length - 1]'(by omega) = 32
  · rw [show ((((r[r.length - 1]'(by omega) : Nat) : Int)) == 32) = true by rw [c4]; rfl, jt, decide_eq_false (by simp [c4]), Bool.and_false]
  · rw [show ((((r[r.length - 1]'(by omega) : Nat) : Int)) == 32) = false by rw [beq_eq_false_iff_ne]; omega, jf, decide_eq_true (by refine ⟨by omega, by omega, ?_, ?_⟩ <;> simp <;> omega), Bool.and_true]
end Go.Proofs.YtkabjbkefoipnaaDoor.Nm
