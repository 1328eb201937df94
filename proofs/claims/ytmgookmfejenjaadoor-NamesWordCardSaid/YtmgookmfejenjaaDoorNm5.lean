/- names: words in plain Lean. -/
import Derived.Test.YtmgookmfejenjaaDoorNm3
import Derived.Lib.Bytealg
namespace Go.Proofs.YtmgookmfejenjaaDoor.Nm
open Go.Lib Go.RowKit Go.Proofs.YtmgookmfejenjaaDoorW.PrintWords Go.Proofs.YtmgookmfejenjaaDoorW.PrintLast Go.Proofs.YtmgookmfejenjaaDoorW.PrintMore Go.Proofs.YtmgookmfejenjaaDoor.PM
set_option linter.unusedVariables false
set_option linter.unusedSimpArgs false

def itselfN (b : Nat) : Bool := decide (97 ≤ b ∧ b ≤ 122 ∨ 48 ≤ b ∧ b ≤ 57)
def hexN (n : Nat) : Nat := if n < 10 then 48 + n else 87 + n
def wordL : List UInt8 → List UInt8
  | [] => []
  | b :: l => (if itselfN b.toNat then [b] else [37, UInt8.ofNat (hexN (b.toNat / 16)), UInt8.ofNat (hexN (b.toNat % 16))]) ++ wordL l
theorem wordL_append (l m : List UInt8) : wordL (l ++ m) = wordL l ++ wordL m := by
  induction l with
  | nil => rfl
  | cons b l ih => simp only [List.cons_append, wordL, ih, List.append_assoc]
theorem wordL_length (l : List UInt8) : (wordL l).length ≤ 3 * l.length := by
  induction l with
  | nil => exact Nat.le_refl _
  | cons b l ih =>
    simp only [wordL, List.length_append, List.length_cons]
    split
    · simp only [List.length_cons, List.length_nil]; omega
    · simp only [List.length_cons, List.length_nil]; omega

theorem itself_is (b : Nat) : names_itself.f (b : Int) = some (itselfN b) := by
  unfold names_itself.f itselfN
  repeat' split
  all_goals (congr 1)
  all_goals first | (rw [eq_comm, decide_eq_true_eq]; omega) | (rw [eq_comm, decide_eq_false_iff_not]; omega) | exact decide_eq_decide.2 (by omega)
theorem refItself_is (b : Nat) : scriniumref10_itself.f (b : Int) = some (itselfN b) := by
  unfold scriniumref10_itself.f itselfN
  repeat' split
  all_goals (congr 1)
  all_goals first | (rw [eq_comm, decide_eq_true_eq]; omega) | (rw [eq_comm, decide_eq_false_iff_not]; omega) | exact decide_eq_decide.2 (by omega)
theorem digit_is (n : Nat) (h : n < 16) : scriniumref10_digit.f (n : Int) = some (hexN n : Int) := by
  unfold scriniumref10_digit.f hexN
  by_cases c : n < 10
  · rw [if_pos (by omega), if_pos c]; congr 1; omega
  · rw [if_neg (by omega), if_neg c]; congr 1; omega

theorem hexN_lt (n : Nat) (h : n < 16) : hexN n < 128 := by unfold hexN; split <;> omega

theorem ints_hex (a b : Nat) (r : List UInt8) (ha : a < 256) (hb : b < 256) : ints (37 :: UInt8.ofNat a :: UInt8.ofNat b :: r) = 37 :: (a : Int) :: (b : Int) :: ints r := by
  unfold ints
  rw [List.map_cons, List.map_cons, List.map_cons, UInt8.toNat_ofNat', UInt8.toNat_ofNat', Nat.mod_eq_of_lt ha, Nat.mod_eq_of_lt hb]
  rfl

theorem Word_loop (s : ByteArray) (hm : s.size ≤ 4000000) : ∀ (d k i : Nat) (acc : List Int), i + d = s.size → d < k → acc.length ≤ 3 * i →
    scriniumref10_Word.l0 k s acc i = some (strOfNums (acc ++ ints (wordL ((BL s).drop i)))) := by
  intro d
  induction d with
  | zero =>
    intro k i acc hi hk ha
    obtain ⟨k, rfl⟩ : ∃ j, k = j + 1 := ⟨k - 1, by omega⟩
    unfold scriniumref10_Word.l0
    rw [if_neg (by omega), List.drop_eq_nil_of_le (by rw [BL_length]; omega)]
    simp [ints, wordL]
  | succ d ih =>
    intro k i acc hi hk ha
    obtain ⟨k, rfl⟩ : ∃ j, k = j + 1 := ⟨k - 1, by omega⟩
    have hlt : i < s.size := by omega
    have ei := Aside0.mk (show wrap64 ((i : Int) + 1) = ((i + 1 : Nat) : Int) by rw [wrap64_small (by omega) (by omega)]; omega)
    rw [drop_get _ i (by rw [BL_length]; exact hlt)]
    unfold scriniumref10_Word.l0
    rw [if_pos (by omega), if_pos (by omega), bt_get, ei.out, refItself_is]
    have k0 := ((BL s).getD i 0).toNat_lt
    generalize (BL s).getD i 0 = b at k0 ⊢
    simp only [Option.bind_some, wordL]
    cases itselfN b.toNat with
    | true =>
      rw [if_pos rfl, if_pos (show acc.length < 140737488355328 by omega), ih k (i + 1) (acc ++ [(b.toNat : Int)]) (by omega) (by omega) (by simp; omega)]
      simp [ints]
    | false =>
      have e1 : Int.tdiv (b.toNat : Int) 16 % 256 = ((b.toNat / 16 : Nat) : Int) := by
        rw [Int.tdiv_eq_ediv_of_nonneg (by omega)]; omega
      have e2 : Int.tmod (b.toNat : Int) 16 = ((b.toNat % 16 : Nat) : Int) := by
        rw [Int.tmod_eq_emod_of_nonneg (by omega)]; omega
      rw [if_neg (by simp), e1, e2, digit_is _ (by omega), digit_is _ (by omega)]
      simp only [Option.bind_some]
      rw [if_pos (show acc.length + _ < 140737488355328 by simp only [List.length_cons, List.length_nil]; omega), ih k (i + 1) _ (by omega) (by omega) (by simp; omega)]
      have h1 := hexN_lt (b.toNat / 16) (by omega)
      have h2 := hexN_lt (b.toNat % 16) (by omega)
      rw [if_neg (show ¬ (false = true) by decide), List.cons_append, List.cons_append, List.cons_append, List.nil_append, ints_hex _ _ _ (by omega) (by omega)]
      simp

theorem Word_is (s : ByteArray) (hm : s.size ≤ 4000000) : scriniumref10_Word.f (s.size + 1) s = some ⟨(wordL (BL s)).toArray⟩ := by
  have h := Word_loop s hm s.size (s.size + 1) 0 [] (by omega) (by omega) (by simp)
  rw [List.drop_zero, List.nil_append, str_ints] at h
  exact h

/-! ### a word's text -/
/-- A hexadecimal digit's value; 16: it is none. -/
def valN (b : Nat) : Nat := if 48 ≤ b ∧ b ≤ 57 then b - 48 else if 97 ≤ b ∧ b ≤ 102 then b - 87 else 16
def txt : Nat → List UInt8 → Option (List UInt8)
  | 0, _ => none
  | n + 1, [] => some []
  | n + 1, b :: l => if itselfN b.toNat then (txt n l).map (b :: ·)
    else if b.toNat = 37 then
      match l with
      | x :: y :: r => if valN x.toNat = 16 ∨ valN y.toNat = 16 ∨ itselfN (16 * valN x.toNat + valN y.toNat) then none
        else (txt n r).map (UInt8.ofNat (16 * valN x.toNat + valN y.toNat) :: ·)
      | _ => none
    else none

theorem valN_le (b : Nat) : valN b ≤ 16 := by
  unfold valN
  repeat' split
  all_goals omega

theorem value_loop (b : Nat) (hb : b < 256) : ∀ (d k i : Nat), i + d = 16 → d < k → i ≤ valN b → scriniumref10_value.l0 k (b : Int) i = some (if valN b = 16 then -1 else (valN b : Int)) := by
  intro d
  induction d with
  | zero =>
    intro k i hi hk hv
    obtain ⟨k, rfl⟩ : ∃ j, k = j + 1 := ⟨k - 1, by omega⟩
    unfold scriniumref10_value.l0
    have := valN_le b
    have : valN b = 16 := by omega
    rw [if_neg (by omega), if_pos this]
  | succ d ih =>
    intro k i hi hk hv
    obtain ⟨k, rfl⟩ : ∃ j, k = j + 1 := ⟨k - 1, by omega⟩
    have ei := Aside0.mk (show wrap64 ((i : Int) + 1) = ((i + 1 : Nat) : Int) by rw [wrap64_small (by omega) (by omega)]; omega)
    unfold scriniumref10_value.l0
    rw [if_pos (by omega), show (i : Int) % 256 = (i : Int) by omega, digit_is i (by omega), ei.out]
    simp only [Option.bind_some]
    by_cases c : hexN i = b
    · rw [if_pos (by omega)]
      have : valN b = i := by
        unfold hexN at c; unfold valN
        split at c <;> (repeat' split) <;> omega
      rw [this, if_neg (by omega)]
    · rw [if_neg (by omega)]
      refine ih k (i + 1) (by omega) (by omega) ?_
      by_cases h : valN b = i
      · exfalso
        apply c
        unfold valN at h; unfold hexN
        repeat' split at h
        all_goals (split <;> omega)
      · omega
theorem value_is (b : Nat) (hb : b < 256) (k : Nat) (hk : 17 ≤ k) : scriniumref10_value.f k (b : Int) = some (if valN b = 16 then -1 else (valN b : Int)) :=
  value_loop b hb 16 k 0 (by omega) (by omega) (Nat.zero_le _)

theorem T0 (k : Nat) (s : ByteArray) (acc : List Int) (i : Int) : scriniumref10_Text.l0 (k + 1) s acc i = if i < (s.size : Int) then (if 0 ≤ i then ((scriniumref10_itself.f (bt s i)).bind fun t175 => (if t175 = true then (if acc.length < 140737488355328 then (scriniumref10_Text.l0 k s (acc ++ [bt s i]) (wrap64 (i + 1))) else (none)) else (if (bt s i) = 37 then (scriniumref10_Text.j1 k s acc i (decide ((wrap64 ((s.size : Int) - i)) < 3))) else (scriniumref10_Text.j1 k s acc i true)))) else (none)) else (some (strOfNums acc, 0)) := by
  first | rfl | (conv => lhs; unfold scriniumref10_Text.l0)
theorem T1 (k : Nat) (s : ByteArray) (acc : List Int) (i : Int) (c : Bool) : scriniumref10_Text.j1 (k + 1) s acc i c = if c = true then (some ((⟨#[]⟩ : ByteArray), 2)) else (if 0 ≤ (wrap64 (i + 1)) then (if (wrap64 (i + 1)) < (s.size : Int) then ((scriniumref10_value.f k (bt s (wrap64 (i + 1)))).bind fun t179 => (if 0 ≤ (wrap64 (i + 2)) then (if (wrap64 (i + 2)) < (s.size : Int) then ((scriniumref10_value.f k (bt s (wrap64 (i + 2)))).bind fun t180 => (if t179 < 0 then (some ((⟨#[]⟩ : ByteArray), 2)) else (if t180 < 0 then (some ((⟨#[]⟩ : ByteArray), 2)) else ((scriniumref10_itself.f ((wrap64 ((wrap64 (16 * t179)) + t180)) % 256)).bind fun t181 => (if t181 = true then (some ((⟨#[]⟩ : ByteArray), 2)) else (if acc.length < 140737488355328 then (scriniumref10_Text.l0 k s (acc ++ [(wrap64 ((wrap64 (16 * t179)) + t180)) % 256]) (wrap64 (i + 3))) else (none))))))) else (none)) else (none))) else (none)) else (none)) := by
  first | rfl | (conv => lhs; unfold scriniumref10_Text.j1)

/-- What the document's Text gives: the text and the error. -/
def textR (o : Option (List UInt8)) (acc : List Int) : ByteArray × Int := match o with
  | some l => (strOfNums (acc ++ ints l), 0)
  | none => (⟨#[]⟩, 2)

theorem Text_loop (s : ByteArray) (hm : s.size ≤ 4000000) : ∀ (d k i n : Nat) (acc : List Int), s.size ≤ i + d → 2 * d + 30 ≤ k → i ≤ s.size → s.size < i + n → acc.length ≤ i →
    scriniumref10_Text.l0 k s acc i = some (textR (txt n ((BL s).drop i)) acc) := by
  intro d
  induction d using Nat.strongRecOn with
  | _ d ih =>
    intro k i n acc hi hk hle hn ha
    obtain ⟨k, rfl⟩ : ∃ j, k = j + 2 := ⟨k - 2, by omega⟩
    obtain ⟨n, rfl⟩ : ∃ j, n = j + 1 := ⟨n - 1, by omega⟩
    rw [T0 (k + 1)]
    by_cases hlt : i < s.size
    rotate_left
    · rw [if_neg (by omega), List.drop_eq_nil_of_le (by rw [BL_length]; omega)]
      simp [txt, textR, ints]
    have ei := Aside0.mk (show wrap64 ((i : Int) + 1) = ((i + 1 : Nat) : Int) by rw [wrap64_small (by omega) (by omega)]; omega)
    have ei2 := Aside0.mk (show wrap64 ((i : Int) + 2) = ((i + 2 : Nat) : Int) by rw [wrap64_small (by omega) (by omega)]; omega)
    have ei3 := Aside0.mk (show wrap64 ((i : Int) + 3) = ((i + 3 : Nat) : Int) by rw [wrap64_small (by omega) (by omega)]; omega)
    have es := Aside0.mk (show wrap64 ((s.size : Int) - i) = (s.size : Int) - i from wrap64_small (by omega) (by omega))
    rw [drop_get _ i (by rw [BL_length]; exact hlt)]
    rw [if_pos (by omega), if_pos (by omega), bt_get, ei.out, refItself_is, es.out]
    have k0 := ((BL s).getD i 0).toNat_lt
    generalize (BL s).getD i 0 = b at k0 ⊢
    simp only [Option.bind_some]
    unfold txt
    cases itselfN b.toNat with
    | true =>
      rw [if_pos rfl, if_pos rfl, if_pos (show acc.length < 140737488355328 by omega), ih (d - 1) (by omega) (k + 1) (i + 1) n _ (by omega) (by omega) (by omega) (by omega) (by simp; omega)]
      cases txt n ((BL s).drop (i + 1)) with
      | none => rfl
      | some l => simp [textR, ints]
    | false =>
      rw [if_neg (show ¬ (false = true) by decide), if_neg (show ¬ (false = true) by decide)]
      by_cases c37 : b.toNat = 37
      rotate_left
      · rw [if_neg (show ¬ ((b.toNat : Int) = 37) by omega), if_neg c37, T1 k, if_pos rfl]; rfl
      rw [if_pos (show (b.toNat : Int) = 37 by omega), if_pos c37]
      by_cases c3 : (s.size : Int) - i < 3
      · rw [decide_eq_true c3, T1 k, if_pos rfl]
        have hsh : ((BL s).drop (i + 1)).length < 2 := by rw [List.length_drop, BL_length]; omega
        generalize (BL s).drop (i + 1) = l at hsh
        match l, hsh with
        | [], _ => rfl
        | [x], _ => rfl
      rw [decide_eq_false c3, T1 k, if_neg (by simp), ei.out, ei2.out, ei3.out, if_pos (by omega), if_pos (by omega), bt_get, bt_get]
      rw [drop_get _ (i + 1) (by rw [BL_length]; omega), drop_get _ (i + 1 + 1) (by rw [BL_length]; omega)]
      have k1 := ((BL s).getD (i + 1) 0).toNat_lt
      have k2 := ((BL s).getD (i + 2) 0).toNat_lt
      generalize hx : (BL s).getD (i + 1) 0 = x at k1 ⊢
      rw [show i + 1 + 1 = i + 2 from rfl]
      generalize hy : (BL s).getD (i + 2) 0 = y at k2 ⊢
      rw [value_is x.toNat k1 k (by omega), value_is y.toNat k2 k (by omega)]
      simp only [Option.bind_some]
      rw [if_pos (by omega), if_pos (by omega)]
      have v1 := valN_le x.toNat
      have v2 := valN_le y.toNat
      generalize valN x.toNat = p at v1 ⊢
      generalize valN y.toNat = q at v2 ⊢
      by_cases cp : p = 16
      · rw [if_pos cp, if_pos (by omega), if_pos (.inl cp)]; rfl
      rw [if_neg cp, if_neg (by omega)]
      by_cases cq : q = 16
      · rw [if_pos cq, if_pos (by omega), if_pos (.inr (.inl cq))]; rfl
      rw [if_neg cq, if_neg (by omega)]
      have e1 : wrap64 (16 * (p : Int)) = 16 * (p : Int) := wrap64_small (by omega) (by omega)
      have e2 : wrap64 (16 * (p : Int) + (q : Int)) = 16 * (p : Int) + (q : Int) := wrap64_small (by clear e1; omega) (by clear e1; omega)
      rw [e1, e2, show (16 * (p : Int) + (q : Int)) % 256 = ((16 * p + q : Nat) : Int) by clear e1 e2; omega, refItself_is]
      clear e1 e2
      simp only [Option.bind_some]
      cases hc : itselfN (16 * p + q) with
      | true => rw [if_pos rfl, if_pos (.inr (.inr rfl))]; rfl
      | false =>
        rw [if_neg (show ¬ (false = true) by decide), if_neg (show ¬ (p = 16 ∨ q = 16 ∨ false = true) by simp [cp, cq]), if_pos (show acc.length < 140737488355328 by omega), ih (d - 3) (by omega) k (i + 3) n _ (by omega) (by omega) (by omega) (by omega) (by simp; omega)]
        cases txt n ((BL s).drop (i + 3)) with
        | none => rfl
        | some l =>
          have e : ints (UInt8.ofNat (16 * p + q) :: l) = ((16 * p + q : Nat) : Int) :: ints l := by
            unfold ints
            rw [List.map_cons, UInt8.toNat_ofNat', Nat.mod_eq_of_lt (by omega)]
          simp only [Option.map_some, textR, e, List.append_assoc, List.singleton_append]

theorem Text_is (s : ByteArray) (hm : s.size ≤ 4000000) : scriniumref10_Text.f (2 * s.size + 30) s = some (textR (txt (s.size + 1) (BL s)) []) := by
  have h := Text_loop s hm s.size (2 * s.size + 30) 0 (s.size + 1) [] (by omega) (by omega) (by omega) (by omega) (by simp)
  rw [List.drop_zero] at h
  exact h

/-! ### there and back -/
theorem val_hex (n : Nat) (h : n < 16) : valN (hexN n) = n := by
  unfold valN hexN
  repeat' split
  all_goals omega
theorem hex_val (b : Nat) (h : valN b ≠ 16) : hexN (valN b) = b ∧ valN b < 16 := by
  unfold valN at h ⊢
  unfold hexN
  repeat' split at h
  all_goals first | (repeat' split) <;> omega | omega
theorem txt_word : ∀ (l : List UInt8) (n : Nat), l.length < n → txt n (wordL l) = some l
  | [], n, h => by
    obtain ⟨n, rfl⟩ : ∃ j, n = j + 1 := ⟨n - 1, by simp at h; omega⟩
    rfl
  | b :: l, n, h => by
    obtain ⟨n, rfl⟩ : ∃ j, n = j + 1 := ⟨n - 1, by simp at h; omega⟩
    simp only [List.length_cons] at h
    have k0 := b.toNat_lt
    simp only [wordL]
    cases hb : itselfN b.toNat with
    | true => simp [txt, hb, txt_word l n (by omega)]
    | false =>
      rw [if_neg (by simp)]
      have h1 := hexN_lt (b.toNat / 16) (by omega)
      have h2 := hexN_lt (b.toNat % 16) (by omega)
      simp only [List.cons_append, List.nil_append, txt]
      rw [show (37 : UInt8).toNat = 37 from rfl, show itselfN 37 = false from rfl, if_neg (by simp), if_pos rfl]
      rw [UInt8.toNat_ofNat', UInt8.toNat_ofNat', Nat.mod_eq_of_lt (by omega), Nat.mod_eq_of_lt (by omega), val_hex _ (by omega), val_hex _ (by omega), show 16 * (b.toNat / 16) + b.toNat % 16 = b.toNat by omega, hb, if_neg (by simp; omega), txt_word l n (by omega)]
      simp
theorem word_txt : ∀ (n : Nat) (w x : List UInt8), txt n w = some x → wordL x = w
  | 0, w, x, h => by simp [txt] at h
  | n + 1, [], x, h => by
    simp only [txt, Option.some.injEq] at h
    subst h; rfl
  | n + 1, b :: l, x, h => by
    unfold txt at h
    cases hb : itselfN b.toNat with
    | true =>
      rw [hb, if_pos rfl] at h
      cases ht : txt n l with
      | none => rw [ht] at h; simp at h
      | some y =>
        rw [ht] at h
        simp only [Option.map_some, Option.some.injEq] at h
        subst h
        simp [wordL, hb, word_txt n l y ht]
    | false =>
      rw [hb, if_neg (by simp)] at h
      by_cases c37 : b.toNat = 37
      rotate_left
      · rw [if_neg c37] at h; simp at h
      rw [if_pos c37] at h
      match l, h with
      | [], h => simp at h
      | [p], h => simp at h
      | p :: q :: r, h =>
        simp only at h
        by_cases hc : valN p.toNat = 16 ∨ valN q.toNat = 16 ∨ itselfN (16 * valN p.toNat + valN q.toNat) = true
        · rw [if_pos hc] at h; simp at h
        rw [if_neg hc] at h
        cases ht : txt n r with
        | none => rw [ht] at h; simp at h
        | some y =>
          rw [ht] at h
          simp only [Option.map_some, Option.some.injEq] at h
          subst h
          obtain ⟨a1, a2⟩ := hex_val p.toNat (fun e => hc (.inl e))
          obtain ⟨b1, b2⟩ := hex_val q.toNat (fun e => hc (.inr (.inl e)))
          have hi : itselfN (16 * valN p.toNat + valN q.toNat) = false := by
            cases h : itselfN (16 * valN p.toNat + valN q.toNat) with
            | true => exact absurd (.inr (.inr h)) hc
            | false => rfl
          simp only [wordL]
          rw [UInt8.toNat_ofNat', Nat.mod_eq_of_lt (by omega), hi, if_neg (by simp), show (16 * valN p.toNat + valN q.toNat) / 16 = valN p.toNat by omega, show (16 * valN p.toNat + valN q.toNat) % 16 = valN q.toNat by omega, a1, b1, word_txt n r y ht]
          have e : b = 37 := UInt8.toNat_inj.1 (by rw [c37]; rfl)
          rw [e]
          simp

/-- strings.IndexByte in the digits. -/
def digitsL : List UInt8 := [48, 49, 50, 51, 52, 53, 54, 55, 56, 57, 97, 98, 99, 100, 101, 102]
set_option maxRecDepth 20000 in
theorem index_val : ∀ n : Fin 256, Lib.indexByte digitsL (UInt8.ofNat n.val) = if valN n.val = 16 then -1 else (valN n.val : Int) := by decide +kernel

end Go.Proofs.YtmgookmfejenjaaDoor.Nm
