import Derived.Test.YtpkfeepepbchlaaGSbP
namespace Go.Proofs.Ytpkfeepepbchlaa.Sb
open Go.RowKit Go.Proofs.YtpkfeepepbchlaaW.PrintWords Go.Proofs.YtpkfeepepbchlaaW.PrintLast Go.Proofs.YtpkfeepepbchlaaW.PrintMore Go.Proofs.Ytpkfeepepbchlaa.PK
set_option linter.unusedVariables false
set_option linter.unusedSimpArgs false
def Bytes (s : List Int) : Prop := ∀ x, x ∈ s → 0 ≤ x ∧ x ≤ 255
theorem Bytes.get {s : List Int} (h : Bytes s) (i : Nat) (hi : i < s.length) : 0 ≤ s.getD i 0 ∧ s.getD i 0 ≤ 255 := by
  rw [List.getD_eq_getElem?_getD, List.getElem?_eq_getElem hi]
  exact h _ (List.getElem_mem hi)
theorem Bytes.append {s t : List Int} (h : Bytes s) (k : Bytes t) : Bytes (s ++ t) := fun x hx => (List.mem_append.1 hx).elim (h x) (k x)
theorem Bytes.drop {s : List Int} (h : Bytes s) (n : Nat) : Bytes (s.drop n) := fun x hx => h x (List.mem_of_mem_drop hx)
theorem Bytes.take {s : List Int} (h : Bytes s) (n : Nat) : Bytes (s.take n) := fun x hx => h x (List.mem_of_mem_take hx)
theorem Bytes.nil : Bytes [] := fun x hx => by simp at hx
theorem Bytes.cons {b : Int} {s : List Int} (h0 : 0 ≤ b) (h1 : b ≤ 255) (h : Bytes s) : Bytes (b :: s) := fun x hx => by
  rcases List.mem_cons.1 hx with rfl | hx
  · exact ⟨h0, h1⟩
  · exact h x hx
theorem bytes_spr (x : Int) (n : Nat) : Bytes (spr x n) := by
  induction n generalizing x with
  | zero => exact Bytes.nil
  | succ n ih => exact (ih _).append (Bytes.cons (by omega) (by omega) Bytes.nil)
def beF (x : Int) (l : List Int) : Int := l.foldl (fun x b => 256 * x + b) x
def be (l : List Int) : Int := beF 0 l
theorem p256' : ∀ e : Fin 8, (256 : Int) ^ e.val ≤ 72057594037927936 := by decide
theorem p256 (e : Nat) (h : e < 8) : (256 : Int) ^ e ≤ 72057594037927936 := p256' ⟨e, h⟩
theorem p256_pos (e : Nat) : (0 : Int) < 256 ^ e := Int.pow_pos (by decide)
theorem u64_small {y : Int} (h0 : 0 ≤ y) (h1 : y < M64) : IntKind.u64.wrap y = y := by
  unfold M64 at h1
  show y % 18446744073709551616 = y
  omega
theorem or_byte (x b : Int) (h0 : 0 ≤ x) (h1 : x < 72057594037927936) (hb0 : 0 ≤ b) (hb1 : b ≤ 255) : Go.bits .or .u64 (IntKind.u64.wrap (x * 256)) (IntKind.u64.wrap b) = 256 * x + b := by
  rw [u64_small (by omega) (by unfold M64; omega), u64_small hb0 (by unfold M64; omega), bits_join .u64 64 (by decide) (fun n h0 h1 => u64_small h0 h1) 8 (x * 256) b (by omega) (by omega) (by omega) hb0 (by omega) (by omega)]
  omega
theorem drop_cons_getD (s : List Int) (at_ : Nat) (h : at_ < s.length) : s.drop at_ = s.getD at_ 0 :: s.drop (at_ + 1) := by
  rw [List.drop_eq_getElem_cons h, List.getD_eq_getElem?_getD, List.getElem?_eq_getElem h]; rfl
theorem take_loop (s : List Int) (hs : Bytes s) (hm : (s.length : Int) < 4611686018427387904) (n : Int) (hn8 : n ≤ 8) : ∀ (d : Nat) (k : Nat) (x : Int) (i : Int) (at_ : Nat), d ≤ 8 → 0 ≤ i → i + d = n → at_ + d ≤ s.length → 0 ≤ x → x < 256 ^ (8 - d) → d < k →
    bin_Reader_take.l0 k x n i s at_ = some (beF x ((s.drop at_).take d), ((at_ + d : Nat) : Int)) := by
  intro d
  induction d with
  | zero =>
    intro k x i at_ h8 hi hin hat hx0 hx1 hk
    obtain ⟨k, rfl⟩ : ∃ m, k = m + 1 := ⟨k - 1, by omega⟩
    simp only [bin_Reader_take.l0]
    rw [if_neg (by omega)]
    rfl
  | succ d ih =>
    intro k x i at_ h8 hi hin hat hx0 hx1 hk
    obtain ⟨k, rfl⟩ : ∃ m, k = m + 1 := ⟨k - 1, by omega⟩
    obtain ⟨hb0, hb1⟩ := hs.get at_ (by omega)
    have hpe : (256 : Int) ^ (8 - d) = 256 * 256 ^ (8 - (d + 1)) := by
      rw [show 8 - d = (8 - (d + 1)) + 1 by omega, Int.pow_succ, Int.mul_comm]
    have hp := p256 (8 - (d + 1)) (by omega)
    replace ih := fun k x i at_ h1 h2 h3 h4 h5 (h6 : x < 256 * 256 ^ (8 - (d + 1))) h7 => ih k x i at_ h1 h2 h3 h4 h5 (by rw [hpe]; exact h6) h7
    clear hpe
    generalize (256 : Int) ^ (8 - (d + 1)) = E at hp hx1 ih
    have c1 : i < n := by omega
    have c3 : (at_ : Int) < (s.length : Int) := by omega
    have c4 : x < 72057594037927936 := by omega
    have c5 : 0 ≤ 256 * x + s.getD at_ 0 ∧ 256 * x + s.getD at_ 0 < 256 * E := by omega
    have hih := ih k (256 * x + s.getD at_ 0) (i + 1) (at_ + 1) (by omega) (by omega) (by omega) (by omega) c5.1 c5.2 (by omega)
    have e1 : rd s (at_ : Int) = s.getD at_ 0 := by unfold rd; rw [Int.toNat_natCast]
    have e2 : wrap64 ((at_ : Int) + 1) = ((at_ + 1 : Nat) : Int) := by clear hih ih; unfold wrap64; omega
    have e3 : wrap64 (i + 1) = i + 1 := by clear hih ih; unfold wrap64; omega
    simp only [bin_Reader_take.l0, e1, e2, e3]
    rw [if_pos c1, if_pos (Int.natCast_nonneg _), if_pos c3, or_byte x _ hx0 c4 hb0 hb1, hih, drop_cons_getD s at_ (Int.ofNat_lt.1 c3), show at_ + 1 + d = at_ + (d + 1) from by rw [Nat.add_assoc, Nat.add_comm 1 d]]
    rfl
theorem take_is (s : List Int) (hs : Bytes s) (hm : (s.length : Int) < 4611686018427387904) (at_ n : Nat) (hn : n ≤ 8) (hat : at_ + n ≤ s.length) : bin_Reader_take.f 9 s at_ n = some (be ((s.drop at_).take n), ((at_ + n : Nat) : Int)) := by
  unfold bin_Reader_take.f
  exact take_loop s hs hm n (by omega) n 9 0 0 at_ hn (by omega) (by omega) hat (by omega) (p256_pos _) (by omega)
theorem beF_bd (l : List Int) (hl : Bytes l) : ∀ x : Int, 0 ≤ x → 0 ≤ beF x l ∧ beF x l < (x + 1) * 256 ^ l.length := by
  induction l with
  | nil => intro x h0; simp [beF]; omega
  | cons b l ih =>
    intro x h0
    have hb := hl b List.mem_cons_self
    obtain ⟨h1, h2⟩ := ih (fun y hy => hl y (List.mem_cons_of_mem _ hy)) (256 * x + b) (by omega)
    refine ⟨h1, Int.lt_of_lt_of_le h2 ?_⟩
    rw [List.length_cons, Int.pow_succ]
    have hp := p256_pos l.length
    calc (256 * x + b + 1) * 256 ^ l.length ≤ (256 * (x + 1)) * 256 ^ l.length := Int.mul_le_mul_of_nonneg_right (by omega) (by omega)
      _ = (x + 1) * (256 ^ l.length * 256) := by rw [Int.mul_comm 256 (x + 1), Int.mul_assoc, Int.mul_comm 256 (256 ^ l.length)]
theorem be_bd (l : List Int) (hl : Bytes l) (h8 : l.length ≤ 8) : 0 ≤ be l ∧ be l < M64 := by
  obtain ⟨h1, h2⟩ := beF_bd l hl 0 (by omega)
  have : ∀ e : Fin 9, (0 + 1 : Int) * 256 ^ e.val ≤ M64 := by decide
  have := this ⟨l.length, by omega⟩
  exact ⟨h1, Int.lt_of_lt_of_le h2 this⟩
def numR (s : List Int) (at_ : Nat) (n : Int) : Int × Nat × Int := if n < 1 ∨ n > 8 then (0, 0, 14) else if (s.length : Int) - at_ < n then (0, 0, 1) else (be ((s.drop at_).take n.toNat), n.toNat, 0)
theorem Num_is (s : List Int) (hs : Bytes s) (hm : (s.length : Int) < 4611686018427387904) (at_ : Nat) (hat : at_ ≤ s.length) (n : Int) : bin_Reader_Num.f 10 s at_ n = some ((numR s at_ n).1, (numR s at_ n).2.2, ((at_ + (numR s at_ n).2.1 : Nat) : Int)) := by
  unfold bin_Reader_Num.f numR
  by_cases c1 : n < 1
  · rw [if_pos c1, if_pos (.inl c1)]; simp [bin_Reader_Num.j0]
  · rw [if_neg c1]
    by_cases c2 : n > 8
    · rw [decide_eq_true c2, if_pos (.inr c2)]; simp [bin_Reader_Num.j0]
    · rw [decide_eq_false c2, if_neg (by omega)]
      have e : wrap64 ((s.length : Int) - at_) = (s.length : Int) - at_ := by unfold wrap64; omega
      simp only [bin_Reader_Num.j0, Bool.false_eq_true, if_false, bin_Reader_left.f, Option.bind_some, e]
      by_cases c3 : (s.length : Int) - at_ < n
      · rw [if_pos c3, if_pos c3]; rfl
      · rw [if_neg c3, if_neg c3]
        obtain ⟨m, rfl⟩ : ∃ m : Nat, n = m := ⟨n.toNat, by omega⟩
        rw [take_is s hs hm at_ m (by omega) (by omega), Int.toNat_natCast]
        rfl
def small0 (s : List Int) (at_ : Nat) : Int × Nat × Int :=
  if s.length ≤ at_ then (0, 0, 1)
  else if s.getD at_ 0 < 251 then (s.getD at_ 0, 1, 0)
  else if s.getD at_ 0 = 255 then (0, 0, 2)
  else if (s.length : Int) - at_ - 1 < s.getD at_ 0 - 250 then (0, 0, 1)
  else if be ((s.drop (at_ + 1)).take (s.getD at_ 0 - 250).toNat) < 251 ∨ wd (be ((s.drop (at_ + 1)).take (s.getD at_ 0 - 250).toNat)) ≠ s.getD at_ 0 - 250 then (0, 0, 2)
  else (be ((s.drop (at_ + 1)).take (s.getD at_ 0 - 250).toNat), 1 + (s.getD at_ 0 - 250).toNat, 0)
def smallR (s : List Int) (at_ : Nat) (most : Int) : Int × Nat × Int := if (small0 s at_).2.2 = 0 then (if (small0 s at_).1 > most then (0, 0, 3) else small0 s at_) else (0, 0, (small0 s at_).2.2)
theorem take_one (s : List Int) (at_ : Nat) (h : at_ < s.length) : be ((s.drop at_).take 1) = s.getD at_ 0 := by
  rw [drop_cons_getD s at_ h]
  simp [be, beF]
theorem small_is (s : List Int) (hs : Bytes s) (hm : (s.length : Int) < 4611686018427387904) (at_ : Nat) (hat : at_ ≤ s.length) :
    ∃ p : Int, bin_Reader_small.f 9 s at_ = some ((small0 s at_).1, (small0 s at_).2.2, p) ∧ ((small0 s at_).2.2 = 0 → p = ((at_ + (small0 s at_).2.1 : Nat) : Int)) := by
  have e : wrap64 ((s.length : Int) - at_) = (s.length : Int) - at_ := by unfold wrap64; omega
  unfold bin_Reader_small.f small0
  simp only [bin_Reader_left.f, Option.bind_some, e]
  by_cases c1 : s.length ≤ at_
  · rw [if_pos (by omega), if_pos c1]
    exact ⟨_, rfl, fun h => by cases h⟩
  · rw [if_neg (by omega), if_neg c1]
    have ht := take_is s hs hm at_ 1 (by omega) (by omega)
    rw [take_one s at_ (by omega)] at ht
    have ht : bin_Reader_take.f 9 s at_ 1 = some (s.getD at_ 0, ((at_ + 1 : Nat) : Int)) := ht
    rw [ht]
    simp only [Option.bind_some]
    obtain ⟨hb0, hb1⟩ := hs.get at_ (by omega)
    by_cases c2 : s.getD at_ 0 < 251
    · rw [if_pos c2, if_pos c2]
      exact ⟨_, rfl, fun _ => rfl⟩
    · rw [if_neg c2, if_neg c2]
      have e2 : wrap64 (wrap64 (wrap64 (s.getD at_ 0) - 251) + 1) = s.getD at_ 0 - 250 := by unfold wrap64; omega
      have e3 : wrap64 ((s.length : Int) - ((at_ + 1 : Nat) : Int)) = (s.length : Int) - at_ - 1 := by unfold wrap64; omega
      simp only [e2, e3]
      by_cases c3 : s.getD at_ 0 = 255
      · rw [if_pos (by omega), if_pos c3]
        exact ⟨_, rfl, fun h => by cases h⟩
      · rw [if_neg (by omega), if_neg c3]
        by_cases c4 : (s.length : Int) - at_ - 1 < s.getD at_ 0 - 250
        · rw [if_pos c4, if_pos c4]
          exact ⟨_, rfl, fun h => by cases h⟩
        · rw [if_neg c4, if_neg c4]
          obtain ⟨m, hmm⟩ : ∃ m : Nat, s.getD at_ 0 - 250 = m := ⟨(s.getD at_ 0 - 250).toNat, by omega⟩
          rw [hmm, Int.toNat_natCast, take_is s hs hm (at_ + 1) m (by omega) (by omega)]
          simp only [Option.bind_some]
          by_cases c5 : be ((s.drop (at_ + 1)).take m) < 251
          · rw [if_pos c5, if_pos (.inl c5)]
            exact ⟨_, rfl, fun h => by cases h⟩
          · obtain ⟨h1, h2⟩ := be_bd ((s.drop (at_ + 1)).take m) ((hs.drop _).take _) (by rw [List.length_take]; omega)
            rw [if_neg c5, width_is _ h1 h2]
            simp only [Option.bind_some]
            by_cases c6 : wd (be ((s.drop (at_ + 1)).take m)) = m
            · rw [if_pos c6, if_neg (by omega)]
              exact ⟨_, rfl, fun _ => by congr 1; simp; omega⟩
            · rw [if_neg c6, if_pos (.inr c6)]
              exact ⟨_, rfl, fun h => by cases h⟩
theorem Small_is (s : List Int) (hs : Bytes s) (hm : (s.length : Int) < 4611686018427387904) (at_ : Nat) (hat : at_ ≤ s.length) (most : Int) :
    bin_Reader_Small.f 9 s at_ most = some ((smallR s at_ most).1, (smallR s at_ most).2.2, ((at_ + (smallR s at_ most).2.1 : Nat) : Int)) := by
  obtain ⟨p, h1, h2⟩ := small_is s hs hm at_ hat
  have h0 : (small0 s at_).2.2 ≠ 0 → (small0 s at_).1 = 0 := by
    unfold small0
    repeat' split
    all_goals simp
  unfold bin_Reader_Small.f smallR
  rw [h1]
  simp only [Option.bind_some]
  by_cases c1 : (small0 s at_).2.2 = 0
  · rw [if_pos c1, if_pos c1, h2 c1]
    by_cases c2 : (small0 s at_).1 > most
    · rw [if_pos c2, decide_eq_true c2]; simp [bin_Reader_Small.j0]
    · rw [if_neg c2, decide_eq_false c2]; simp [bin_Reader_Small.j0, c1]
  · rw [if_neg c1, if_neg c1]
    simp [bin_Reader_Small.j0, c1, h0 c1]
theorem smallR_of {s : List Int} {at_ : Nat} {most x e : Int} {n : Nat} (h : small0 s at_ = (x, n, e)) : smallR s at_ most = if e = 0 then (if x > most then (0, 0, 3) else (x, n, e)) else (0, 0, e) := by unfold smallR; rw [h]
end Go.Proofs.Ytpkfeepepbchlaa.Sb
