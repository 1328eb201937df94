import Derived.Test.YtpkfeepepbchlaaGSb5
namespace Go.Proofs.Ytpkfeepepbchlaa.Sb
open Go.RowKit Go.Proofs.YtpkfeepepbchlaaW.PrintWords Go.Proofs.YtpkfeepepbchlaaW.PrintLast Go.Proofs.YtpkfeepepbchlaaW.PrintMore Go.Proofs.Ytpkfeepepbchlaa.PK
set_option linter.unusedVariables false
set_option linter.unusedSimpArgs false
def okA (kind num : Int) (nl bl : Nat) : Bool := decide (1 ≤ kind ∧ kind ≤ 4 ∧ 0 ≤ num ∧ num ≤ 2147483647 ∧ bl ≤ 60000 ∧ nl ≤ 64 ∧ (kind = 1 ∨ bl = 0))
def okFits (num : Int) (bl : Nat) : Bool := decide (0 ≤ num ∧ num ≤ 2147483647 ∧ bl ≤ 60000)
def okN (names : List ByteArray) : Bool := names.all fun s => decide (s.size ≤ 64)
def okR (num code : Int) (bl : Nat) (names : List ByteArray) : Bool := okN names && decide (0 ≤ code ∧ code ≤ 3 ∧ 0 ≤ num ∧ num ≤ 2147483647 ∧ bl ≤ 60000 ∧ names.length ≤ 1000)
theorem fits_calls (num : Int) (A : Option Addr) (n c : Nat) (w : World) (hn : True) :
    Calls Try.prog 113 #[.int .i64 num, .slice A n c] w fun e w' => e = .returned (.bool (okFits num n)) ∧ w = w' := by
  by_cases h1 : 0 ≤ num
  · by_cases h2 : num ≤ 2147483647
    · by_cases h3 : n ≤ 60000
      · have h3i : (n : Int) ≤ 60000 := by omega
        have hf := Aside0.mk (show okFits num n = true by simp [okFits, h1, h2, h3])
        go_enter Try.func113, Try.ntmps113
        go_wp2
        go_ret
        exact ⟨by rw [hf.out]; first | rfl | simp [*], rfl⟩
      · have h3i : ¬ (n : Int) ≤ 60000 := by omega
        have hf := Aside0.mk (show okFits num n = false by simp [okFits, h3])
        go_enter Try.func113, Try.ntmps113
        go_wp2
        go_ret
        exact ⟨by rw [hf.out]; first | rfl | simp [*], rfl⟩
    · have hf := Aside0.mk (show okFits num n = false by simp [okFits, h2])
      go_enter Try.func113, Try.ntmps113
      go_wp2
      go_ret
      exact ⟨by rw [hf.out]; first | rfl | simp [*], rfl⟩
  · have hf := Aside0.mk (show okFits num n = false by simp [okFits, h1])
    go_enter Try.func113, Try.ntmps113
    go_wp2
    go_ret
    exact ⟨by rw [hf.out]; first | rfl | simp [*], rfl⟩
set_option maxHeartbeats 1000000 in
theorem askRight_calls (kind num : Int) (name : ByteArray) (A : Option Addr) (n c : Nat) (w : World) (hn : True) (hm : True) :
    Calls Try.prog 112 #[.agg #[.int .i64 kind, .int .i64 num, .string name, .slice A n c]] w fun e w' => e = .returned (.bool (okA kind num name.size n)) ∧ Below w.heap.size w w' := by
  by_cases h1 : 1 ≤ kind
  · by_cases h2 : kind ≤ 4
    · cases hF : okFits num n with
      | false =>
        have hf := Aside0.mk (show okA kind num name.size n = false by simp only [okFits, okA, decide_eq_false_iff_not] at hF ⊢; omega)
        go_enter Try.func112, Try.ntmps112
        go_wp2_with fail
        refine (fits_calls num A n c _ trivial).mono ?_
        rintro e w1 ⟨rfl, rfl⟩
        go_wp2_with fail
        go_ret
        exact ⟨by rw [hf.out]; first | rfl | simp [*], (Below.refl _ _).alloc (Nat.le_refl _) _⟩
      | true =>
        by_cases h4 : name.size ≤ 64
        · have h4i : (name.size : Int) ≤ 64 := by omega
          by_cases h5 : kind = 1
          · have h5b : (kind == 1) = true := beq_iff_eq.mpr h5
            have hf := Aside0.mk (show okA kind num name.size n = true by simp only [okFits, okA, decide_eq_true_eq] at hF ⊢; omega)
            clear h5
            go_enter Try.func112, Try.ntmps112
            go_wp2_with fail
            refine (fits_calls num A n c _ trivial).mono ?_
            rintro e w1 ⟨rfl, rfl⟩
            go_wp2_with fail
            go_ret
            exact ⟨by rw [hf.out]; first | rfl | simp [*], (Below.refl _ _).alloc (Nat.le_refl _) _⟩
          · have h5b : (kind == 1) = false := beq_eq_false_iff_ne.mpr h5
            by_cases h6 : n = 0
            · have hf := Aside0.mk (show okA kind num name.size n = true by simp only [okFits, okA, decide_eq_true_eq] at hF ⊢; omega)
              subst h6
              go_enter Try.func112, Try.ntmps112
              go_wp2_with fail
              refine (fits_calls num A 0 c _ trivial).mono ?_
              rintro e w1 ⟨rfl, rfl⟩
              go_wp2_with fail
              go_ret
              exact ⟨by rw [hf.out]; first | rfl | simp [*], (Below.refl _ _).alloc (Nat.le_refl _) _⟩
            · have h6b : ((n : Int) == 0) = false := by rw [beq_eq_false_iff_ne]; omega
              have h6c : (n == 0) = false := by rw [beq_eq_false_iff_ne]; exact h6
              have hf := Aside0.mk (show okA kind num name.size n = false by simp only [okFits, okA, decide_eq_false_iff_not] at hF ⊢; omega)
              clear h6
              go_enter Try.func112, Try.ntmps112
              go_wp2_with fail
              refine (fits_calls num A n c _ trivial).mono ?_
              rintro e w1 ⟨rfl, rfl⟩
              go_wp2_with fail
              go_ret
              exact ⟨by rw [hf.out]; first | rfl | simp [*], (Below.refl _ _).alloc (Nat.le_refl _) _⟩
        · have h4i : ¬ (name.size : Int) ≤ 64 := by omega
          have hf := Aside0.mk (show okA kind num name.size n = false by simp only [okFits, okA, decide_eq_false_iff_not] at hF ⊢; omega)
          go_enter Try.func112, Try.ntmps112
          go_wp2_with fail
          refine (fits_calls num A n c _ trivial).mono ?_
          rintro e w1 ⟨rfl, rfl⟩
          go_wp2_with fail
          go_ret
          exact ⟨by rw [hf.out]; first | rfl | simp [*], (Below.refl _ _).alloc (Nat.le_refl _) _⟩
    · have hf := Aside0.mk (show okA kind num name.size n = false by simp only [okA, decide_eq_false_iff_not]; omega)
      go_enter Try.func112, Try.ntmps112
      go_wp2_with fail
      go_ret
      exact ⟨by rw [hf.out]; first | rfl | simp [*], (Below.refl _ _).alloc (Nat.le_refl _) _⟩
  · have hf := Aside0.mk (show okA kind num name.size n = false by simp only [okA, decide_eq_false_iff_not]; omega)
    go_enter Try.func112, Try.ntmps112
    go_wp2_with fail
    go_ret
    exact ⟨by rw [hf.out]; first | rfl | simp [*], (Below.refl _ _).alloc (Nat.le_refl _) _⟩
theorem askFirst_calls (kind num : Int) (name : ByteArray) (A : Option Addr) (n c : Nat) (w : World) :
    Calls Try.prog 111 #[.agg #[.int .i64 kind, .int .i64 num, .string name, .slice A n c]] w fun e w' => e = .returned (.int .i64 kind) ∧ Below w.heap.size w w' := by
  go_enter Try.func111, Try.ntmps111
  go_wp2_with fail
  go_ret
  exact ⟨rfl, (Below.refl _ _).alloc (Nat.le_refl _) _⟩
theorem answerFirst_calls (num code : Int) (A : Option Addr) (n c : Nat) (B : Option Addr) (m d : Nat) (w : World) :
    Calls Try.prog 115 #[.agg #[.int .i64 num, .int .i64 code, .slice A n c, .slice B m d]] w fun e w' => e = .returned (.int .i64 code) ∧ Below w.heap.size w w' := by
  go_enter Try.func115, Try.ntmps115
  go_wp2_with fail
  go_ret
  exact ⟨rfl, (Below.refl _ _).alloc (Nat.le_refl _) _⟩
theorem okN_drop (l : List ByteArray) (i : Nat) (h : i < l.length) : okN (l.drop i) = (decide ((rdOf ByteArray.empty l (i : Int)).size ≤ 64) && okN (l.drop (i + 1))) := by
  have e : rdOf ByteArray.empty l (i : Int) = l[i] := by simp [rdOf, h]
  rw [e]
  unfold okN
  rw [List.drop_eq_getElem_cons h, List.all_cons]
set_option maxHeartbeats 2000000 in
theorem answerRight_calls (num code : Int) (A : Option Addr) (n c : Nat) (B : Option Addr) (d : Nat) (l : List ByteArray) (w : World) (hn : n ≤ 140737488355328) (hm : l.length ≤ 140737488355328) (hr : Kd.C Kd.string w B l.length l) :
    Calls Try.prog 116 #[.agg #[.int .i64 num, .int .i64 code, .slice A n c, .slice B l.length d]] w fun e w' => e = .returned (.bool (okR num code n l)) ∧ Below w.heap.size w w' := by
  have HR := Aside0.mk hr
  clear hr
  go_enter Try.func116, Try.ntmps116
  go_wp2
  go_loopg [9] l.length (fun kq v9 w' => ∃ (i : Nat), v9 = .int .i64 i ∧ i ≤ l.length ∧ Aside0 (okN (l.drop i) = okN l) ∧ Aside0 (kq + i = l.length) ∧ Aside0 (w'.heap[w.heap.size]? = some (.cells #[.int .i64 num, .int .i64 code, .slice A n c, .slice B l.length d] 89 (0, 0))) ∧ Aside0 (Below w.heap.size w w'))
  case atStart => exact ⟨0, rfl, Nat.zero_le _, ⟨rfl⟩, ⟨rfl⟩, ⟨blk_new _ _⟩, ⟨(Below.refl _ _).alloc (Nat.le_refl _) _⟩⟩
  case round =>
    obtain ⟨i, rfl, hi, HO, HK, HG, HB⟩ := hrel
    have f0 : wr.cell? ⟨w.heap.size, 0, none⟩ = some (.int .i64 num) := (blk_cell HG.out 0).trans rfl
    have f1 : wr.cell? ⟨w.heap.size, 1, none⟩ = some (.int .i64 code) := (blk_cell HG.out 1).trans rfl
    have f2 : wr.cell? ⟨w.heap.size, 2, none⟩ = some (.slice A n c) := (blk_cell HG.out 2).trans rfl
    have f3 : wr.cell? ⟨w.heap.size, 3, none⟩ = some (.slice B l.length d) := (blk_cell HG.out 3).trans rfl
    by_cases hlt : i < l.length
    · have hci : (i : Int) < (l.length : Int) := by omega
      obtain ⟨ad, e9, hx0⟩ := Kd.at_string HR.out i (Int.natCast_nonneg _) hci
      cases e9
      rw [Int.toNat_natCast] at hx0
      replace hx0 := (HB.out.cell (World.block_lt_of_cell? w _ hx0)).trans hx0
      have HD := Aside0.mk (okN_drop l i hlt)
      generalize rdOf ByteArray.empty l (i : Int) = s at hx0 HD
      by_cases h64 : s.size ≤ 64
      · have h64i : (s.size : Int) ≤ 64 := by omega
        go_wp2
        go_roundg (gk - 1)
        case measure => have := HK.out; omega
        case rel => exact ⟨i + 1, by simp, by omega, ⟨by rw [← HO.out, HD.out]; simp [h64]⟩, ⟨by have := HK.out; omega⟩, HG, HB⟩
      · have h64i : ¬ (s.size : Int) ≤ 64 := by omega
        have h64j : (64 : Int) < (s.size : Int) := by omega
        have hf := Aside0.mk (show okR num code n l = false by unfold okR; rw [← HO.out, HD.out]; simp [h64])
        go_wp2
        go_ret
        exact ⟨by rw [hf.out]; first | rfl | simp [*], HB.out⟩
    · have hci : ¬ (i : Int) < (l.length : Int) := by omega
      have hN : okN l = true := by rw [← HO.out, List.drop_of_length_le (by omega)]; rfl
      have hE := Aside0.mk (show okR num code n l = decide (0 ≤ code ∧ code ≤ 3 ∧ 0 ≤ num ∧ num ≤ 2147483647 ∧ n ≤ 60000 ∧ l.length ≤ 1000) by unfold okR; rw [hN, Bool.true_and])
      by_cases h1 : 0 ≤ code
      · by_cases h2 : code ≤ 3
        · cases hF : okFits num n with
          | false =>
            have hf := Aside0.mk (show okR num code n l = false by rw [hE.out]; simp only [okFits, decide_eq_false_iff_not] at hF ⊢; omega)
            go_wp2_with fail
            refine (fits_calls num A n c _ trivial).mono ?_
            rintro e w1 ⟨rfl, rfl⟩
            go_wp2_with fail
            go_ret
            exact ⟨by rw [hf.out]; first | rfl | simp [*], HB.out⟩
          | true =>
            by_cases h3 : l.length ≤ 1000
            · have h3i : (l.length : Int) ≤ 1000 := by omega
              have hf := Aside0.mk (show okR num code n l = true by rw [hE.out]; simp only [okFits, decide_eq_true_eq] at hF ⊢; omega)
              go_wp2_with fail
              refine (fits_calls num A n c _ trivial).mono ?_
              rintro e w1 ⟨rfl, rfl⟩
              go_wp2_with fail
              go_ret
              exact ⟨by rw [hf.out]; first | rfl | simp [*], HB.out⟩
            · have h3i : ¬ (l.length : Int) ≤ 1000 := by omega
              have hf := Aside0.mk (show okR num code n l = false by rw [hE.out]; simp only [decide_eq_false_iff_not]; omega)
              go_wp2_with fail
              refine (fits_calls num A n c _ trivial).mono ?_
              rintro e w1 ⟨rfl, rfl⟩
              go_wp2_with fail
              go_ret
              exact ⟨by rw [hf.out]; first | rfl | simp [*], HB.out⟩
        · have hf := Aside0.mk (show okR num code n l = false by rw [hE.out]; simp only [decide_eq_false_iff_not]; omega)
          go_wp2_with fail
          go_ret
          exact ⟨by rw [hf.out]; first | rfl | simp [*], HB.out⟩
      · have hf := Aside0.mk (show okR num code n l = false by rw [hE.out]; simp only [decide_eq_false_iff_not]; omega)
        go_wp2_with fail
        go_ret
        exact ⟨by rw [hf.out]; first | rfl | simp [*], HB.out⟩
end Go.Proofs.Ytpkfeepepbchlaa.Sb
