/- frame: names of pieces in plain Lean. -/
import Derived.Test.YtcffacpdjcfidaaDoorPFa
import Derived.Lib.ItoaNum
namespace Go.Proofs.YtcffacpdjcfidaaDoor.Fr
open Go.Lib Go.RowKit Go.Proofs.YtcffacpdjcfidaaDoorW.PrintWords Go.Proofs.YtcffacpdjcfidaaDoorW.PrintLast Go.Proofs.YtcffacpdjcfidaaDoorW.PrintMore Go.Proofs.YtcffacpdjcfidaaDoor.PF
set_option linter.unusedVariables false
set_option linter.unusedSimpArgs false

def hexN (n : Nat) : Nat := if n < 10 then 48 + n else 87 + n
def hexL : List Nat → List UInt8
  | [] => []
  | b :: l => UInt8.ofNat (hexN (b / 16)) :: UInt8.ofNat (hexN (b % 16)) :: hexL l
theorem hexL_length (l : List Nat) : (hexL l).length = 2 * l.length := by
  induction l with
  | nil => rfl
  | cons b l ih => simp only [hexL, List.length_cons, ih]; omega
theorem hexN_lt (n : Nat) (h : n < 16) : hexN n < 128 := by unfold hexN; split <;> omega
theorem hexN_inj {a b : Nat} (ha : a < 16) (hb : b < 16) (h : UInt8.ofNat (hexN a) = UInt8.ofNat (hexN b)) : a = b := by
  have h' := congrArg UInt8.toNat h
  have h1 := hexN_lt a ha; have h2 := hexN_lt b hb
  rw [UInt8.toNat_ofNat', UInt8.toNat_ofNat', Nat.mod_eq_of_lt (by omega), Nat.mod_eq_of_lt (by omega)] at h'
  unfold hexN at h'
  split at h' <;> split at h' <;> omega
theorem hexL_inj : ∀ (a b : List Nat), a.length = b.length → (∀ x, x ∈ a → x < 256) → (∀ x, x ∈ b → x < 256) → hexL a = hexL b → a = b
  | [], [], _, _, _, _ => rfl
  | [], _ :: _, h, _, _, _ => by simp at h
  | _ :: _, [], h, _, _, _ => by simp at h
  | x :: a, y :: b, hl, ha, hb, h => by
    simp only [hexL, List.cons.injEq] at h
    have hx := ha x (by simp); have hy := hb y (by simp)
    have e1 := hexN_inj (by omega) (by omega) h.1
    have e2 := hexN_inj (by omega) (by omega) h.2.1
    have e : x = y := by omega
    rw [e, hexL_inj a b (by simpa using hl) (fun z hz => ha z (by simp [hz])) (fun z hz => hb z (by simp [hz])) h.2.2]

theorem dec_small {u : Nat} (h : u < 10) : decDigits u = [UInt8.ofNat (48 + u)] := by rw [decDigits, dif_pos h]
theorem dec_big {u : Nat} (h : ¬ u < 10) : decDigits u = decDigits (u / 10) ++ [UInt8.ofNat (48 + u % 10)] := by rw [decDigits, dif_neg h]
theorem dec_ne (u : Nat) : decDigits u ≠ [] := by
  by_cases h : u < 10
  · rw [dec_small h]; simp
  · rw [dec_big h]; simp
theorem digit_inj {a b : Nat} (ha : a < 10) (hb : b < 10) (h : UInt8.ofNat (48 + a) = UInt8.ofNat (48 + b)) : a = b := by
  have h' := congrArg UInt8.toNat h
  rw [UInt8.toNat_ofNat', UInt8.toNat_ofNat'] at h'
  omega
theorem dec_inj : ∀ (n u v : Nat), u ≤ n → decDigits u = decDigits v → u = v
  | n, u, v, hn, h => by
    by_cases hu : u < 10
    · by_cases hv : v < 10
      · rw [dec_small hu, dec_small hv] at h
        exact digit_inj hu hv (by simpa using h)
      · rw [dec_small hu, dec_big hv] at h
        have := congrArg List.length h
        have h2 := List.length_pos_iff.2 (dec_ne (v / 10))
        simp only [List.length_append, List.length_cons, List.length_nil] at this
        omega
    · by_cases hv : v < 10
      · rw [dec_big hu, dec_small hv] at h
        have := congrArg List.length h
        have h2 := List.length_pos_iff.2 (dec_ne (u / 10))
        simp only [List.length_append, List.length_cons, List.length_nil] at this
        omega
      · rw [dec_big hu, dec_big hv] at h
        obtain ⟨h1, h2⟩ := List.append_inj' h rfl
        have e2 := digit_inj (a := u % 10) (b := v % 10) (by omega) (by omega) (by simpa using h2)
        match n, hn with
        | 0, hn => omega
        | n + 1, hn =>
          have e1 := dec_inj n (u / 10) (v / 10) (by omega) h1
          omega
theorem dec_head : ∀ (n u : Nat), u ≤ n → ∀ c, (decDigits u).head? = some c → 48 ≤ c.toNat
  | n, u, hn, c, h => by
    by_cases hu : u < 10
    · rw [dec_small hu] at h
      simp only [List.head?_cons, Option.some.injEq] at h
      subst h
      rw [UInt8.toNat_ofNat']; omega
    · obtain ⟨c0, r0, e⟩ := List.exists_cons_of_ne_nil (dec_ne (u / 10))
      rw [dec_big hu, e, List.cons_append, List.head?_cons, Option.some.injEq] at h
      match n, hn with
      | 0, hn => omega
      | n + 1, hn => exact dec_head n (u / 10) (by omega) c (by rw [e, ← h]; rfl)
theorem itoa_inj (n m : Int) (h : itoa n = itoa m) : n = m := by
  unfold itoa at h
  by_cases hn : n < 0
  · by_cases hm : m < 0
    · rw [if_pos hn, if_pos hm] at h
      have := dec_inj _ _ _ (Nat.le_refl _) (List.cons.inj h).2
      omega
    · rw [if_pos hn, if_neg hm] at h
      have := dec_head _ m.toNat (Nat.le_refl _) 45 (by rw [← h]; rfl)
      simp at this
  · by_cases hm : m < 0
    · rw [if_neg hn, if_pos hm] at h
      have := dec_head _ n.toNat (Nat.le_refl _) 45 (by rw [h]; rfl)
      simp at this
    · rw [if_neg hn, if_neg hm] at h
      have := dec_inj _ _ _ (Nat.le_refl _) h
      omega

/-- A frame's name. -/
def nameL (a : List Nat) (n : Int) : List UInt8 := (102 :: hexL a ++ [46]) ++ itoa n
theorem nameL_inj (a b : List Nat) (n m : Int) (ha : a.length = 16) (hb : b.length = 16) (ha2 : ∀ x, x ∈ a → x < 256) (hb2 : ∀ x, x ∈ b → x < 256) : nameL a n = nameL b m ↔ a = b ∧ n = m := by
  constructor
  · intro h
    unfold nameL at h
    obtain ⟨h1, h2⟩ := List.append_inj h (by simp [hexL_length, ha, hb])
    refine ⟨?_, itoa_inj n m h2⟩
    obtain ⟨h3, _⟩ := List.append_inj' h1 rfl
    exact hexL_inj a b (by omega) ha2 hb2 (List.cons.inj h3).2
  · rintro ⟨rfl, rfl⟩; rfl

end Go.Proofs.YtcffacpdjcfidaaDoor.Fr
