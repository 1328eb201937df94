/- What the code computes is what the reference computes; plain. -/
import Derived.Test.YtingegkipimakaaAe10
namespace Go.Proofs.Ytingegkipimakaa.Ae
open Go.RowKit Go.Proofs.YtingegkipimakaaW.PrintWords Go.Proofs.YtingegkipimakaaW.PrintLast Go.Proofs.YtingegkipimakaaW.PrintMore Go.Proofs.Ytingegkipimakaa.PA
set_option linter.unusedVariables false
set_option linter.unusedSimpArgs false

theorem addL_getD (cs : List Int) (r : Nat) (x : List Int) (n : Nat) (hn : n ≤ x.length) (j : Nat) : (addL cs r x n).getD j 0 = if j < n then Go.bits .xor .u8 (x.getD j 0) (cs.getD (256 + r * 16 + j) 0) else x.getD j 0 := by
  induction n with
  | zero => rw [addL, if_neg (Nat.not_lt_zero _)]
  | succ m ih =>
    have e := ih (by omega)
    rw [addL, getD_set, addL_length]
    by_cases h : m = j
    · subst h; rw [if_pos ⟨rfl, by omega⟩, if_pos (by omega), e, if_neg (by omega)]
    · rw [if_neg (by omega), e]
      by_cases h2 : j < m
      · rw [if_pos h2, if_pos (by omega)]
      · rw [if_neg h2, if_neg (by omega)]
theorem rowsL_getD (cs x : List Int) (n : Nat) (hn : n ≤ 16) (j : Nat) : (rowsL cs x n).getD j 0 = if j < n then cs.getD (x.getD ((j + 4 * (j % 4)) % 16) 0).toNat 0 else 0 := by
  induction n with
  | zero => rw [rowsL, zeros_getD, if_neg (Nat.not_lt_zero _)]
  | succ m ih =>
    rw [rowsL, getD_set, rowsL_length, ih (by omega)]
    by_cases h : m = j
    · subst h; rw [if_pos ⟨rfl, by omega⟩, if_pos (by omega)]
    · rw [if_neg (by omega)]
      by_cases h2 : j < m
      · rw [if_pos h2, if_pos (by omega)]
      · rw [if_neg h2, if_neg (by omega)]
def mq (all first : Int) (c : Nat) (s : List Int) (q : Nat) : Int := Go.bits .xor .u8 (s.getD (c + q) 0) (Go.bits .xor .u8 all (twice (Go.bits .xor .u8 (s.getD (c + q) 0) (if q < 3 then s.getD (c + q + 1) 0 else first))))
theorem mixIn_getD (all first : Int) (c : Nat) (s : List Int) (hc : c + 3 < s.length) (k : Nat) (hk : k ≤ 4) (j : Nat) : (mixIn all first c s k).getD j 0 = if c ≤ j ∧ j < c + k then mq all first c s (j - c) else s.getD j 0 := by
  induction k generalizing j with
  | zero => rw [mixIn, if_neg (by omega)]
  | succ m ih =>
    have e1 := ih (by omega) (c + m)
    rw [if_neg (by omega)] at e1
    have e2 := ih (by omega) (c + m + 1)
    rw [if_neg (by omega)] at e2
    rw [mixIn, getD_set, mixIn_length, e1, e2, ih (by omega) j]
    by_cases h : c + m = j
    · subst h
      rw [if_pos (show c + m = c + m ∧ c + m < s.length from ⟨rfl, by omega⟩), if_pos (show c ≤ c + m ∧ c + m < c + (m + 1) by omega), show c + m - c = m by omega]
      rfl
    · rw [if_neg (by omega)]
      by_cases h2 : c ≤ j ∧ j < c + m
      · rw [if_pos h2, if_pos (by omega)]
      · rw [if_neg h2, if_neg (by omega)]
def mm (x : List Int) (i : Nat) : Int := mq (all4 x (4 * (i / 4))) (x.getD (4 * (i / 4)) 0) (4 * (i / 4)) x (i % 4)
theorem mixL_getD (x : List Int) (hx : x.length = 16) (j : Nat) (hj : j ≤ 4) (i : Nat) : (mixL x j).getD i 0 = if i < 4 * j then mm x i else x.getD i 0 := by
  induction j generalizing i with
  | zero => rw [mixL, if_neg (by omega)]
  | succ m ih =>
    have hh : ∀ q, 4 * m ≤ q → (mixL x m).getD q 0 = x.getD q 0 := fun q hq => by rw [ih (by omega) q, if_neg (by omega)]
    rw [mixL, mixIn_getD _ _ _ _ (by rw [mixL_length]; omega) 4 (Nat.le_refl _)]
    by_cases h : 4 * m ≤ i ∧ i < 4 * m + 4
    · rw [if_pos h, if_pos (by omega)]
      unfold mm mq all4
      rw [show 4 * (i / 4) = 4 * m by omega, show i % 4 = i - 4 * m by omega]
      simp only [hh _ (show 4 * m ≤ 4 * m from Nat.le_refl _), hh _ (show 4 * m ≤ 4 * m + 1 by omega), hh _ (show 4 * m ≤ 4 * m + 2 by omega), hh _ (show 4 * m ≤ 4 * m + 3 by omega), hh _ (show 4 * m ≤ 4 * m + (i - 4 * m) by omega), hh _ (show 4 * m ≤ 4 * m + (i - 4 * m) + 1 by omega)]
    · rw [if_neg h, ih (by omega)]
      by_cases h2 : i < 4 * m
      · rw [if_pos h2, if_pos (by omega)]
      · rw [if_neg h2, if_neg (by omega)]

/-! ### Bytes as eight bits -/
def B (a : Int) : BitVec 8 := BitVec.ofNat 8 a.toNat
theorem B_inj {a b : Int} (ha : 0 ≤ a ∧ a < 256) (hb : 0 ≤ b ∧ b < 256) (h : B a = B b) : a = b := by
  have e := congrArg BitVec.toNat h
  simp only [B, BitVec.toNat_ofNat] at e
  omega
theorem xor_nat (a b : Nat) (ha : a < 256) (hb : b < 256) : Go.bits .xor .u8 (a : Int) (b : Int) = ((a ^^^ b : Nat) : Int) := by
  have ha' : a % 2 ^ IntKind.u8.bits = a := Nat.mod_eq_of_lt ha
  have hb' : b % 2 ^ IntKind.u8.bits = b := Nat.mod_eq_of_lt hb
  have hx : a ^^^ b < 2 ^ 8 := Nat.xor_lt_two_pow ha hb
  simp only [bits, BitVec.ofInt_natCast, BitVec.toNat_xor, BitVec.toNat_ofNat, ha', hb']
  exact wraps_u8 _ (Int.natCast_nonneg _) (by omega)
theorem and_nat (a b : Nat) (ha : a < 256) (hb : b < 256) : Go.bits .and .u8 (a : Int) (b : Int) = ((a &&& b : Nat) : Int) :=
  (bits_nat .u8 8 (by decide) wraps_u8 a b ha hb).1
theorem B_xor {a b : Int} (ha : 0 ≤ a ∧ a < 256) (hb : 0 ≤ b ∧ b < 256) : B (Go.bits .xor .u8 a b) = B a ^^^ B b := by
  obtain ⟨m, rfl⟩ := Int.eq_ofNat_of_zero_le ha.1
  obtain ⟨n, rfl⟩ := Int.eq_ofNat_of_zero_le hb.1
  rw [xor_nat m n (by omega) (by omega)]
  unfold B
  simp only [Int.toNat_natCast]
  exact BitVec.ofNat_xor
def Tn (a : Nat) : Nat := if a &&& 128 = 0 then a * 2 % 256 else (a * 2 % 256) ^^^ 27
def T8 (v : BitVec 8) : BitVec 8 := BitVec.ofNat 8 (Tn v.toNat)
theorem twice_nat (a : Nat) (ha : a < 256) : twice (a : Int) = ((Tn a : Nat) : Int) := by
  unfold twice Tn
  rw [show (128 : Int) = ((128 : Nat) : Int) from rfl, and_nat a 128 ha (by decide), show (27 : Int) = ((27 : Nat) : Int) from rfl, show ((a : Int) * 2) % 256 = ((a * 2 % 256 : Nat) : Int) by omega, xor_nat _ 27 (by omega) (by decide)]
  by_cases h : a &&& 128 = 0
  · rw [if_pos (by rw [h]; rfl), if_pos h]
  · rw [if_neg (by omega), if_neg h]
theorem twice_by {a : Int} (ha : 0 ≤ a ∧ a < 256) : 0 ≤ twice a ∧ twice a < 256 := by
  unfold twice
  split
  · omega
  · exact bits_by _ _ _
theorem B_twice {a : Int} (ha : 0 ≤ a ∧ a < 256) : B (twice a) = T8 (B a) := by
  obtain ⟨m, rfl⟩ := Int.eq_ofNat_of_zero_le ha.1
  rw [twice_nat m (by omega)]
  unfold B T8
  simp only [Int.toNat_natCast, BitVec.toNat_ofNat]
  rw [Nat.mod_eq_of_lt (by omega)]
set_option maxRecDepth 100000 in
theorem Tn_lin : ∀ a < 256, ∀ b < 256, Tn (a ^^^ b) = Tn a ^^^ Tn b := by decide +kernel
theorem T8_lin (u v : BitVec 8) : T8 (u ^^^ v) = T8 u ^^^ T8 v := by
  unfold T8
  rw [BitVec.toNat_xor, Tn_lin _ u.isLt _ v.isLt]
  exact BitVec.ofNat_xor
/-- One column's cell. -/
def col (a b c d : BitVec 8) : BitVec 8 := T8 a ^^^ (T8 b ^^^ b) ^^^ c ^^^ d
theorem xor_all {p q : BitVec 8} (h : ∀ i, p.getLsbD i = q.getLsbD i) : p = q := BitVec.eq_of_getLsbD_eq fun i _ => h i
theorem col_of (a b c d : BitVec 8) : a ^^^ ((a ^^^ b ^^^ c ^^^ d) ^^^ T8 (a ^^^ b)) = col a b c d := by
  rw [T8_lin]
  unfold col
  apply xor_all
  intro i
  simp only [BitVec.getLsbD_xor]
  generalize a.getLsbD i = p; generalize b.getLsbD i = q; generalize c.getLsbD i = r; generalize d.getLsbD i = s; generalize (T8 a).getLsbD i = t; generalize (T8 b).getLsbD i = u
  revert p q r s t u; decide
/-- The inverse of a column. -/
def inv (o0 o1 o2 o3 : BitVec 8) : BitVec 8 := o0 ^^^ (o0 ^^^ o1 ^^^ o2 ^^^ o3) ^^^ T8 (o0 ^^^ o1 ^^^ T8 (o0 ^^^ o2 ^^^ T8 (o0 ^^^ o1 ^^^ o2 ^^^ o3)))
theorem col_s (a b c d : BitVec 8) : col a b c d ^^^ col b c d a ^^^ col c d a b ^^^ col d a b c = a ^^^ b ^^^ c ^^^ d := by
  unfold col
  try simp only [T8_lin]
  apply xor_all
  intro i
  simp only [BitVec.getLsbD_xor]
  generalize (T8 a).getLsbD i = a1; generalize a.getLsbD i = a0; generalize (T8 b).getLsbD i = b1; generalize b.getLsbD i = b0; generalize (T8 c).getLsbD i = c1; generalize c.getLsbD i = c0; generalize (T8 d).getLsbD i = d1; generalize d.getLsbD i = d0
  revert a1 a0 b1 b0 c1 c0 d1 d0; decide
theorem col_m (a b c d : BitVec 8) : col a b c d ^^^ col c d a b ^^^ T8 (a ^^^ b ^^^ c ^^^ d) = a ^^^ c := by
  unfold col
  try simp only [T8_lin]
  apply xor_all
  intro i
  simp only [BitVec.getLsbD_xor]
  generalize (T8 a).getLsbD i = a1; generalize a.getLsbD i = a0; generalize (T8 b).getLsbD i = b1; generalize b.getLsbD i = b0; generalize (T8 c).getLsbD i = c1; generalize c.getLsbD i = c0; generalize (T8 d).getLsbD i = d1; generalize d.getLsbD i = d0
  revert a1 a0 b1 b0 c1 c0 d1 d0; decide
theorem col_d (a b c d : BitVec 8) : col a b c d ^^^ col b c d a ^^^ T8 (a ^^^ c) = a ^^^ b := by
  unfold col
  try simp only [T8_lin]
  apply xor_all
  intro i
  simp only [BitVec.getLsbD_xor]
  generalize (T8 a).getLsbD i = a1; generalize a.getLsbD i = a0; generalize (T8 b).getLsbD i = b1; generalize b.getLsbD i = b0; generalize (T8 c).getLsbD i = c1; generalize c.getLsbD i = c0; generalize (T8 d).getLsbD i = d1; generalize d.getLsbD i = d0
  revert a1 a0 b1 b0 c1 c0 d1 d0; decide
theorem col_x (a b c d : BitVec 8) : col a b c d ^^^ (a ^^^ b ^^^ c ^^^ d) ^^^ T8 (a ^^^ b) = a := by
  unfold col
  try simp only [T8_lin]
  apply xor_all
  intro i
  simp only [BitVec.getLsbD_xor]
  generalize (T8 a).getLsbD i = a1; generalize a.getLsbD i = a0; generalize (T8 b).getLsbD i = b1; generalize b.getLsbD i = b0; generalize (T8 c).getLsbD i = c1; generalize c.getLsbD i = c0; generalize (T8 d).getLsbD i = d1; generalize d.getLsbD i = d0
  revert a1 a0 b1 b0 c1 c0 d1 d0; decide
theorem inv_col (a b c d : BitVec 8) : inv (col a b c d) (col b c d a) (col c d a b) (col d a b c) = a := by
  unfold inv
  rw [col_s, col_m, col_d, col_x]

end Go.Proofs.Ytingegkipimakaa.Ae
