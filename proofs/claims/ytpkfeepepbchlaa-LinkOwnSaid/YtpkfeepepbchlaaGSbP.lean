import Derived.Test.YtpkfeepepbchlaaGPKa
namespace Go.Proofs.Ytpkfeepepbchlaa.Sb
open Go.RowKit Go.Proofs.YtpkfeepepbchlaaW.PrintWords Go.Proofs.YtpkfeepepbchlaaW.PrintLast Go.Proofs.YtpkfeepepbchlaaW.PrintMore Go.Proofs.Ytpkfeepepbchlaa.PK
set_option linter.unusedVariables false
set_option linter.unusedSimpArgs false
def M64 : Int := 18446744073709551616
def wd (x : Int) : Int := if x < 256 then 1 else if x < 65536 then 2 else if x < 16777216 then 3 else if x < 4294967296 then 4 else if x < 1099511627776 then 5 else if x < 281474976710656 then 6 else if x < 72057594037927936 then 7 else 8
theorem wd_le (x : Int) : 1 ≤ wd x ∧ wd x ≤ 8 := by
  unfold wd; repeat' split
  all_goals omega
theorem wd_small (x : Int) (h : x < 4294967296) : wd x ≤ 4 := by
  unfold wd; repeat' split
  all_goals omega
def spr (x : Int) : Nat → List Int
  | 0 => []
  | n + 1 => spr (x / 256) n ++ [x % 256]
theorem spr_length (x : Int) (n : Nat) : (spr x n).length = n := by
  induction n generalizing x with
  | zero => rfl
  | succ n ih => simp [spr, ih]
theorem width_step (k : Nat) (x n : Int) (h : 0 ≤ n) (hn : n < 100) : bin_width.l0 (k + 1) x n = if 0 < x then bin_width.l0 k (x / 256) (n + 1) else some n := by
  have e : wrap64 (n + 1) = n + 1 := by unfold wrap64; omega
  simp only [bin_width.l0, gt_iff_lt, e]
theorem width_is (x : Int) (h0 : 0 ≤ x) (h1 : x < M64) : bin_width.f 9 x = some (wd x) := by
  unfold M64 at h1
  unfold bin_width.f wd
  rw [width_step _ _ _ (by omega) (by omega)]
  by_cases c1 : x < 256
  · rw [if_neg (by omega), if_pos c1]
  rw [if_pos (by omega), if_neg c1, width_step _ _ _ (by omega) (by omega)]
  by_cases c2 : x < 65536
  · rw [if_neg (by omega), if_pos c2]; rfl
  rw [if_pos (by omega), if_neg c2, width_step _ _ _ (by omega) (by omega)]
  by_cases c3 : x < 16777216
  · rw [if_neg (by omega), if_pos c3]; rfl
  rw [if_pos (by omega), if_neg c3, width_step _ _ _ (by omega) (by omega)]
  by_cases c4 : x < 4294967296
  · rw [if_neg (by omega), if_pos c4]; rfl
  rw [if_pos (by omega), if_neg c4, width_step _ _ _ (by omega) (by omega)]
  by_cases c5 : x < 1099511627776
  · rw [if_neg (by omega), if_pos c5]; rfl
  rw [if_pos (by omega), if_neg c5, width_step _ _ _ (by omega) (by omega)]
  by_cases c6 : x < 281474976710656
  · rw [if_neg (by omega), if_pos c6]; rfl
  rw [if_pos (by omega), if_neg c6, width_step _ _ _ (by omega) (by omega)]
  by_cases c7 : x < 72057594037927936
  · rw [if_neg (by omega), if_pos c7]; rfl
  rw [if_pos (by omega), if_neg c7, width_step _ _ _ (by omega) (by omega)]
  rw [if_neg (by omega)]; rfl
theorem shr_lit (x : Int) (j : Nat) (h : j ≤ 64) : shr .u64 x (j : Int) = x / 2 ^ j := by
  unfold shr
  rw [Int.toNat_natCast, Nat.min_eq_left (show j ≤ IntKind.u64.bits from h)]
theorem div_pow (x : Int) (j : Nat) : x / 2 ^ (8 * (j + 1)) = x / 256 / 2 ^ (8 * j) := by
  rw [Int.ediv_ediv_of_nonneg (by decide)]
  congr 1
  rw [show (256 : Int) = 2 ^ 8 from rfl, ← Int.pow_add]
  congr 1; omega
theorem spr_get (x : Int) (n i : Nat) (h : i < n) : (spr x n)[n - 1 - i]? = some (x / 2 ^ (8 * i) % 256) := by
  induction n generalizing x i with
  | zero => omega
  | succ n ih =>
    cases i with
    | zero => simp [spr, spr_length]
    | succ j =>
      rw [spr, List.getElem?_append_left (by rw [spr_length]; omega), show n + 1 - 1 - (j + 1) = n - 1 - j by omega, ih (x / 256) j (by omega), div_pow]
theorem spread_loop (x : Int) (n : Nat) (hn : n ≤ 8) : ∀ (d : Nat) (k i : Nat) (l : List Int), i + d = n → d < k → l.length = n → (∀ j, j < i → l[n - 1 - j]? = some (x / 2 ^ (8 * j) % 256)) →
    bin_spread.l0 k x n l n i = some (spr x n) := by
  intro d
  induction d with
  | zero =>
    intro k i l hi hk hl hg
    obtain ⟨k, rfl⟩ : ∃ m, k = m + 1 := ⟨k - 1, by omega⟩
    simp only [bin_spread.l0]
    rw [if_neg (by omega)]
    congr 1
    refine List.ext_getElem? fun m => ?_
    by_cases hm : m < n
    · have h1 := hg (n - 1 - m) (by omega)
      have h2 := spr_get x n (n - 1 - m) (by omega)
      rw [show n - 1 - (n - 1 - m) = m by omega] at h1 h2
      rw [h1, h2]
    · rw [List.getElem?_eq_none (by omega), List.getElem?_eq_none (by rw [spr_length]; omega)]
  | succ d ih =>
    intro k i l hi hk hl hg
    obtain ⟨k, rfl⟩ : ∃ m, k = m + 1 := ⟨k - 1, by omega⟩
    have e1 : wrap64 (8 * (i : Int)) = ((8 * i : Nat) : Int) := by unfold wrap64; omega
    have e2 : wrap64 (wrap64 ((n : Int) - 1) - i) = ((n - 1 - i : Nat) : Int) := by unfold wrap64; omega
    have e3 : wrap64 ((i : Int) + 1) = ((i + 1 : Nat) : Int) := by unfold wrap64; omega
    simp only [bin_spread.l0, e1, e2, e3]
    rw [if_pos (by omega), if_pos (by omega), if_pos (by omega), if_pos (by omega)]
    refine ih k (i + 1) _ (by omega) (by omega) (by rw [List.length_set]; exact hl) ?_
    intro j hj
    rw [Int.toNat_natCast, List.getElem?_set]
    by_cases hji : j = i
    · subst hji
      rw [if_pos rfl, if_pos (by omega), shr_lit _ _ (by omega)]
    · rw [if_neg (by omega)]
      exact hg j (by omega)
theorem spread_is (x : Int) (n : Nat) (hn : n ≤ 8) : bin_spread.f 9 x n = some (spr x n) := by
  unfold bin_spread.f
  rw [if_pos (by omega), if_pos (by omega)]
  exact spread_loop x n hn n 9 0 _ (by omega) (by omega) (by simp) (fun j hj => by omega)
def numB (x n : Int) : List Int × Int := if n < 1 ∨ n > 8 then ([], 14) else if wd x > n then ([], 3) else (spr x n.toNat, 0)
def smallB (x : Int) : List Int × Int := if x ≥ 4294967296 then ([], 3) else if x < 251 then ([x], 0) else ((250 + wd x) :: spr x (wd x).toNat, 0)
def textB (t : List Int) : List Int × Int := if (t.length : Int) > 65536 then ([], 7) else ((smallB t.length).1 ++ t, 0)
theorem numB_length (x n : Int) : (numB x n).1.length ≤ 8 := by
  unfold numB
  split
  · simp
  · split
    · simp
    · rw [spr_length]; omega
theorem smallB_length (x : Int) : (smallB x).1.length ≤ 9 := by
  have := wd_le x
  unfold smallB
  split
  · simp
  · split
    · simp
    · rw [List.length_cons, spr_length]; omega
theorem textB_length (t : List Int) : (textB t).1.length ≤ t.length + 9 := by
  have := smallB_length t.length
  unfold textB
  split
  · simp
  · rw [List.length_append]; omega
theorem same_loop (a b : List Int) (hl : a.length = b.length) (hm : a.length ≤ 140737488355328) : ∀ (d k i : Nat), i + d = a.length → d < k → scriniumref01_Same.l0 k a b i = some (decide (a.drop i = b.drop i)) := by
  intro d
  induction d with
  | zero =>
    intro k i hi hk
    obtain ⟨k, rfl⟩ : ∃ m, k = m + 1 := ⟨k - 1, by omega⟩
    simp only [scriniumref01_Same.l0]
    rw [if_neg (by omega), List.drop_eq_nil_of_le (by omega), List.drop_eq_nil_of_le (by omega)]
    simp
  | succ d ih =>
    intro k i hi hk
    obtain ⟨k, rfl⟩ : ∃ m, k = m + 1 := ⟨k - 1, by omega⟩
    have c1 : (i : Int) < (a.length : Int) := by omega
    have c2 : (i : Int) < (b.length : Int) := by omega
    have h1 : i < a.length := by omega
    have h2 : i < b.length := by omega
    have hih := ih k (i + 1) (by omega) (by omega)
    have e1 : rd a (i : Int) = a[i] := by unfold rd; rw [Int.toNat_natCast, List.getD_eq_getElem?_getD, List.getElem?_eq_getElem h1]; rfl
    have e2 : rd b (i : Int) = b[i] := by unfold rd; rw [Int.toNat_natCast, List.getD_eq_getElem?_getD, List.getElem?_eq_getElem h2]; rfl
    have e3 : wrap64 ((i : Int) + 1) = ((i + 1 : Nat) : Int) := by clear hih ih e1 e2; unfold wrap64; omega
    simp only [scriniumref01_Same.l0, e1, e2, e3]
    rw [if_pos c1, if_pos (Int.natCast_nonneg _), if_pos c2, List.drop_eq_getElem_cons h1, List.drop_eq_getElem_cons h2, hih]
    by_cases c : a[i] = b[i]
    · rw [if_pos c]; congr 1; exact decide_eq_decide.2 ⟨fun h => by rw [c, h], fun h => (List.cons.inj h).2⟩
    · rw [if_neg c]; congr 1; exact (decide_eq_false (fun h => c (List.cons.inj h).1)).symm
theorem same_is (a b : List Int) (k : Nat) (hm : a.length ≤ 140737488355328) (hk : a.length < k) : scriniumref01_Same.f k a b = some (decide (a = b)) := by
  unfold scriniumref01_Same.f
  by_cases c : a.length = b.length
  · rw [if_pos (by omega)]
    have := same_loop a b c hm a.length k 0 (by omega) hk
    simpa using this
  · rw [if_neg (by omega)]
    simp [show a ≠ b from fun h => c (by rw [h])]
theorem same_self (a : List Int) (hm : a.length ≤ 140737488355328) : scriniumref01_Same.f (a.length + 1) a a = some true := by rw [same_is a a _ hm (by omega)]; simp
end Go.Proofs.Ytpkfeepepbchlaa.Sb
