/- New: what a key's words are; the walk. -/
import Derived.Test.YtingegkipimakaaAe5
import Derived.Great.FillDense
namespace Go.Proofs.Ytingegkipimakaa.Ae
open Go.RowKit Go.Proofs.YtingegkipimakaaW.PrintWords Go.Proofs.YtingegkipimakaaW.PrintLast Go.Proofs.YtingegkipimakaaW.PrintMore Go.Proofs.Ytingegkipimakaa.PA
set_option linter.unusedVariables false
set_option linter.unusedSimpArgs false

/-- The first eight words, four bytes at a time. -/
def init4 (key : List Int) : Nat → List Int
  | 0 => List.replicate 240 0
  | n + 1 => ((((init4 key n).set (n * 4) (key.getD (4 * n) 0)).set (n * 4 + 1) (key.getD (4 * n + 1) 0)).set (n * 4 + 2) (key.getD (4 * n + 2) 0)).set (n * 4 + 3) (key.getD (4 * n + 3) 0)
theorem init4_zero (key : List Int) : init4 key 0 = List.replicate 240 0 := rfl
theorem init4_succ (key : List Int) (n : Nat) : init4 key (n + 1) = ((((init4 key n).set (n * 4) (key.getD (4 * n) 0)).set (n * 4 + 1) (key.getD (4 * n + 1) 0)).set (n * 4 + 2) (key.getD (4 * n + 2) 0)).set (n * 4 + 3) (key.getD (4 * n + 3) 0) := rfl
theorem init4_length (key : List Int) (n : Nat) : (init4 key n).length = 240 := by
  induction n with
  | zero => exact List.length_replicate
  | succ n ih => simp [init4, ih]
theorem getD_set (l : List Int) (n : Nat) (v : Int) (j : Nat) : (l.set n v).getD j 0 = if n = j ∧ j < l.length then v else l.getD j 0 := by
  simp only [List.getD_eq_getElem?_getD, List.getElem?_set]
  by_cases h : n = j
  · subst h
    by_cases hl : n < l.length
    · simp [hl]
    · simp [hl]
  · simp [h]
theorem zeros_getD (n j : Nat) : (List.replicate n (0 : Int)).getD j 0 = 0 := by
  rw [List.getD_eq_getElem?_getD, List.getElem?_replicate]; split <;> rfl
theorem init4_getD (key : List Int) (n : Nat) (hn : n ≤ 60) (j : Nat) : (init4 key n).getD j 0 = if j < 4 * n then key.getD j 0 else 0 := by
  induction n with
  | zero => rw [if_neg (by omega)]; exact zeros_getD 240 j
  | succ n ih =>
    simp only [init4, getD_set, List.length_set, init4_length]
    rw [ih (by omega)]
    by_cases h0 : j < 4 * n
    · rw [if_neg (by omega), if_neg (by omega), if_neg (by omega), if_neg (by omega), if_pos h0, if_pos (by omega)]
    · by_cases h1 : j < 4 * (n + 1)
      · rw [if_pos h1]
        have : j = 4 * n ∨ j = 4 * n + 1 ∨ j = 4 * n + 2 ∨ j = 4 * n + 3 := by omega
        rcases this with rfl | rfl | rfl | rfl
        · rw [if_neg (by omega), if_neg (by omega), if_neg (by omega), if_pos (by omega)]
        · rw [if_neg (by omega), if_neg (by omega), if_pos (by omega)]
        · rw [if_neg (by omega), if_pos (by omega)]
        · rw [if_pos (by omega)]
      · rw [if_neg (by omega), if_neg (by omega), if_neg (by omega), if_neg (by omega), if_neg h0, if_neg h1]
def mapIn (t x : List Int) (n : Nat) : List Int := match n with
  | 0 => x
  | n + 1 => (mapIn t x n).set n (t.getD ((mapIn t x n).getD n 0).toNat 0)
theorem mapIn_length (t x : List Int) (n : Nat) : (mapIn t x n).length = x.length := by
  induction n with
  | zero => rfl
  | succ n ih => simp [mapIn, ih]
theorem mapIn_at (t x : List Int) (n j : Nat) (h : n ≤ j) : (mapIn t x n).getD j 0 = x.getD j 0 := by
  induction n with
  | zero => rfl
  | succ n ih =>
    rw [mapIn, getD_set, if_neg (by omega)]
    exact ih (by omega)
def keyIn (w : List Int) (i : Nat) (x : List Int) (n : Nat) : List Int := match n with
  | 0 => w
  | n + 1 => (keyIn w i x n).set (i * 4 + n) (Go.bits .xor .u8 ((keyIn w i x n).getD ((i - 8) * 4 + n) 0) (x.getD n 0))
theorem keyIn_length (w : List Int) (i : Nat) (x : List Int) (n : Nat) : (keyIn w i x n).length = w.length := by
  induction n with
  | zero => rfl
  | succ n ih => simp [keyIn, ih]
def lastL (w : List Int) (i : Nat) : List Int := [w.getD ((i - 1) * 4) 0, w.getD ((i - 1) * 4 + 1) 0, w.getD ((i - 1) * 4 + 2) 0, w.getD ((i - 1) * 4 + 3) 0]
def turnL (t x : List Int) (more : Int) : List Int := [Go.bits .xor .u8 (t.getD (x.getD 1 0).toNat 0) more, t.getD (x.getD 2 0).toNat 0, t.getD (x.getD 3 0).toNat 0, t.getD (x.getD 0 0).toNat 0]
def yL (t w : List Int) (more : Int) (i : Nat) : List Int :=
  if i % 8 = 0 then turnL t (lastL w i) more else if i % 8 = 4 then mapIn t (lastL w i) 4 else lastL w i
attribute [local irreducible] init4 in
def wrd (t key : List Int) : Nat → List Int × Int
  | 0 => (init4 key 8, 1)
  | n + 1 => (keyIn (wrd t key n).1 (n + 8) (yL t (wrd t key n).1 (wrd t key n).2 (n + 8)) 4, if (n + 8) % 8 = 0 then twice (wrd t key n).2 else (wrd t key n).2)
attribute [local irreducible] init4 in
theorem wrd_zero (t key : List Int) : wrd t key 0 = (init4 key 8, 1) := by simp only [wrd]
attribute [local irreducible] init4 in
theorem wrd_succ (t key : List Int) (n : Nat) : wrd t key (n + 1) = (keyIn (wrd t key n).1 (n + 8) (yL t (wrd t key n).1 (wrd t key n).2 (n + 8)) 4, if (n + 8) % 8 = 0 then twice (wrd t key n).2 else (wrd t key n).2) := by simp only [wrd]
attribute [local irreducible] init4 in
theorem wrd_length (t key : List Int) (n : Nat) : (wrd t key n).1.length = 240 := by
  induction n with
  | zero => simp only [wrd]; exact init4_length key 8
  | succ n ih => rw [wrd, keyIn_length, ih]
theorem yL_length (t w : List Int) (more : Int) (i : Nat) : (yL t w more i).length = 4 := by
  unfold yL
  split
  · rfl
  · split
    · rw [mapIn_length]; rfl
    · rfl
theorem init4_by {key : List Int} (h : By key) (n : Nat) : By (init4 key n) := by
  induction n with
  | zero => exact By.zeros _
  | succ n ih => exact (((ih.set _ _ (h _).1 (h _).2).set _ _ (h _).1 (h _).2).set _ _ (h _).1 (h _).2).set _ _ (h _).1 (h _).2
theorem keyIn_by {w : List Int} (h : By w) (i : Nat) (x : List Int) (n : Nat) : By (keyIn w i x n) := by
  induction n with
  | zero => exact h
  | succ n ih => exact ih.set _ _ (bits_by _ _ _).1 (bits_by _ _ _).2
attribute [local irreducible] init4 in
theorem wrd_by (t : List Int) {key : List Int} (h : By key) (n : Nat) : By (wrd t key n).1 := by
  induction n with
  | zero => simp only [wrd]; exact init4_by h 8
  | succ n ih => exact keyIn_by ih _ _ _
def wordsL (t key : List Int) : List Int := (wrd t key 52).1
/-- A key's box. -/
def boxL (key : List Int) : List Int := tabL ++ wordsL tabL key
theorem boxL_length (key : List Int) : (boxL key).length = 496 := by
  rw [boxL, List.length_append, tabL_length, wordsL, wrd_length]

theorem box_tab (ks : List Int) (j : Nat) (h : j < 256) : (tabL ++ ks).getD j 0 = tabL.getD j 0 := by
  rw [List.getD_eq_getElem?_getD, List.getD_eq_getElem?_getD, List.getElem?_append_left (by rw [tabL_length]; exact h)]

theorem built_box (T : List Int) (hT : T.length = 256) : Try.prog.built 51 [(0, .agg (u8s T))] = some (u8s (T ++ List.replicate 240 0)) := by
  have h1 : (Try.prog.info? 51).map (·.zero) = some (some (.agg (u8s (List.replicate 496 0)))) := by kernel_rfl
  have h2 := Try.underlying51
  cases h : Try.prog.info? 51 with
  | none => rw [h] at h1; cases h1
  | some it =>
    rw [h] at h1
    have hz : it.zero = some (.agg (u8s (List.replicate 496 0))) := Option.some.inj h1
    have hp : ([{ name := "t", type := 26, offset := 0, embedded := false, tag := "", pkgPath := "scrinium/aes", byteOffset := 0 }, { name := "keys", type := 49, offset := 256, embedded := false, tag := "", pkgPath := "scrinium/aes", byteOffset := 256 }] : List Field).mapM (fun f => (Try.prog.info? f.type).map fun i => (f.offset, i.size)) = some [(0, 256), (256, 240)] := by kernel_rfl
    unfold Program.built
    rw [h, h2]
    simp only [hz]
    rw [hp]
    obtain ⟨s1, s2⟩ := Great.foldl_set 0 (T.map (Value.int .u8)) 0 (u8s (List.replicate 496 0))
    have hs : (u8s (List.replicate 496 0)).size = 496 := by rw [u8s_size, List.length_replicate]
    have hs' : (u8s T).size = 256 := by rw [u8s_size, hT]
    show Instr.fill _ (u8s (List.replicate 496 0)) [(0, .agg (u8s T))] = _
    unfold Instr.fill
    show (if (u8s T).size ≠ 256 || 0 + (u8s T).size > (u8s (List.replicate 496 0)).size then none else _) = _
    rw [hs, hs', if_neg (by decide)]
    unfold Instr.fill
    congr 1
    apply Array.ext_getElem?
    intro k
    have e : (Array.foldl (fun cs (x : Value × Nat) => cs.setIfInBounds (0 + x.2) x.1) (u8s (List.replicate 496 0)) (u8s T).zipIdx) = ((T.map (Value.int .u8)).zipIdx 0).foldl (fun cs (x : Value × Nat) => cs.setIfInBounds (0 + x.2) x.1) (u8s (List.replicate 496 0)) := by
      rw [← Array.foldl_toList]
      rw [Array.toList_zipIdx]
    refine (congrArg (·[k]?) e).trans ?_
    show (List.foldl _ _ _)[k]? = _
    rw [s2 k, hs, List.length_map, hT]
    simp only [u8s, List.getElem?_toArray, List.getElem?_map, Nat.zero_add, Nat.zero_le, true_and, Nat.sub_zero]
    rw [List.getElem?_append, hT]
    by_cases hk : k < 256
    · rw [if_pos (by omega), if_pos hk]
    · rw [if_neg (by omega), if_neg hk, List.getElem?_replicate, List.getElem?_replicate]
      by_cases h2 : k < 496
      · rw [if_pos h2, if_pos (by omega)]
      · rw [if_neg h2, if_neg (by omega)]

end Go.Proofs.Ytingegkipimakaa.Ae
