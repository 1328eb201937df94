import Derived.Test.YtkabjbkefoipnaaDoorGPMa
import Derived.Lib.MapLaws
import Derived.Lib.TrimUEq
import Derived.Lib.TrimU
namespace Go.Proofs.YtkabjbkefoipnaaDoor.Nm
open Go.Lib Go.RowKit Go.Proofs.YtkabjbkefoipnaaDoorW.PrintWords Go.Proofs.YtkabjbkefoipnaaDoorW.PrintLast Go.Proofs.YtkabjbkefoipnaaDoorW.PrintMore Go.Proofs.YtkabjbkefoipnaaDoor.PM
set_option linter.unusedVariables false
set_option linter.unusedSimpArgs false
abbrev BL (s : ByteArray) : List UInt8 := s.data.toList
theorem BL_length (s : ByteArray) : (BL s).length = s.size := rfl
theorem BL_extract (s : ByteArray) (p : Nat) : BL (s.extract p s.size) = (BL s).drop p := by
  have h : (s.extract p s.size).data = s.data.extract p s.data.size := by simp [ByteArray.data_extract]
  simp only [BL, h, Array.toList_extract, List.extract]
  rw [List.take_of_length_le]
  simp
def rs : Nat → List UInt8 → List Nat
  | 0, _ => []
  | n + 1, l => if l = [] then [] else (decodeL l).1 :: rs n (l.drop (decodeL l).2)
theorem rs_nil : ∀ n, rs n [] = []
  | 0 => rfl
  | n + 1 => by simp [rs]
theorem rs_fuel : ∀ (n m : Nat) (l : List UInt8), l.length ≤ n → l.length ≤ m → rs n l = rs m l
  | 0, m, l, hn, _ => by
    have : l = [] := List.eq_nil_of_length_eq_zero (by omega)
    subst this
    rw [rs_nil, rs_nil]
  | n + 1, 0, l, _, hm => by
    have : l = [] := List.eq_nil_of_length_eq_zero (by omega)
    subst this
    rw [rs_nil, rs_nil]
  | n + 1, m + 1, l, hn, hm => by
    by_cases h : l = []
    · subst h; rw [rs_nil, rs_nil]
    · have hw := decodeL_width l
      have hl : 0 < l.length := List.length_pos_iff.2 h
      simp only [rs, if_neg h]
      rw [rs_fuel n m _ (by rw [List.length_drop]; omega) (by rw [List.length_drop]; omega)]
def runes (l : List UInt8) : List Nat := rs l.length l
theorem runes_step (l : List UInt8) (h : l ≠ []) : runes l = (decodeL l).1 :: runes (l.drop (decodeL l).2) := by
  have hw := decodeL_width l
  have hl : 0 < l.length := List.length_pos_iff.2 h
  unfold runes
  obtain ⟨n, hn⟩ : ∃ n, l.length = n + 1 := ⟨l.length - 1, by omega⟩
  conv => lhs; rw [hn]; unfold rs; rw [if_neg h]
  rw [rs_fuel n (l.drop (decodeL l).2).length _ (by rw [List.length_drop]; omega) (Nat.le_refl _)]
end Go.Proofs.YtkabjbkefoipnaaDoor.Nm
