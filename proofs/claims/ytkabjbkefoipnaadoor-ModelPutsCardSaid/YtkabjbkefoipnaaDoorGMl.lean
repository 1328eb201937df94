import Derived.Test.YtkabjbkefoipnaaDoorGMk
import Derived.Test.YtkabjbkefoipnaaDoorGMj
namespace Go.Proofs.YtkabjbkefoipnaaDoor.Md
open Go.Lib Go.RowKit Go.Proofs.YtkabjbkefoipnaaDoorW.PrintWords Go.Proofs.YtkabjbkefoipnaaDoorW.PrintLast Go.Proofs.YtkabjbkefoipnaaDoorW.PrintMore Go.Proofs.YtkabjbkefoipnaaDoor.PM Go.Proofs.YtkabjbkefoipnaaDoor.Nm
set_option linter.unusedVariables false
set_option linter.unusedSimpArgs false
section
variable {l : List Sc} {name : ByteArray} {v : Kn} {i0 i : Nat} {t : Bool}
def outL (l : List Sc) (name : ByteArray) (v : Kn) (i0 : Nat) (t : Bool) (i : Nat) : List Sc := if i0 < i then (moreL l name v i0 t).take (if t = true then i else i + 1) else l.take i
theorem more_new : moreL l name v i0 false = l.take i0 ++ ⟨name, cutV [v]⟩ :: l.drop i0 := rfl
theorem more_len (h : i0 ≤ l.length) : (moreL l name v i0 t).length = if t = true then l.length else l.length + 1 := by
  cases t with
  | true => unfold moreL; rw [if_pos rfl, if_pos rfl, List.length_set]
  | false => rw [more_new, if_neg (by simp), List.length_append, List.length_cons, List.length_take, List.length_drop]; omega
theorem more_ne (h : i0 ≤ l.length) (hi : i < l.length) (hn : i0 < i) : (moreL l name v i0 t)[if t = true then i else i + 1]? = some l[i] := by
  cases t with
  | true => unfold moreL; rw [if_pos rfl, if_pos rfl, List.getElem?_set_ne (by omega), List.getElem?_eq_getElem hi]
  | false =>
    rw [more_new, if_neg (by simp), List.getElem?_append_right (by rw [List.length_take]; omega), List.length_take, show i + 1 - min i0 l.length = (i - i0) + 1 by omega, List.getElem?_cons_succ, List.getElem?_drop, show i0 + (i - i0) = i by omega, List.getElem?_eq_getElem hi]
theorem take_one {α : Type} {L : List α} {n : Nat} {x : α} (h : L[n]? = some x) : L.take (n + 1) = L.take n ++ [x] := by
  rw [List.take_add_one, h]; rfl
theorem outL_zero : outL l name v i0 t 0 = [] := by unfold outL; rw [if_neg (by omega), List.take_zero]
theorem outL_other (h : i0 ≤ l.length) (hi : i < l.length) (hn : i ≠ i0) : outL l name v i0 t (i + 1) = outL l name v i0 t i ++ [l[i]] := by
  unfold outL
  by_cases hlt : i0 < i
  · rw [if_pos (by omega), if_pos hlt, ← take_one (more_ne h hi hlt)]
    cases t <;> rfl
  · rw [if_neg (by omega), if_neg hlt, take_snoc' l i hi]
theorem outL_there (h : i0 < l.length) : outL l name v i0 true (i0 + 1) = outL l name v i0 true i0 ++ [⟨l[i0].f0, cutV (wasV l i0 true ++ [v])⟩] := by
  unfold outL
  rw [if_pos (show i0 < i0 + 1 by omega), if_neg (show ¬ i0 < i0 by omega), if_pos rfl, more_there h, was_there h, take_one (n := i0) (x := ⟨l[i0].f0, cutV (l[i0].f1 ++ [v])⟩) (by rw [List.getElem?_set_self h]), List.take_set_of_le (by omega)]
theorem outL_new (h : i0 < l.length) : outL l name v i0 false (i0 + 1) = (outL l name v i0 false i0 ++ [⟨name, cutV (wasV l i0 false ++ [v])⟩]) ++ [l[i0]] := by
  unfold outL
  rw [if_pos (show i0 < i0 + 1 by omega), if_neg (show ¬ i0 < i0 by omega), if_neg (by simp), more_new, was_not]
  have hlt : (l.take i0).length = i0 := by rw [List.length_take]; omega
  rw [List.take_append, hlt, List.take_of_length_le (by omega), show i0 + 1 + 1 - i0 = 2 by omega, List.drop_eq_getElem_cons h]
  rw [List.take_succ_cons, List.take_succ_cons, List.take_zero, List.append_assoc]
  rfl
theorem outL_len (h : i0 ≤ l.length) (hi : i ≤ l.length) : (outL l name v i0 t i).length ≤ i + 1 := by
  unfold outL
  split
  · rw [List.length_take]; split <;> omega
  · rw [List.length_take]; omega
theorem outL_end (h : i0 < l.length) : outL l name v i0 t l.length = moreL l name v i0 t := by
  unfold outL
  rw [if_pos h, List.take_of_length_le (by rw [more_len (by omega)]; split <;> omega)]
theorem outL_last (h : i0 = l.length) : outL l name v i0 false l.length ++ [⟨name, cutV (wasV l i0 false ++ [v])⟩] = moreL l name v i0 false := by
  subst h
  unfold outL
  rw [if_neg (by omega), more_new, was_not, List.take_length, List.drop_length]
  rfl
end
theorem WithR.nil {l : List Sc} {name : ByteArray} {v : Kn} {w' : World} {z : Int} (h : WithP l name v [] z) : WithR l name v w' (.returned (.tuple #[.slice none 0 0, .int .i64 z])) := ⟨[], z, none, 0, rfl, h, ⟨Kd.C_nil _ _, Nat.le_refl _⟩⟩
open Classical in
noncomputable def withF (l : List Sc) (name : ByteArray) (v : Kn) (i : Nat) (t : Bool) : List Sc × Int :=
  if rightN name = false then ([], 5) else if ¬ (RightP l ∧ 1 ≤ v.f0 ∧ v.f0 ≤ 200) then ([], 14) else if v.f0 ≤ (lastV (wasV l i t)).f0 then ([], 14) else if 1000 < v.f2.length then ([], 3)
  else if v.f1 = true ∧ (lastV (wasV l i t)).f1 = true then ([], 6) else if t = false ∧ 24 ≤ l.length then ([], 7) else (moreL l name v i t, 0)
theorem WithP.isF {l : List Sc} {name : ByteArray} {v : Kn} {r : List Sc} {y : Int} {i : Nat} {t : Bool} (h : WithP l name v r y) (hf : FndP l name i t) : (r, y) = withF l name v i t := by
  have hq : ∀ {b : Bool}, b = true → ¬ b = false := fun h k => by rw [h] at k; cases k
  unfold withF
  cases h with
  | name h => rw [if_pos h]
  | arg h k => rw [if_neg (hq h), if_pos k]
  | old i t h1 h2 h3 h4 h5 h6 =>
    obtain ⟨rfl, rfl⟩ := FndP.unique hf h5 h2 h1
    rw [if_neg (hq h1), if_neg (not_not_intro ⟨h2, h3, h4⟩), if_pos h6]
  | long i t h1 h2 h3 h4 h5 h6 h7 =>
    obtain ⟨rfl, rfl⟩ := FndP.unique hf h5 h2 h1
    rw [if_neg (hq h1), if_neg (not_not_intro ⟨h2, h3, h4⟩), if_neg (by omega), if_pos h7]
  | none i t h1 h2 h3 h4 h5 h6 h7 h8 h9 =>
    obtain ⟨rfl, rfl⟩ := FndP.unique hf h5 h2 h1
    rw [if_neg (hq h1), if_neg (not_not_intro ⟨h2, h3, h4⟩), if_neg (by omega), if_neg (by omega), if_pos ⟨h8, h9⟩]
  | full i h1 h2 h3 h4 h5 h6 h7 h8 h9 =>
    obtain ⟨rfl, rfl⟩ := FndP.unique hf h5 h2 h1
    rw [if_neg (hq h1), if_neg (not_not_intro ⟨h2, h3, h4⟩), if_neg (by omega), if_neg (by omega), if_neg (fun k => hq k.2 (h8 k.1)), if_pos ⟨rfl, h9⟩]
  | ok i t h1 h2 h3 h4 h5 h6 h7 h8 h9 =>
    obtain ⟨rfl, rfl⟩ := FndP.unique hf h5 h2 h1
    rw [if_neg (hq h1), if_neg (not_not_intro ⟨h2, h3, h4⟩), if_neg (by omega), if_neg (by omega), if_neg (fun k => hq k.2 (h8 k.1)), if_neg (fun k => by have := h9 k.1; omega)]
theorem WithP.unique {l : List Sc} {name : ByteArray} {v : Kn} {r s : List Sc} {y z : Int} (h : WithP l name v r y) (k : WithP l name v s z) : r = s ∧ y = z := by
  obtain ⟨i, t, hf⟩ := FndP.any l name
  have := (h.isF hf).trans (k.isF hf).symm
  injection this with h1 h2
  exact ⟨h1, h2⟩
end Go.Proofs.YtkabjbkefoipnaaDoor.Md
