import Derived.Test.YtkabjbkefoipnaaDoorGMg
namespace Go.Proofs.YtkabjbkefoipnaaDoor.Md
open Go.Lib Go.RowKit Go.Proofs.YtkabjbkefoipnaaDoorW.PrintWords Go.Proofs.YtkabjbkefoipnaaDoorW.PrintLast Go.Proofs.YtkabjbkefoipnaaDoorW.PrintMore Go.Proofs.YtkabjbkefoipnaaDoor.PM Go.Proofs.YtkabjbkefoipnaaDoor.Nm
set_option linter.unusedVariables false
set_option linter.unusedSimpArgs false
def newS (l : List Sc) (name : ByteArray) (v : Kn) (i : Nat) (t : Bool) : Sc := ⟨if t = true then ((l[i]?).map (·.f0)).getD name else name, cutV (wasV l i t ++ [v])⟩
theorem newS_vers (l : List Sc) (name : ByteArray) (v : Kn) (i : Nat) (t : Bool) : (newS l name v i t).f1 = cutV (wasV l i t ++ [v]) := rfl
theorem more_set {l : List Sc} {name : ByteArray} {v : Kn} {i : Nat} (h : i < l.length) : moreL l name v i true = l.set i (newS l name v i true) := by
  rw [more_there h]
  unfold newS
  rw [if_pos rfl, was_there h, List.getElem?_eq_getElem h]
  rfl
theorem more_put (l : List Sc) (name : ByteArray) (v : Kn) (i : Nat) : moreL l name v i false = l.take i ++ newS l name v i false :: l.drop i := rfl
theorem newS_pf {l : List Sc} {name : ByteArray} {v : Kn} {i : Nat} {t : Bool} (hf : FndP l name i t) : pf (newS l name v i t).f0 = pf name := by
  cases t with
  | false => rfl
  | true =>
    obtain ⟨h, he⟩ := hf.yes rfl
    unfold newS
    rw [if_pos rfl, List.getElem?_eq_getElem h]
    exact he
theorem newS_right {l : List Sc} {name : ByteArray} {v : Kn} {i : Nat} {t : Bool} (hR : RightP l) (hn : rightN name = true) (hf : FndP l name i t) : rightN (newS l name v i t).f0 = true := by
  cases t with
  | false => exact hn
  | true =>
    obtain ⟨h, he⟩ := hf.yes rfl
    unfold newS
    rw [if_pos rfl, List.getElem?_eq_getElem h]
    exact (hR.at i h).name
theorem newS_size {l : List Sc} {name : ByteArray} {v : Kn} {i : Nat} {t : Bool} {n : Nat} (hl : ∀ s, s ∈ l → s.f0.size ≤ n) (hn : name.size ≤ n) : (newS l name v i t).f0.size ≤ n := by
  unfold newS
  dsimp only
  split
  · cases h : l[i]? with
    | none => exact hn
    | some s => exact hl s (List.mem_of_getElem? h)
  · exact hn
theorem mem_more {l : List Sc} {name : ByteArray} {v : Kn} {i : Nat} {t : Bool} (hR : RightP l) (hn : rightN name = true) (hf : FndP l name i t) (s : Sc) : s ∈ moreL l name v i t ↔ s = newS l name v i t ∨ (s ∈ l ∧ pf s.f0 ≠ pf name) := by
  cases t with
  | true =>
    obtain ⟨h, he⟩ := hf.yes rfl
    rw [more_set h]
    constructor
    · intro hs
      obtain ⟨j, hj, rfl⟩ := List.getElem_of_mem hs
      have hj' : j < l.length := by rw [List.length_set] at hj; exact hj
      by_cases hji : j = i
      · subst hji
        exact .inl (by rw [List.getElem_set_self])
      · rw [List.getElem_set_ne (Ne.symm hji)]
        exact .inr ⟨List.getElem_mem hj', fun e => hji (hf.only hR hn j hj' e).2⟩
    · rintro (rfl | ⟨hs, hne⟩)
      · exact List.mem_set h _
      · obtain ⟨j, hj, rfl⟩ := List.getElem_of_mem hs
        have hji : j ≠ i := fun e => hne (by subst e; exact he)
        have : (l.set i (newS l name v i true))[j]'(by rw [List.length_set]; exact hj) = l[j] := by rw [List.getElem_set_ne (Ne.symm hji)]
        rw [← this]
        exact List.getElem_mem _
  | false =>
    have hall : ∀ s, s ∈ l → pf s.f0 ≠ pf name := fun s hs e => by
      obtain ⟨j, hj, rfl⟩ := List.getElem_of_mem hs
      have := (hf.only hR hn j hj e).1
      cases this
    rw [more_put, List.mem_append, List.mem_cons]
    constructor
    · rintro (hs | rfl | hs)
      · exact .inr ⟨List.mem_of_mem_take hs, hall _ (List.mem_of_mem_take hs)⟩
      · exact .inl rfl
      · exact .inr ⟨List.mem_of_mem_drop hs, hall _ (List.mem_of_mem_drop hs)⟩
    · rintro (rfl | ⟨hs, _⟩)
      · exact .inr (.inl rfl)
      · rw [← List.take_append_drop i l, List.mem_append] at hs
        rcases hs with hs | hs
        · exact .inl hs
        · exact .inr (.inr hs)
structure OkP (l : List Sc) (name : ByteArray) (v : Kn) (i : Nat) (t : Bool) : Prop where
  nm : rightN name = true
  R : RightP l
  lo : 1 ≤ v.f0
  hi : v.f0 ≤ 200
  fnd : FndP l name i t
  num : (lastV (wasV l i t)).f0 < v.f0
  len : v.f2.length ≤ 1000
  gone : v.f1 = true → (lastV (wasV l i t)).f1 = false
  room : t = false → l.length < 24
theorem WithP.zero {l : List Sc} {name : ByteArray} {v : Kn} {r : List Sc} (h : WithP l name v r 0) : ∃ i t, OkP l name v i t ∧ r = moreL l name v i t := by
  generalize hz : (0 : Int) = z at h
  cases h with
  | ok i t h1 h2 h3 h4 h5 h6 h7 h8 h9 => exact ⟨i, t, ⟨h1, h2, h3, h4, h5, h6, h7, h8, h9⟩, rfl⟩
  | _ => simp at hz
theorem was_vers {l : List Sc} {name : ByteArray} {i : Nat} {t : Bool} (hR : RightP l) (hf : FndP l name i t) : VersP gone0 (wasV l i t) ∧ (wasV l i t).length ≤ 4 ∧ (t = true → 1 ≤ (wasV l i t).length) := by
  cases t with
  | false => exact ⟨trivial, by simp [was_not], fun h => by cases h⟩
  | true =>
    obtain ⟨h, _⟩ := hf.yes rfl
    rw [was_there h]
    have := hR.at i h
    exact ⟨this.vers, this.most, fun _ => this.pos⟩
section
variable {l : List Sc} {name : ByteArray} {v : Kn} {i : Nat} {t : Bool}
theorem OkP.vers (h : OkP l name v i t) (hv : v.f1 = true → v.f2 = []) : VersP gone0 (wasV l i t ++ [v]) :=
  VersP.append (was_vers h.R h.fnd).1 ⟨h.num, h.hi, h.len, fun hg => ⟨h.gone hg, hv hg⟩⟩
theorem OkP.cut (h : OkP l name v i t) (hv : v.f1 = true → v.f2 = []) : VersP gone0 (cutV (wasV l i t ++ [v])) ∧ 1 ≤ (cutV (wasV l i t ++ [v])).length ∧ (cutV (wasV l i t ++ [v])).length ≤ 4 ∧ lastV (cutV (wasV l i t ++ [v])) = v := by
  have h4 := (was_vers h.R h.fnd).2.1
  obtain ⟨h1, h2, h3, _, h5⟩ := cut_right (h.vers hv) (by rw [List.length_append, List.length_singleton]; omega) (by rw [List.length_append, List.length_singleton]; omega)
  exact ⟨h1, h2, h3, by unfold lastV; rw [h5]; simp⟩
theorem OkP.sec (h : OkP l name v i t) (hv : v.f1 = true → v.f2 = []) : SecP (newS l name v i t) :=
  ⟨newS_right h.R h.nm h.fnd, (h.cut hv).2.1, (h.cut hv).2.2.1, (h.cut hv).1⟩
theorem OkP.right (h : OkP l name v i t) (hv : v.f1 = true → v.f2 = []) : RightP (moreL l name v i t) := by
  have hb := h.fnd.behind h.R h.nm
  have hpf := newS_pf (v := v) h.fnd
  refine ⟨fun s hs => ?_, ?_, ?_⟩
  · rcases (mem_more h.R h.nm h.fnd s).1 hs with rfl | ⟨hs, _⟩
    · exact h.sec hv
    · exact h.R.secs s hs
  · cases t with
    | true =>
      obtain ⟨hi, he⟩ := h.fnd.yes rfl
      rw [more_set hi, List.pairwise_iff_getElem]
      intro j k hj hk hjk
      have hj' : j < l.length := by rw [List.length_set] at hj; exact hj
      have hk' : k < l.length := by rw [List.length_set] at hk; exact hk
      by_cases hji : j = i
      · subst hji
        rw [List.getElem_set_self, List.getElem_set_ne (by omega)]
        exact (hb.1 k hk' hjk).pf' hpf.symm
      · rw [List.getElem_set_ne (Ne.symm hji)]
        by_cases hki : k = i
        · subst hki
          rw [List.getElem_set_self]
          exact (h.fnd.ahead j hj' hjk).pf hpf.symm
        · rw [List.getElem_set_ne (Ne.symm hki)]
          exact h.R.ls hjk hk'
    | false =>
      have h0 := h.R.asc
      rw [← List.take_append_drop i l, List.pairwise_append] at h0
      rw [more_put, List.pairwise_append, List.pairwise_cons]
      refine ⟨h0.1, ⟨fun s hs => ?_, h0.2.1⟩, fun a ha b hb' => ?_⟩
      · obtain ⟨j, hj, rfl⟩ := List.getElem_of_mem hs
        rw [List.getElem_drop]
        rw [List.length_drop] at hj
        exact (hb.2 rfl (i + j) (by omega) (by omega)).pf' hpf.symm
      · rcases List.mem_cons.1 hb' with rfl | hb'
        · obtain ⟨j, hj, rfl⟩ := List.getElem_of_mem ha
          rw [List.length_take] at hj
          rw [List.getElem_take]
          exact (h.fnd.ahead j (by omega) (by omega)).pf hpf.symm
        · exact h0.2.2 a ha b hb'
  · cases t with
    | true =>
      obtain ⟨hi, he⟩ := h.fnd.yes rfl
      rw [more_set hi, List.length_set]
      exact h.R.most
    | false =>
      have := h.room rfl
      have := h.fnd.le
      rw [more_put, List.length_append, List.length_cons, List.length_take, List.length_drop]
      omega
end
theorem VrsP.mem {r : List Sc} {n : ByteArray} {vs : List Kn} {z : Int} (hR : RightP r) (h : VrsP r n vs z) : (rightN n = false ∧ vs = [] ∧ z = 5) ∨ (rightN n = true ∧ vs = [] ∧ z = 6 ∧ ∀ s, s ∈ r → pf s.f0 ≠ pf n) ∨ (rightN n = true ∧ z = 0 ∧ ∃ s, s ∈ r ∧ pf s.f0 = pf n ∧ s.f1 = vs) := by
  cases h with
  | name h => exact .inl ⟨h, rfl, rfl⟩
  | none i h hf => exact .inr (.inl ⟨h, rfl, rfl, fun s hs e => by
      obtain ⟨j, hj, rfl⟩ := List.getElem_of_mem hs
      have := (hf.only hR h j hj e).1
      cases this⟩)
  | some i hi h hf => exact .inr (.inr ⟨h, rfl, r[i], List.getElem_mem hi, by obtain ⟨_, he⟩ := hf.yes rfl; exact he, rfl⟩)
theorem RightP.one {l : List Sc} (hR : RightP l) {a b : Sc} (ha : a ∈ l) (hb : b ∈ l) (h : pf a.f0 = pf b.f0) : a = b := by
  obtain ⟨i, hi, rfl⟩ := List.getElem_of_mem ha
  obtain ⟨j, hj, rfl⟩ := List.getElem_of_mem hb
  rcases Nat.lt_trichotomy i j with h1 | h1 | h1
  · exact absurd h (hR.ls h1 hj).ne
  · subst h1; rfl
  · exact absurd h.symm (hR.ls h1 hi).ne
section
variable {l : List Sc} {name : ByteArray} {v : Kn} {i : Nat} {t : Bool}
end
end Go.Proofs.YtkabjbkefoipnaaDoor.Md
