import Derived.Test.YtkabjbkefoipnaaDoorGMi
namespace Go.Proofs.YtkabjbkefoipnaaDoor.Md
open Go.Lib Go.RowKit Go.Proofs.YtkabjbkefoipnaaDoorW.PrintWords Go.Proofs.YtkabjbkefoipnaaDoorW.PrintLast Go.Proofs.YtkabjbkefoipnaaDoorW.PrintMore Go.Proofs.YtkabjbkefoipnaaDoor.PM Go.Proofs.YtkabjbkefoipnaaDoor.Nm
set_option linter.unusedVariables false
set_option linter.unusedSimpArgs false
structure AtP (vs : List Kn) (j : Nat) (h : j < vs.length) : Prop where
  lo : 1 ≤ vs[j].f0
  hi : vs[j].f0 ≤ 200
  len : vs[j].f2.length ≤ 1000
  bare : vs[j].f1 = true → vs[j].f2 = []
  num : ∀ h0 : 0 < j, (vs[j - 1]'(by omega)).f0 < vs[j].f0
  gone : ∀ h0 : 0 < j, vs[j].f1 = true → (vs[j - 1]'(by omega)).f1 = false
theorem VersP_at : ∀ (la : Kn) (vs : List Kn), VersP la vs ↔ ∀ j (h : j < vs.length), VerP ((la :: vs)[j]'(by simp; omega)) vs[j]
  | la, [] => ⟨fun _ j h => by simp at h, fun _ => trivial⟩
  | la, v :: r => by
    constructor
    · intro h j hj
      cases j with
      | zero => exact h.1
      | succ j => exact (VersP_at v r).1 h.2 j (by simpa using hj)
    · intro h
      exact ⟨h 0 (by simp), (VersP_at v r).2 fun j hj => h (j + 1) (by simpa using hj)⟩
theorem VersP_iff (vs : List Kn) : VersP gone0 vs ↔ (∀ h : 0 < vs.length, vs[0].f1 = false) ∧ ∀ j (h : j < vs.length), AtP vs j h := by
  rw [VersP_at]
  constructor
  · intro h
    have hp : ∀ j (hj : j < vs.length), 0 < vs[j].f0 := by
      intro j
      induction j with
      | zero => intro hj; exact (h 0 hj).num
      | succ j ih =>
        intro hj
        have h1 := ih (by omega)
        have h2 : vs[j].f0 < vs[j + 1].f0 := (h (j + 1) hj).num
        omega
    refine ⟨fun h0 => ?_, fun j hj => ⟨by have := hp j hj; omega, (h j hj).top, (h j hj).len, fun hg => ((h j hj).gone hg).2, fun h0 => ?_, fun h0 hg => ?_⟩⟩
    · cases hg : vs[0].f1 with
      | false => rfl
      | true => have := ((h 0 h0).gone hg).1; exact absurd this (by simp [gone0])
    · obtain ⟨j, rfl⟩ : ∃ q, j = q + 1 := ⟨j - 1, by omega⟩
      exact (h (j + 1) hj).num
    · obtain ⟨j, rfl⟩ : ∃ q, j = q + 1 := ⟨j - 1, by omega⟩
      exact ((h (j + 1) hj).gone hg).1
  · rintro ⟨h0, h⟩ j hj
    have ha := h j hj
    cases j with
    | zero => exact ⟨by show (0 : Int) < vs[0].f0; have := ha.lo; omega, ha.hi, ha.len, fun hg => by rw [h0 hj] at hg; cases hg⟩
    | succ j => exact ⟨ha.num (by omega), ha.hi, ha.len, fun hg => ⟨ha.gone (by omega) hg, ha.bare hg⟩⟩
section
variable (l : List Sc) (i : Nat)
def aftV (vs : List Kn) (k : Nat) : Option Bool := scriniumref22_Right.l1 k l (i : Int) vs (vs.length : Int)
theorem vers_loop (vs : List Kn) (hv : vs.length ≤ 100) : ∀ (d k j : Nat), j + d = vs.length → 2 * d < k →
    (∃ q, k = q + 2 * d ∧ scriniumref22_Right.l1 k l (i : Int) vs (j : Int) = aftV l i vs q ∧ ∀ m (h : m < vs.length), j ≤ m → AtP vs m h) ∨ (scriniumref22_Right.l1 k l (i : Int) vs (j : Int) = some false ∧ ¬ ∀ m (h : m < vs.length), j ≤ m → AtP vs m h) := by
  intro d
  induction d with
  | zero =>
    intro k j hj hk
    have : j = vs.length := by omega
    subst this
    exact .inl ⟨k, rfl, rfl, fun m h hm => by omega⟩
  | succ d ih =>
    intro k j hj hk
    obtain ⟨k, rfl⟩ : ∃ q, k = q + 2 := ⟨k - 2, by omega⟩
    have hlt : j < vs.length := by omega
    have no : ∀ (P : Prop), (AtP vs j hlt → ¬ P) → P → ¬ ∀ m (h : m < vs.length), j ≤ m → AtP vs m h := fun P h1 h2 h3 => h1 (h3 j hlt (Nat.le_refl _)) h2
    unfold scriniumref22_Right.l1
    rw [if_pos (by omega), if_pos (by omega), rdK vs j hlt]
    by_cases c1 : vs[j].f0 < 1
    · rw [if_pos c1]
      exact .inr ⟨by unfold scriniumref22_Right.j3; rw [if_pos rfl], no _ (fun h k => by have := h.lo; omega) c1⟩
    rw [if_neg c1]
    by_cases c2 : vs[j].f0 > 200
    · rw [if_pos c2]
      exact .inr ⟨by unfold scriniumref22_Right.j3; rw [if_pos rfl], no _ (fun h k => by have := h.hi; omega) c2⟩
    rw [if_neg c2]
    by_cases c3 : ((vs[j].f2.length : Nat) : Int) > 1000
    · rw [if_pos c3]
      exact .inr ⟨by unfold scriniumref22_Right.j3; rw [if_pos rfl], no _ (fun h k => by have := h.len; omega) c3⟩
    rw [if_neg c3]
    by_cases c4 : vs[j].f1 = true ∧ ((vs[j].f2.length : Nat) : Int) > 0
    · rw [if_pos c4.1, decide_eq_true c4.2]
      exact .inr ⟨by unfold scriniumref22_Right.j3; rw [if_pos rfl], no _ (fun h k => by have := h.bare k.1; have h2 := k.2; rw [this] at h2; simp at h2) c4⟩
    have hj3 : (if vs[j].f1 = true then scriniumref22_Right.j3 (k + 1) l (i : Int) vs (j : Int) (decide (((vs[j].f2.length : Nat) : Int) > 0)) else scriniumref22_Right.j3 (k + 1) l (i : Int) vs (j : Int) false) = scriniumref22_Right.j3 (k + 1) l (i : Int) vs (j : Int) false := by
      split
      · rename_i hg
        rw [decide_eq_false (fun h => c4 ⟨hg, h⟩)]
      · rfl
    rw [hj3]
    unfold scriniumref22_Right.j3
    rw [if_neg (by simp)]
    have hw : wrap64 ((j : Int) + 1) = ((j + 1 : Nat) : Int) := wrap_succ j (by omega)
    have base : (∀ h0 : 0 < j, (vs[j - 1]'(by omega)).f0 < vs[j].f0) → (∀ h0 : 0 < j, vs[j].f1 = true → (vs[j - 1]'(by omega)).f1 = false) → AtP vs j hlt := fun h1 h2 =>
      ⟨by omega, by omega, by omega, fun hg => List.eq_nil_of_length_eq_zero (Nat.eq_zero_of_not_pos fun h0 => c4 ⟨hg, by omega⟩), h1, h2⟩
    have step : AtP vs j hlt → ((∃ q, k + 2 = q + 2 * (d + 1) ∧ scriniumref22_Right.l1 k l (i : Int) vs ((j + 1 : Nat) : Int) = aftV l i vs q ∧ ∀ m (h : m < vs.length), j ≤ m → AtP vs m h) ∨ (scriniumref22_Right.l1 k l (i : Int) vs ((j + 1 : Nat) : Int) = some false ∧ ¬ ∀ m (h : m < vs.length), j ≤ m → AtP vs m h)) := by
      intro ha
      rcases ih k (j + 1) (by omega) (by omega) with ⟨q, h1, h2, h3⟩ | ⟨h1, h2⟩
      · refine .inl ⟨q, by omega, h2, fun m hm hjm => ?_⟩
        rcases Nat.lt_or_eq_of_le hjm with h4 | h4
        · exact h3 m hm h4
        · subst h4; exact ha
      · exact .inr ⟨h1, fun h3 => h2 fun m hm hjm => h3 m hm (by omega)⟩
    by_cases h0 : 0 < j
    · have hp : j - 1 < vs.length := by omega
      rw [if_pos (by omega), if_pos (by omega), if_pos (by omega), wrap_pred j (by omega) (by omega), if_pos (by omega), if_pos (by omega), rdK vs (j - 1) hp, rdK vs j hlt, hw]
      by_cases c5 : vs[j].f0 ≤ (vs[j - 1]'hp).f0
      · rw [if_pos c5]
        exact .inr ⟨rfl, no _ (fun h k => by have := h.num h0; omega) c5⟩
      rw [if_neg c5]
      by_cases c6 : vs[j].f1 = true ∧ (vs[j - 1]'hp).f1 = true
      · rw [if_pos c6.1, if_pos c6.2]
        exact .inr ⟨rfl, no _ (fun h k => by have := h.gone h0 k.1; rw [k.2] at this; cases this) c6⟩
      have e : (if vs[j].f1 = true then (if (vs[j - 1]'hp).f1 = true then some false else scriniumref22_Right.l1 k l (i : Int) vs ((j + 1 : Nat) : Int)) else scriniumref22_Right.l1 k l (i : Int) vs ((j + 1 : Nat) : Int)) = scriniumref22_Right.l1 k l (i : Int) vs ((j + 1 : Nat) : Int) := by
        split
        · rename_i h1
          rw [if_neg (fun h2 => c6 ⟨h1, h2⟩)]
        · rfl
      rw [e]
      exact step (base (fun _ => by omega) (fun _ hg => by cases hq : (vs[j - 1]'hp).f1 with | false => rfl | true => exact absurd ⟨hg, hq⟩ c6))
    · rw [if_neg (by omega), hw]
      exact step (base (fun h => absurd h h0) (fun h => absurd h h0))
end
theorem less_is (a b : ByteArray) (k : Nat) (ha : a.size ≤ 4000) (hb : b.size ≤ 4000) (hk : 13000 ≤ k) : scriniumref10_Less.f k a b = some (lessL (runes (BL a)) (runes (BL b))) := by
  have hla := runes_length_le _ (BL a) (Nat.le_refl _)
  rw [BL_length] at hla
  refine le_up (F := fun k => scriniumref10_Less.f k a b) (fun k => scriniumref10_Less.mono _ _ k) (a := 2 * a.size + b.size + 60) (b := k) (by omega) ?_
  show scriniumref10_Less.f _ a b = _
  unfold scriniumref10_Less.f
  have h1 := le_up (F := fun k => scriniumref10_All.f k a) (fun k => scriniumref10_All.mono _ k) (a := a.size + 22) (b := 2 * a.size + b.size + 60) (by omega) (All_is a (by omega))
  have h2 := le_up (F := fun k => scriniumref10_All.f k b) (fun k => scriniumref10_All.mono _ k) (a := b.size + 22) (b := 2 * a.size + b.size + 60) (by omega) (All_is b (by omega))
  rw [h1]
  simp only [Option.bind_some]
  rw [h2]
  simp only [Option.bind_some]
  have h := Less_loop (a40 a) (a40 b) _ _ (a40_f0 a) (a40_f0 b) (by omega) (runes (BL a)).length (2 * a.size + b.size + 60) 0 (by omega) (by omega) (by omega) (by omega)
  rw [List.drop_zero, List.drop_zero] at h
  exact h
theorem pf_size (s : ByteArray) (h : s.size ≤ 4000) : (pf s).size ≤ 4000 := by
  show (plainB s).1.size ≤ 4000
  unfold plainB
  split
  · have e : (⟨((BL s).map lowB).toArray⟩ : ByteArray).size = s.size := by
      show ((BL s).map lowB).toArray.size = s.size
      rw [List.size_toArray, List.length_map, BL_length]
    rw [e]; exact h
  · exact Nat.zero_le _
def FromP (l : List Sc) (i : Nat) : Prop := ∀ j (h : j < l.length), i ≤ j → SecP l[j] ∧ ∀ h0 : 0 < j, Ls (l[j - 1]'(by omega)).f0 l[j].f0
theorem right_loop (l : List Sc) (hl : l.length ≤ 24) (hz : ∀ s, s ∈ l → s.f0.size ≤ 4000 ∧ s.f1.length ≤ 100) : ∀ (d k i : Nat), i + d = l.length → 14000 + 20 * d ≤ k → ∃ b, scriniumref22_Right.l0 k l (i : Int) = some b ∧ (b = true ↔ FromP l i) := by
  intro d
  induction d with
  | zero =>
    intro k i hi hk
    obtain ⟨k, rfl⟩ : ∃ q, k = q + 1 := ⟨k - 1, by omega⟩
    unfold scriniumref22_Right.l0
    rw [if_neg (by omega)]
    exact ⟨true, rfl, fun _ j hj hij => by omega, fun _ => rfl⟩
  | succ d ih =>
    intro k i hi hk
    obtain ⟨k, rfl⟩ : ∃ q, k = q + 2 := ⟨k - 2, by omega⟩
    have hlt : i < l.length := by omega
    obtain ⟨hz1, hz2⟩ := hz _ (List.getElem_mem hlt)
    have hno : ¬ (SecP l[i] ∧ ∀ h0 : 0 < i, Ls (l[i - 1]'(by omega)).f0 l[i].f0) → ∃ b, some false = some b ∧ (b = true ↔ FromP l i) := fun h => ⟨false, rfl, ⟨fun h => (by cases h), fun h2 => absurd (h2 i hlt (Nat.le_refl _)) h⟩⟩
    unfold scriniumref22_Right.l0
    rw [if_pos (by omega), if_pos (by omega), rdS l i hlt, rightN_is _ (k + 1) hz1 (by omega), Option.bind_some]
    cases hr : rightN l[i].f0 with
    | false =>
      rw [if_neg (by simp)]
      unfold scriniumref22_Right.j1
      rw [if_pos rfl]
      exact hno (fun h => by have := h.1.name; rw [hr] at this; cases this)
    | true =>
    rw [if_pos rfl]
    by_cases c1 : ((l[i].f1.length : Nat) : Int) < 1
    · rw [if_pos c1]
      unfold scriniumref22_Right.j1
      rw [if_pos rfl]
      exact hno (fun h => by have := h.1.pos; omega)
    rw [if_neg c1]
    by_cases c2 : ((l[i].f1.length : Nat) : Int) > 4
    · rw [if_pos c2]
      unfold scriniumref22_Right.j1
      rw [if_pos rfl]
      exact hno (fun h => by have := h.1.most; omega)
    rw [if_neg c2, if_pos (by omega)]
    have hp0 : 0 < l[i].f1.length := by omega
    have e0 : rd_T25 l[i].f1 0 = l[i].f1[0] := rdK _ 0 hp0
    rw [e0]
    cases hg : l[i].f1[0].f1 with
    | true =>
      unfold scriniumref22_Right.j1
      rw [if_pos rfl]
      exact hno (fun h => by have := ((VersP_iff _).1 h.1.vers).1 hp0; rw [hg] at this; cases this)
    | false =>
    unfold scriniumref22_Right.j1
    rw [if_neg (by simp)]
    rcases vers_loop l i l[i].f1 (by omega) l[i].f1.length k 0 (by omega) (by omega) with ⟨q, h1, h2, h3⟩ | ⟨h1, h2⟩
    · have hv : SecP l[i] := ⟨hr, by omega, by omega, (VersP_iff _).2 ⟨fun _ => hg, fun j hj => h3 j hj (Nat.zero_le _)⟩⟩
      have h2' : scriniumref22_Right.l1 k l (i : Int) l[i].f1 0 = aftV l i l[i].f1 q := h2
      rw [h2']
      unfold aftV
      obtain ⟨q, rfl⟩ : ∃ p, q = p + 1 := ⟨q - 1, by omega⟩
      obtain ⟨b, hb1, hb2⟩ := ih q (i + 1) (by omega) (by omega)
      have fin : (∀ h0 : 0 < i, Ls (l[i - 1]'(by omega)).f0 l[i].f0) → ∃ b, scriniumref22_Right.l0 q l ((i + 1 : Nat) : Int) = some b ∧ (b = true ↔ FromP l i) := fun hp => ⟨b, hb1, hb2.trans ⟨fun h j hj hij => by
          rcases Nat.lt_or_eq_of_le hij with h4 | h4
          · exact h j hj h4
          · subst h4; exact ⟨hv, hp⟩, fun h j hj hij => h j hj (by omega)⟩⟩
      unfold scriniumref22_Right.l1
      rw [if_neg (by omega)]
      by_cases h0 : 0 < i
      · have hp : i - 1 < l.length := by omega
        obtain ⟨hy1, _⟩ := hz _ (List.getElem_mem hp)
        rw [if_pos (by omega), wrap_pred i (by omega) (by omega), if_pos (by omega), if_pos (by omega), rdS l (i - 1) hp, plain_is _ q hy1 (by omega), Option.bind_some, if_pos (by omega), if_pos (by omega), rdS l i hlt, plain_is _ q hz1 (by omega), Option.bind_some, less_is _ _ q (pf_size _ hy1) (pf_size _ hz1) (by omega), Option.bind_some, wrap_succ i (by omega)]
        by_cases hls : Ls (l[i - 1]'hp).f0 l[i].f0
        · rw [if_pos hls]
          exact fin (fun _ => hls)
        · rw [if_neg hls]
          exact hno (fun h => hls (h.2 h0))
      · rw [if_neg (by omega), wrap_succ i (by omega)]
        exact fin (fun h => absurd h h0)
    · have h1' : scriniumref22_Right.l1 k l (i : Int) l[i].f1 0 = some false := h1
      rw [h1']
      exact hno (fun h => h2 fun m hm _ => ((VersP_iff _).1 h.1.vers).2 m hm)
theorem FromP_right {l : List Sc} (h : l.length ≤ 24) : FromP l 0 ↔ RightP l := by
  constructor
  · intro hf
    have hu : ∀ i, i ≤ l.length → UpTo l i := by
      intro i
      induction i with
      | zero => exact fun _ => UpTo.zero l
      | succ i ih => exact fun hi => (ih (by omega)).succ (by omega) (hf i (by omega) (Nat.zero_le _)).1 (hf i (by omega) (Nat.zero_le _)).2
    exact (hu l.length (Nat.le_refl _)).right h
  · intro hR j hj _
    exact ⟨hR.at j hj, fun h0 => hR.ls (by omega) hj⟩
theorem refRight_is (l : List Sc) (hz : ∀ s, s ∈ l → s.f0.size ≤ 4000 ∧ s.f1.length ≤ 100) : ∃ b, scriniumref22_Right.f 20000 l = some b ∧ (b = true ↔ RightP l) := by
  unfold scriniumref22_Right.f
  by_cases h : (l.length : Int) > 24
  · rw [if_pos h]
    exact ⟨false, rfl, ⟨fun h => (by cases h), fun hR => (by have := hR.most; omega)⟩⟩
  · rw [if_neg h]
    obtain ⟨b, h1, h2⟩ := right_loop l (by omega) hz l.length 20000 0 (by omega) (by omega)
    exact ⟨b, h1, h2.trans (FromP_right (by omega))⟩
end Go.Proofs.YtkabjbkefoipnaaDoor.Md
