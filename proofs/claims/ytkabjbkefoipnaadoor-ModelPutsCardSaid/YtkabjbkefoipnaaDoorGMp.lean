import Derived.Test.YtkabjbkefoipnaaDoorGNmL
import Derived.Test.YtkabjbkefoipnaaDoorGMd1
namespace Go.Proofs.YtkabjbkefoipnaaDoor.Md
open Go.Lib Go.RowKit Go.Proofs.YtkabjbkefoipnaaDoorW.PrintWords Go.Proofs.YtkabjbkefoipnaaDoorW.PrintLast Go.Proofs.YtkabjbkefoipnaaDoorW.PrintMore Go.Proofs.YtkabjbkefoipnaaDoor.PM Go.Proofs.YtkabjbkefoipnaaDoor.Nm
set_option linter.unusedVariables false
set_option linter.unusedSimpArgs false
theorem mapD_runes (f : Int → Int) : ∀ (n : Nat) (a b : List UInt8), a.length ≤ n → runes a = runes b → mapD f a = mapD f b
  | n, a, b, hn, h => by
    by_cases ha : a = []
    · subst ha
      by_cases hb : b = []
      · subst hb; rfl
      · rw [runes_step b hb] at h
        cases h
    · by_cases hb : b = []
      · subst hb
        rw [runes_step a ha] at h
        cases h
      · rw [runes_step a ha, runes_step b hb] at h
        injection h with h1 h2
        rw [mapD_step f a ha, mapD_step f b hb, h1]
        have hw := decodeL_width a
        have hl : 0 < a.length := List.length_pos_iff.2 ha
        congr 1
        match n, hn with
        | 0, hn => omega
        | n + 1, hn => exact mapD_runes f n _ _ (by rw [List.length_drop]; omega) h2
abbrev pf (s : ByteArray) : ByteArray := (plainB s).1
abbrev ky (s : ByteArray) : List Nat := runes (BL (pf s))
abbrev rightN (s : ByteArray) : Bool := right (runes (BL s))
theorem pf_right {s : ByteArray} (h : rightN s = true) : pf s = ⟨((BL s).map lowB).toArray⟩ := by
  show (plainB s).1 = _
  unfold plainB
  rw [if_pos h]
theorem ky_right {s : ByteArray} (h : rightN s = true) : ky s = (runes (BL s)).map lowN := by
  show runes (BL (pf s)) = _
  rw [pf_right h, BL_of, runes_low _ _ (Nat.le_refl _)]
theorem pf_inj {a b : ByteArray} (ha : rightN a = true) (hb : rightN b = true) (h : ky a = ky b) : pf a = pf b := by
  rw [ky_right ha, ky_right hb] at h
  rw [pf_right ha, pf_right hb]
  have ra : right ((runes (BL a)).map lowN) = true := by rw [right_low]; exact ha
  have rb : right ((runes (BL b)).map lowN) = true := by rw [right_low]; exact hb
  have ea := mapD_low _ ((BL a).map lowB) (Nat.le_refl _) (by rw [runes_low _ _ (Nat.le_refl _)]; exact right_ne _ ra)
  have eb := mapD_low _ ((BL b).map lowB) (Nat.le_refl _) (by rw [runes_low _ _ (Nat.le_refl _)]; exact right_ne _ rb)
  rw [low_low] at ea eb
  have := mapD_runes lowZ _ ((BL a).map lowB) ((BL b).map lowB) (Nat.le_refl _) (by rw [runes_low _ _ (Nat.le_refl _), runes_low _ _ (Nat.le_refl _), h])
  rw [ea, eb] at this
  rw [this]
theorem lessL_total : ∀ a b : List Nat, lessL a b = false → lessL b a = false → a = b
  | [], [], _, _ => rfl
  | [], _ :: _, h, _ => by simp [lessL] at h
  | _ :: _, [], _, h => by simp [lessL] at h
  | x :: xs, y :: ys, h, k => by
    rw [lessL_cons] at h k
    by_cases e : x = y
    · subst e
      rw [if_pos rfl] at h k
      rw [lessL_total xs ys h k]
    · rw [if_neg e] at h
      rw [if_neg (fun e' => e e'.symm)] at k
      have h1 := of_decide_eq_false h
      have h2 := of_decide_eq_false k
      omega
abbrev Ls (a b : ByteArray) : Prop := lessL (ky a) (ky b) = true
theorem Ls.irr (a : ByteArray) : ¬ Ls a a := by unfold Ls; rw [lessL_irr]; simp
theorem Ls.trans {a b c : ByteArray} (h : Ls a b) (k : Ls b c) : Ls a c := lessL_trans _ _ _ h k
theorem Ls.asym {a b : ByteArray} (h : Ls a b) : ¬ Ls b a := by unfold Ls; rw [lessL_asym _ _ h]; simp
theorem Ls.tri {a b : ByteArray} (ha : rightN a = true) (hb : rightN b = true) : Ls a b ∨ pf a = pf b ∨ Ls b a := by
  cases h : lessL (ky a) (ky b) with
  | true => exact .inl h
  | false =>
    cases k : lessL (ky b) (ky a) with
    | true => exact .inr (.inr k)
    | false => exact .inr (.inl (pf_inj ha hb (lessL_total _ _ h k)))
theorem Ls.pf {a b c : ByteArray} (h : Ls a b) (e : pf b = pf c) : Ls a c := by
  unfold Ls ky at h ⊢
  rwa [← e]
theorem Ls.pf' {a b c : ByteArray} (h : Ls a b) (e : Md.pf a = Md.pf c) : Ls c b := by
  unfold Ls ky at h ⊢
  rwa [← e]
theorem Ls.ne {a b : ByteArray} (h : Ls a b) : Md.pf a ≠ Md.pf b := fun e => Ls.irr a (h.pf e.symm)
def gone0 : Kn := ⟨0, true, []⟩
structure VerP (last v : Kn) : Prop where
  num : last.f0 < v.f0
  top : v.f0 ≤ 200
  len : v.f2.length ≤ 1000
  gone : v.f1 = true → last.f1 = false ∧ v.f2 = []
def VersP : Kn → List Kn → Prop
  | _, [] => True
  | last, v :: r => VerP last v ∧ VersP v r
structure SecP (s : Sc) : Prop where
  name : rightN s.f0 = true
  pos : 1 ≤ s.f1.length
  most : s.f1.length ≤ 4
  vers : VersP gone0 s.f1
structure RightP (l : List Sc) : Prop where
  secs : ∀ s, s ∈ l → SecP s
  asc : l.Pairwise fun a b => Ls a.f0 b.f0
  most : l.length ≤ 24
theorem RightP.nil : RightP [] := ⟨fun s h => by simp at h, List.Pairwise.nil, by simp⟩
def lastV (l : List Kn) : Kn := (l.getLast?).getD gone0
theorem VersP.append : ∀ {last : Kn} {l : List Kn} {v : Kn}, VersP last l → VerP ((l.getLast?).getD last) v → VersP last (l ++ [v])
  | last, [], v, _, h => ⟨h, trivial⟩
  | last, x :: r, v, h, k => ⟨h.1, VersP.append h.2 (by rwa [List.getLast?_cons, Option.getD_some] at k)⟩
theorem VersP.pos : ∀ {last : Kn} {l : List Kn}, VersP last l → 0 ≤ last.f0 → ∀ v, v ∈ l → 0 < v.f0 ∧ v.f0 ≤ 200 ∧ v.f2.length ≤ 1000
  | last, x :: r, h, h0, v, hv => by
    have h1 := h.1.num
    rcases List.mem_cons.1 hv with rfl | hv
    · exact ⟨by omega, h.1.top, h.1.len⟩
    · exact VersP.pos h.2 (by omega) v hv
theorem VersP.head {last : Kn} {v : Kn} {r : List Kn} (h : VersP last (v :: r)) (h0 : 0 ≤ last.f0) (hg : v.f1 = false) : VersP gone0 (v :: r) := by
  have h1 := h.1.num
  exact ⟨⟨by show (0 : Int) < v.f0; omega, h.1.top, h.1.len, fun h' => by rw [hg] at h'; cases h'⟩, h.2⟩
def cutV (l : List Kn) : List Kn :=
  if 4 < l.length then (match l.tail with | [] => [] | x :: r => if x.f1 = true then r else x :: r) else l
theorem cut_short {l : List Kn} (h : l.length ≤ 4) : cutV l = l := if_neg (by omega)
theorem cut_gone {a b : Kn} {r : List Kn} (h : 3 ≤ r.length) (hg : b.f1 = true) : cutV (a :: b :: r) = r := by
  unfold cutV
  rw [if_pos (by simp only [List.length_cons]; omega)]
  simp [hg]
theorem cut_there {a b : Kn} {r : List Kn} (h : 3 ≤ r.length) (hg : b.f1 = false) : cutV (a :: b :: r) = b :: r := by
  unfold cutV
  rw [if_pos (by simp only [List.length_cons]; omega)]
  simp [hg]
theorem cut_right {l : List Kn} (h : VersP gone0 l) (h5 : l.length ≤ 5) (h1 : 1 ≤ l.length) : VersP gone0 (cutV l) ∧ 1 ≤ (cutV l).length ∧ (cutV l).length ≤ 4 ∧ (5 ≤ l.length → 3 ≤ (cutV l).length) ∧ (cutV l).getLast? = l.getLast? := by
  by_cases h4 : l.length ≤ 4
  · rw [cut_short h4]
    exact ⟨h, h1, h4, fun h' => by omega, rfl⟩
  · match l, h, h4, h5 with
    | [], _, h4, _ => exact absurd (by simp) h4
    | [a], _, h4, _ => exact absurd (by simp) h4
    | [a, b], _, h4, _ => exact absurd (by simp) h4
    | [a, b, c], _, h4, _ => exact absurd (by simp) h4
    | [a, b, c, d], _, h4, _ => exact absurd (by simp) h4
    | a :: b :: c :: d :: e :: r, h, h4, h5 =>
      have hr : r = [] := by
        simp only [List.length_cons] at h5
        exact List.eq_nil_of_length_eq_zero (by omega)
      subst hr
      have p1 := h.1.num
      have p2 := h.2.1.num
      have p3 := h.2.2.1.num
      have p0 : (0 : Int) < a.f0 := p1
      cases hb : b.f1 with
      | true =>
        have hc : c.f1 = false := by
          cases hc : c.f1 with
          | false => rfl
          | true =>
            have := (h.2.2.1.gone hc).1
            rw [hb] at this
            cases this
        rw [cut_gone (by simp) hb]
        exact ⟨VersP.head h.2.2 (by omega) hc, by simp, by simp, fun _ => by simp, by simp⟩
      | false =>
        rw [cut_there (by simp) hb]
        exact ⟨VersP.head h.2 (by omega) hb, by simp, by simp, fun _ => by simp, by simp⟩
structure FndP (l : List Sc) (name : ByteArray) (i : Nat) (there : Bool) : Prop where
  le : i ≤ l.length
  ahead : ∀ j (h : j < l.length), j < i → Ls l[j].f0 name
  yes : there = true → ∃ h : i < l.length, pf l[i].f0 = pf name
  no : there = false → ∀ (h : i < l.length), ¬ Ls l[i].f0 name ∧ pf l[i].f0 ≠ pf name
theorem RightP.at {l : List Sc} (hr : RightP l) (i : Nat) (h : i < l.length) : SecP l[i] := hr.secs _ (List.getElem_mem h)
theorem RightP.ls {l : List Sc} (hr : RightP l) {i j : Nat} (hij : i < j) (h : j < l.length) : Ls (l[i]'(by omega)).f0 l[j].f0 := List.pairwise_iff_getElem.1 hr.asc i j (by omega) h hij
theorem FndP.behind {l : List Sc} {name : ByteArray} {i : Nat} {there : Bool} (hf : FndP l name i there) (hr : RightP l) (hn : rightN name = true) :
    (∀ j (h : j < l.length), i < j → Ls name l[j].f0) ∧ (there = false → ∀ j (h : j < l.length), i ≤ j → Ls name l[j].f0) := by
  have key : there = false → ∀ (h : i < l.length), Ls name l[i].f0 := fun ht h => by
    obtain ⟨h1, h2⟩ := hf.no ht h
    rcases Ls.tri (hr.at i h).name hn with h3 | h3 | h3
    · exact absurd h3 h1
    · exact absurd h3 h2
    · exact h3
  constructor
  · intro j h hij
    cases ht : there with
    | true =>
      obtain ⟨hi, he⟩ := hf.yes ht
      exact (hr.ls hij h).pf' he
    | false => exact (key ht (by omega)).trans (hr.ls hij h)
  · intro ht j h hij
    rcases Nat.lt_or_eq_of_le hij with h1 | h1
    · exact (key ht (by omega)).trans (hr.ls h1 h)
    · subst h1
      exact key ht h
theorem FndP.only {l : List Sc} {name : ByteArray} {i : Nat} {there : Bool} (hf : FndP l name i there) (hr : RightP l) (hn : rightN name = true) (j : Nat) (h : j < l.length) (he : pf l[j].f0 = pf name) : there = true ∧ j = i := by
  have hb := hf.behind hr hn
  rcases Nat.lt_trichotomy j i with h1 | h1 | h1
  · exact absurd he (hf.ahead j h h1).ne
  · subst h1
    cases ht : there with
    | true => exact ⟨rfl, rfl⟩
    | false => exact absurd he.symm (hb.2 ht j h (Nat.le_refl _)).ne
  · exact absurd he.symm (hb.1 j h h1).ne
theorem FndP.unique {l : List Sc} {name : ByteArray} {i j : Nat} {t u : Bool} (hf : FndP l name i t) (hg : FndP l name j u) (hr : RightP l) (hn : rightN name = true) : i = j ∧ t = u := by
  have key : ∀ {i j : Nat} {t u : Bool}, FndP l name i t → FndP l name j u → ¬ i < j := by
    intro i j t u hf hg h
    have hlt : i < l.length := Nat.lt_of_lt_of_le h hg.le
    have h1 := hg.ahead i hlt h
    cases ht : t with
    | true =>
      obtain ⟨_, he⟩ := hf.yes ht
      exact h1.ne he
    | false => exact (hf.no ht hlt).1 h1
  have hij : i = j := by
    rcases Nat.lt_trichotomy i j with h | h | h
    · exact absurd h (key hf hg)
    · exact h
    · exact absurd h (key hg hf)
  subst hij
  refine ⟨rfl, ?_⟩
  cases ht : t with
  | true =>
    obtain ⟨h, he⟩ := hf.yes ht
    exact (hg.only hr hn i h he).1.symm
  | false =>
    cases hu : u with
    | false => rfl
    | true =>
      obtain ⟨h, he⟩ := hg.yes hu
      exact absurd he (hf.no ht h).2
def wasV (l : List Sc) (i : Nat) (there : Bool) : List Kn := if there = true then ((l[i]?).map (·.f1)).getD [] else []
def moreL (l : List Sc) (name : ByteArray) (v : Kn) (i : Nat) (there : Bool) : List Sc :=
  if there = true then l.set i ⟨((l[i]?).map (·.f0)).getD name, cutV (wasV l i there ++ [v])⟩ else l.take i ++ ⟨name, cutV [v]⟩ :: l.drop i
inductive WithP (l : List Sc) (name : ByteArray) (v : Kn) : List Sc → Int → Prop
  | name : rightN name = false → WithP l name v [] 5
  | arg : rightN name = true → ¬ (RightP l ∧ 1 ≤ v.f0 ∧ v.f0 ≤ 200) → WithP l name v [] 14
  | old (i t) : rightN name = true → RightP l → 1 ≤ v.f0 → v.f0 ≤ 200 → FndP l name i t → v.f0 ≤ (lastV (wasV l i t)).f0 → WithP l name v [] 14
  | long (i t) : rightN name = true → RightP l → 1 ≤ v.f0 → v.f0 ≤ 200 → FndP l name i t → (lastV (wasV l i t)).f0 < v.f0 → 1000 < v.f2.length → WithP l name v [] 3
  | none (i t) : rightN name = true → RightP l → 1 ≤ v.f0 → v.f0 ≤ 200 → FndP l name i t → (lastV (wasV l i t)).f0 < v.f0 → v.f2.length ≤ 1000 → v.f1 = true → (lastV (wasV l i t)).f1 = true → WithP l name v [] 6
  | full (i) : rightN name = true → RightP l → 1 ≤ v.f0 → v.f0 ≤ 200 → FndP l name i false → (lastV (wasV l i false)).f0 < v.f0 → v.f2.length ≤ 1000 → (v.f1 = true → (lastV (wasV l i false)).f1 = false) → 24 ≤ l.length → WithP l name v [] 7
  | ok (i t) : rightN name = true → RightP l → 1 ≤ v.f0 → v.f0 ≤ 200 → FndP l name i t → (lastV (wasV l i t)).f0 < v.f0 → v.f2.length ≤ 1000 → (v.f1 = true → (lastV (wasV l i t)).f1 = false) → (t = false → l.length < 24) → WithP l name v (moreL l name v i t) 0
end Go.Proofs.YtkabjbkefoipnaaDoor.Md
