import Derived.Test.YtkabjbkefoipnaaDoorGNmK
namespace Go.Proofs.YtkabjbkefoipnaaDoor.Nm
open Go.Lib Go.RowKit Go.Proofs.YtkabjbkefoipnaaDoorW.PrintWords Go.Proofs.YtkabjbkefoipnaaDoorW.PrintLast Go.Proofs.YtkabjbkefoipnaaDoorW.PrintMore Go.Proofs.YtkabjbkefoipnaaDoor.PM
set_option linter.unusedVariables false
set_option linter.unusedSimpArgs false
def lessL : List Nat → List Nat → Bool
  | [], [] => false
  | [], _ :: _ => true
  | _ :: _, [] => false
  | x :: xs, y :: ys => if x = y then lessL xs ys else decide (x < y)
theorem lessL_irr : ∀ l : List Nat, lessL l l = false
  | [] => rfl
  | x :: xs => by unfold lessL; rw [if_pos rfl, lessL_irr xs]
theorem lessL_asym : ∀ a b : List Nat, lessL a b = true → lessL b a = false
  | [], [], h => rfl
  | [], _ :: _, h => rfl
  | _ :: _, [], h => by simp [lessL] at h
  | x :: xs, y :: ys, h => by
    unfold lessL at h ⊢
    by_cases e : x = y
    · subst e; rw [if_pos rfl] at h ⊢; exact lessL_asym xs ys h
    · rw [if_neg e] at h; rw [if_neg (fun h' => e h'.symm)]
      have := of_decide_eq_true h
      exact decide_eq_false (by omega)
theorem lessL_trans : ∀ a b c : List Nat, lessL a b = true → lessL b c = true → lessL a c = true
  | [], b, [], h1, h2 => by
    cases b with
    | nil => simp [lessL] at h1
    | cons y ys => simp [lessL] at h2
  | [], _, _ :: _, h1, h2 => rfl
  | x :: xs, [], _, h1, h2 => by simp [lessL] at h1
  | x :: xs, y :: ys, [], h1, h2 => by simp [lessL] at h2
  | x :: xs, y :: ys, z :: zs, h1, h2 => by
    unfold lessL at h1 h2 ⊢
    by_cases e1 : x = y
    · subst e1
      rw [if_pos rfl] at h1
      by_cases e2 : x = z
      · subst e2
        rw [if_pos rfl] at h2 ⊢
        exact lessL_trans xs ys zs h1 h2
      · rw [if_neg e2] at h2 ⊢
        exact h2
    · rw [if_neg e1] at h1
      have l1 := of_decide_eq_true h1
      by_cases e2 : y = z
      · subst e2
        rw [if_neg e1]
        exact h1
      · rw [if_neg e2] at h2
        have l2 := of_decide_eq_true h2
        rw [if_neg (by omega)]
        exact decide_eq_true (by omega)
theorem K0 (k : Nat) (x y : List S75) (i : Int) : scriniumref10_Less.l0 (k + 1) x y i = if i < (x.length : Int) then (scriniumref10_Less.j1 k x y i (decide (i < (y.length : Int)))) else (scriniumref10_Less.j1 k x y i false) := by
  first | rfl | (conv => lhs; unfold scriniumref10_Less.l0)
theorem K1 (k : Nat) (x y : List S75) (i : Int) (c : Bool) : scriniumref10_Less.j1 (k + 1) x y i c = if c = true then (if 0 ≤ i then (if i < (x.length : Int) then (if i < (y.length : Int) then (if ((rd_T75 x i).f0) = ((rd_T75 y i).f0) then (scriniumref10_Less.l0 k x y (wrap64 (i + 1))) else (some (decide (((rd_T75 x i).f0) < ((rd_T75 y i).f0))))) else (none)) else (none)) else (none)) else (some (decide ((x.length : Int) < (y.length : Int)))) := by
  first | rfl | (conv => lhs; unfold scriniumref10_Less.j1)
theorem f0_at (l : List S75) (r : List Nat) (hf : l.map (fun x => x.f0) = r.map (fun x : Nat => (x : Int))) (i : Nat) (hi : i < r.length) : (rd_T75 l (i : Int)).f0 = ((r[i] : Nat) : Int) := by
  have hlen : l.length = r.length := by simpa using congrArg List.length hf
  have h := congrArg (fun m => m[i]?) hf
  simp only [List.getElem?_map, List.getElem?_eq_getElem (show i < l.length by omega), List.getElem?_eq_getElem hi, Option.map_some, Option.some.injEq] at h
  rw [rd_at l i (by omega), h]
theorem Less_loop (x y : List S75) (a b : List Nat) (hx : x.map (fun x => x.f0) = a.map (fun x : Nat => (x : Int))) (hy : y.map (fun x => x.f0) = b.map (fun x : Nat => (x : Int))) (hm : a.length ≤ 4000000) : ∀ (d k i : Nat), a.length ≤ i + d → 2 * d + 4 ≤ k → i ≤ a.length → i ≤ b.length →
    scriniumref10_Less.l0 k x y i = some (lessL (a.drop i) (b.drop i)) := by
  have hxl : x.length = a.length := by simpa using congrArg List.length hx
  have hyl : y.length = b.length := by simpa using congrArg List.length hy
  intro d
  induction d with
  | zero =>
    intro k i hd hk hi hj
    obtain ⟨k, rfl⟩ : ∃ j, k = j + 2 := ⟨k - 2, by omega⟩
    rw [K0 (k + 1), if_neg (by omega), K1 k, if_neg (by simp), List.drop_eq_nil_of_le (show a.length ≤ i by omega)]
    congr 1
    by_cases h : i < b.length
    · rw [decide_eq_true (by omega), List.drop_eq_getElem_cons h]; rfl
    · rw [decide_eq_false (by omega), List.drop_eq_nil_of_le (by omega)]; rfl
  | succ d ih =>
    intro k i hd hk hi hj
    obtain ⟨k, rfl⟩ : ∃ j, k = j + 2 := ⟨k - 2, by omega⟩
    rw [K0 (k + 1)]
    by_cases ha : i < a.length
    rotate_left
    · rw [if_neg (by omega), K1 k, if_neg (by simp), List.drop_eq_nil_of_le (show a.length ≤ i by omega)]
      congr 1
      by_cases h : i < b.length
      · rw [decide_eq_true (by omega), List.drop_eq_getElem_cons h]; rfl
      · rw [decide_eq_false (by omega), List.drop_eq_nil_of_le (by omega)]; rfl
    rw [if_pos (by omega), K1 k]
    by_cases hb : i < b.length
    rotate_left
    · rw [decide_eq_false (by omega), if_neg (by simp), List.drop_eq_getElem_cons ha, List.drop_eq_nil_of_le (show b.length ≤ i by omega)]
      congr 1
      exact decide_eq_false (by omega)
    have ei := Aside0.mk (show wrap64 ((i : Int) + 1) = ((i + 1 : Nat) : Int) by rw [wrap64_small (by omega) (by omega)]; omega)
    rw [decide_eq_true (by omega), if_pos rfl, if_pos (by omega), if_pos (by omega), if_pos (by omega), f0_at x a hx i ha, f0_at y b hy i hb, ei.out, List.drop_eq_getElem_cons ha, List.drop_eq_getElem_cons hb]
    unfold lessL
    by_cases e : a[i] = b[i]
    · rw [if_pos (by omega), if_pos e]
      exact ih k (i + 1) (by omega) (by omega) (by omega) (by omega)
    · rw [if_neg (by omega), if_neg e]
      congr 1
      exact decide_eq_decide.2 (by omega)
theorem decodeGo_ne (s : ByteArray) (h : s.size ≠ 0) : Lib.decodeGo s = decodeL (BL s) := by
  unfold Lib.decodeGo
  rw [if_neg h]
  have := decodeL_drop s 0
  rw [List.drop_zero] at this
  exact this.symm
theorem BL_ne (s : ByteArray) (h : s.size ≠ 0) : BL s ≠ [] := by
  intro e
  have := congrArg List.length e
  rw [BL_length] at this
  exact h this
theorem lessL_cons (x y : Nat) (xs ys : List Nat) : lessL (x :: xs) (y :: ys) = if x = y then lessL xs ys else decide (x < y) := rfl
theorem empty_iff (s : ByteArray) : s = ⟨#[]⟩ ↔ s.size = 0 := by
  constructor
  · intro h; subst h; rfl
  · intro h
    cases s with
    | mk d => congr 1; exact Array.eq_empty_of_size_eq_zero h
theorem ne_fact (s : ByteArray) (h : s.size ≠ 0) : s.toList.isEmpty = false := by
  rw [ByteArray.toList_eq]
  cases hl : s.data.toList with
  | nil => exact absurd hl (BL_ne s h)
  | cons _ _ => rfl
set_option maxHeartbeats 4000000 in
set_option maxRecDepth 1000000 in
theorem Less_calls (a b : ByteArray) (w : World) (hT : Lib.Utf8Tabs 0 1 w) :
    Calls Tryd.prog 34 #[.string a, .string b] w fun e w' => e = .returned (.bool (lessL (runes (BL a)) (runes (BL b)))) ∧ Below w.heap.size w w' := by
  have HT := Aside0.mk hT
  clear hT
  go_enter Tryd.func34, Tryd.ntmps34
  go_wp2
  go_loopg [0, 1] a.size (fun g va vb wx => ∃ x y : ByteArray, va = .string x ∧ vb = .string y ∧ g = x.size ∧ Below w.heap.size w wx ∧ lessL (runes (BL x)) (runes (BL y)) = lessL (runes (BL a)) (runes (BL b)))
  case atStart => exact ⟨a, b, rfl, rfl, rfl, Below.refl _ _, rfl⟩
  case round =>
    obtain ⟨x, y, rfl, rfl, rfl, hbw, hr⟩ := hrel
    have HB := Aside0.mk hbw; have HR := Aside0.mk hr
    clear hbw hr
    by_cases hx : x.size = 0
    · obtain rfl := (empty_iff x).2 hx
      by_cases hy : y.size = 0
      · obtain rfl := (empty_iff y).2 hy
        go_wp2
        go_ret
        exact ⟨by rw [← HR.out]; rfl, HB.out⟩
      · have hyE := ne_fact y hy
        go_wp2
        go_ret
        exact ⟨by rw [← HR.out, runes_step (BL y) (BL_ne y hy)]; rfl, HB.out⟩
    · have hxE := ne_fact x hx
      by_cases hy : y.size = 0
      · obtain rfl := (empty_iff y).2 hy
        go_wp2
        go_ret
        exact ⟨by rw [← HR.out, runes_step (BL x) (BL_ne x hx)]; rfl, HB.out⟩
      have hyE := ne_fact y hy
      have hr := HR.out
      rw [runes_step (BL x) (BL_ne x hx), runes_step (BL y) (BL_ne y hy), lessL_cons] at hr
      have HR2 := Aside0.mk hr
      have hdx := decodeGo_ne x hx; have hdy := decodeGo_ne y hy
      have hwx := decodeL_width (BL x); have hlx := decodeL_le (BL x) (BL_ne x hx); have hwy := decodeL_width (BL y); have hly := decodeL_le (BL y) (BL_ne y hy)
      rw [BL_length] at hlx hly
      clear hr
      go_wp2_with fail
      have h := Tryd.utf8_DecodeRuneInString x wr (tabs_below HT.out HB.out)
      rw [hdx] at h
      refine h.mono ?_
      clear h hdx
      rintro e w1 ⟨rfl, hb1⟩
      have HB1 := Aside0.mk (HB.out.trans (hb1.mono HB.out.size))
      clear hb1
      go_wp2_with fail
      have h := Tryd.utf8_DecodeRuneInString y w1 (tabs_below HT.out HB1.out)
      rw [hdy] at h
      refine h.mono ?_
      clear h hdy
      rintro e w2 ⟨rfl, hb2⟩
      have HB2 := Aside0.mk (HB1.out.trans (hb2.mono HB1.out.size))
      clear hb2
      generalize hnx : (decodeL (BL x)).2 = nx at hwx hlx HR2
      generalize hny : (decodeL (BL y)).2 = ny at hwy hly HR2
      generalize (decodeL (BL x)).1 = c at HR2
      generalize (decodeL (BL y)).1 = d at HR2
      clear hnx hny
      by_cases hcd : c = d
      · subst hcd
        rw [if_pos rfl] at HR2
        go_wp2_with fail
        refine wp_region_noPanic ?_
        refine wp_region_held_drew (S := fun W => Below w.heap.size w W) (by kernel_rfl) (HB2.out.drew) (fun hHeld => ?_)
        refine wpAnyH_take (i := 0) (oi := { dst := some 31, op := _, type := _, pos := _, after := _, guard := _ }) (v := ?_) rfl (by kernel_rfl) (by kernel_rfl) (by kernel_rfl) (fun _ _ _ h => h) (Or.inl ⟨by rfl, ?_⟩) hHeld ?_
        rotate_left
        · (intro w hSw; go_simp) <;> (with_reducible rfl)
        try simp only [Act.put, List.setIfInBounds_toArray, List.set_cons_zero, List.set_cons_succ]
        refine wpAnyH_take (i := 1) (oi := { dst := some 32, op := _, type := _, pos := _, after := _, guard := _ }) (v := ?_) rfl (by kernel_rfl) (by kernel_rfl) (by kernel_rfl) (fun _ _ _ h => h) (Or.inl ⟨by rfl, ?_⟩) hHeld ?_
        rotate_left
        · (intro w hSw; go_simp) <;> (with_reducible rfl)
        try simp only [Act.put, List.setIfInBounds_toArray, List.set_cons_zero, List.set_cons_succ]
        refine wpAnyH_take (i := 2) (oi := { dst := some 33, op := _, type := _, pos := _, after := _, guard := _ }) (v := ?_) rfl (by kernel_rfl) (by kernel_rfl) (by kernel_rfl) (fun _ _ _ h => h) (Or.inl ⟨by rfl, ?_⟩) hHeld ?_
        rotate_left
        · (intro w hSw; go_simp) <;> (with_reducible rfl)
        try simp only [Act.put, List.setIfInBounds_toArray, List.set_cons_zero, List.set_cons_succ]
        refine wpAnyH_take (i := 3) (oi := { dst := some 34, op := _, type := _, pos := _, after := _, guard := _ }) (v := ?_) rfl (by kernel_rfl) (by kernel_rfl) (by kernel_rfl) (fun _ _ _ h => h) (Or.inl ⟨by rfl, ?_⟩) hHeld ?_
        rotate_left
        · (intro w hSw; go_simp) <;> (with_reducible rfl)
        try simp only [Act.put, List.setIfInBounds_toArray, List.set_cons_zero, List.set_cons_succ]
        refine wpAnyH_take (i := 4) (oi := { dst := some 35, op := _, type := _, pos := _, after := _, guard := _ }) (v := ?_) rfl (by kernel_rfl) (by kernel_rfl) (by kernel_rfl) (fun _ _ _ h => h) (Or.inl ⟨by rfl, ?_⟩) hHeld ?_
        rotate_left
        · (intro w hSw; go_simp) <;> (with_reducible rfl)
        try simp only [Act.put, List.setIfInBounds_toArray, List.set_cons_zero, List.set_cons_succ]
        refine wpAnyH_take (i := 5) (oi := { dst := some 36, op := _, type := _, pos := _, after := _, guard := _ }) (v := ?_) rfl (by kernel_rfl) (by kernel_rfl) (by kernel_rfl) (fun _ _ _ h => h) (Or.inl ⟨by rfl, ?_⟩) hHeld ?_
        rotate_left
        · (intro w hSw; go_simp) <;> (with_reducible rfl)
        try simp only [Act.put, List.setIfInBounds_toArray, List.set_cons_zero, List.set_cons_succ]
        refine wpAnyH_take (i := 6) (oi := { dst := some 0, op := _, type := _, pos := _, after := _, guard := _ }) (v := ?_) rfl (by kernel_rfl) (by kernel_rfl) (by kernel_rfl) (fun _ _ _ h => h) (Or.inl ⟨by rfl, ?_⟩) hHeld ?_
        rotate_left
        · (intro w hSw; go_simp) <;> (with_reducible rfl)
        try simp only [Act.put, List.setIfInBounds_toArray, List.set_cons_zero, List.set_cons_succ]
        refine wpAnyH_take (i := 7) (oi := { dst := some 1, op := _, type := _, pos := _, after := _, guard := _ }) (v := ?_) rfl (by kernel_rfl) (by kernel_rfl) (by kernel_rfl) (fun _ _ _ h => h) (Or.inl ⟨by rfl, ?_⟩) hHeld ?_
        rotate_left
        · (intro w hSw; go_simp) <;> (with_reducible rfl)
        try simp only [Act.put, List.setIfInBounds_toArray, List.set_cons_zero, List.set_cons_succ]
        refine wpAnyH_done (by kernel_rfl) ?_ _
        refine NoPanic.normal ?_
        go_wp2
        go_roundg ((x.extract nx x.size).size)
        case measure => rw [← BL_length, BL_extract, List.length_drop, BL_length]; omega
        case rel => exact ⟨x.extract nx x.size, y.extract ny y.size, rfl, rfl, rfl, hHeld, by rw [BL_extract, BL_extract]; exact HR2.out⟩
      · have hc1 : ((c : Int) == (d : Int)) = false := by rw [beq_eq_false_iff_ne]; omega
        have hc2 : ((c : Int) != (d : Int)) = true := by rw [bne_iff_ne]; omega
        rw [if_neg hcd] at HR2
        go_wp2
        go_ret
        exact ⟨by rw [← HR2.out]; simp, HB2.out⟩
theorem BL_of (l : List UInt8) : BL ⟨l.toArray⟩ = l := by simp [BL]
end Go.Proofs.YtkabjbkefoipnaaDoor.Nm
