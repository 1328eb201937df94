import Derived.Test.YtkabjbkefoipnaaDoorGIn1
namespace Go.Proofs.YtkabjbkefoipnaaDoor.Md
open Go.RowKit Go.Lib Go.Proofs.YtkabjbkefoipnaaDoorW.PrintWords Go.Proofs.YtkabjbkefoipnaaDoorW.PrintLast Go.Proofs.YtkabjbkefoipnaaDoorW.PrintMore Go.Proofs.YtkabjbkefoipnaaDoor.PM
set_option linter.unusedVariables false
set_option linter.unusedSimpArgs false
theorem R_ne_row {α : Type} {d : Kd α} {e : Nat} {w : World} {base : Nat} {ok : Nat → Prop} {v : Value} {xs : List α} (h : d.R e w base ok v xs) {g t : Nat} {cells : Array Value} (hb : w.heap[g]? = some (.cells cells t (0, 0))) (ht : ∀ q, q ∈ d.E → q ≠ t) (hne : v.ownBlock ≠ some g) : d.R e w base (fun k => ok k ∧ k ≠ g) v xs :=
  ⟨fun k hk => ⟨h.1 k hk, fun e => hne (e ▸ hk)⟩, h.2.imp_ (fun _ _ hp => d.M_mono (fun k hk => ⟨⟨hk.1.1, hk.2⟩, hk.1.2⟩) (Kd.M_types hp hb ht))⟩
set_option maxRecDepth 20000 in
theorem Delete_calls (x : Kn) (xs : List Kn) (v : Value) (base : Nat) (ok : Nat → Prop) (w : World) (hr : kK.R 25 w base ok v (x :: xs)) :
    Calls Tryd.prog 52 #[v, .int .i64 0, .int .i64 1] w fun e w' => ∃ v', e = .returned v' ∧ kK.R 25 w' base ok v' xs ∧ w.grownBy w' v.ownBlock ∧ v'.ownBlock = v.ownBlock := by
  obtain ⟨hok, inner, ⟨hlen, hcase⟩, hreps⟩ := hr
  rcases hcase with ⟨rfl, h0⟩ | ⟨g, cap, cur, rfl, hbg, hh, hn, hm, hsz, htk⟩
  · simp at h0
  rw [List.length_cons] at hn hlen htk
  have h1 : ∀ u ∈ inner, u.oneCell' = true := Kd.reps_one hreps (by decide) (fun p c hp u hu => kK.K_one (kK.K_of_M hp) u hu)
  refine (Delete_run g xs.length cap cur w hh hn hm hsz (by rw [show kK.sz = 3 from rfl] at htk; rw [htk]; exact h1)).mono ?_
  rintro e w' ⟨rfl, rfl⟩
  have htk' : cur.toList.take ((xs.length + 1) * 3) = inner := htk
  have hlen' : inner.length = (xs.length + 1) * 3 := hlen
  rw [htk']
  have hnl : (inner.drop 3).length = xs.length * 3 := by rw [List.length_drop, hlen']; omega
  have hg : w.grownBy ((w.drew.setCells g 0 (inner.drop 3)).setCells g (xs.length * 3) [.int .i64 0, .bool false, .slice none 0 0]) (some g) :=
    grown_trans (grown_trans (b := w.drew) ⟨rfl, rfl, rfl, Nat.le_refl _, fun _ _ _ => rfl⟩ (grown_setCells g _ 0 w.drew)) (grown_setCells g _ _ _)
  refine ⟨_, rfl, ⟨hok, inner.drop 3, ⟨hnl, .inr ⟨g, cap, _, rfl, hbg, blk_setCells _ _ (blk_setCells _ _ (blk_drew hh)), by omega, hm, by rw [setA_size, setA_size]; exact hsz, ?_⟩⟩, ?_⟩, hg, rfl⟩
  · show List.take (xs.length * 3) _ = _
    have hs0 : (inner.drop 3).length + 0 ≤ cur.size := by rw [hnl, show cur.size = cap * 3 from hsz]; omega
    have l0 : (setA cur 0 (inner.drop 3)).toList.take (xs.length * 3) = inner.drop 3 := by
      rw [setA_toList _ _ _ (by omega), List.take_zero, List.nil_append, List.take_append_of_le_length (by omega), List.take_of_length_le (by omega)]
    rw [setA_toList _ _ _ (by rw [setA_size, show cur.size = cap * 3 from hsz]; simp; omega), l0, List.append_assoc, List.take_append_of_le_length (by omega), List.take_of_length_le (by omega)]
  · have hr1 := Kd.reps_drop (m := 1) hreps
    have hr2 : Reps (kK.M w base (fun k => ok k ∧ some k ≠ some g)) 3 xs (inner.drop 3) := hr1
    exact hr2.imp_ (fun _ _ hp => Kd.M_grown hp hg (fun k hk => hk.2))
theorem kR_cells {w : World} {base : Nat} {ok : Nat → Prop} {p : Sc × Hdr} {c : List Value} (h : kR.M w base ok p c) : c = [.string p.1.f0, hv p.2] := kR_open (kR.K_of_M h)
set_option maxRecDepth 20000 in
theorem Insert_calls (ps : List (Sc × Hdr)) (i : Nat) (p : Sc × Hdr) (v : Value) (base vb : Nat) (w : World) (hr : kR.R 39 w base (fun _ => True) v ps) (hvb : w.heap[vb]? = some (.cells #[.string p.1.f0, hv p.2] 39 (0, 0))) (hne : v.ownBlock ≠ some vb) (hi : i ≤ ps.length) (hl : ps.length ≤ 500) (hb : base ≤ w.heap.size) :
    Calls Tryd.prog 51 #[v, .int .i64 i, .slice (some ⟨vb, 0, none⟩) 1 1] w fun e w' => ∃ v', e = .returned v' ∧ kR.R 39 w' base (fun _ => True) v' (ps.take i ++ p :: ps.drop i) ∧ w.grownBy w' v.ownBlock ∧ (v'.ownBlock = v.ownBlock ∨ ∃ b, v'.ownBlock = some b ∧ w.heap.size ≤ b) := by
  obtain ⟨_, inner, ho, hreps⟩ := hr
  have hpc : ∀ {W : World} {bs : Nat} {okk : Nat → Prop}, kR.M W bs okk p [.string p.1.f0, hv p.2] := fun {W bs okk} => kR_mk W bs okk p
  have h1v : ∀ u ∈ [Value.string p.1.f0, hv p.2], u.oneCell' = true := by intro u hu; simp at hu; rcases hu with rfl | rfl <;> rfl
  have h1 : ∀ u ∈ inner, u.oneCell' = true := Kd.reps_one hreps (by decide) (fun q c hp u hu => kR.K_one (kR.K_of_M hp) u hu)
  have hreps2 : Reps (fun q c => c = [.string q.1.f0, hv q.2]) 2 ps inner := hreps.imp_ (fun _ _ hp => kR_cells hp)
  have back : ∀ {W : World} {bs : Nat} {okk : Nat → Prop} {qs : List (Sc × Hdr)} {c : List Value}, Reps (fun q c => c = [Value.string q.1.f0, hv q.2]) 2 qs c → Reps (kR.M W bs okk) 2 qs c := fun h => h.imp_ (fun q c hc => by subst hc; exact kR_mk _ _ _ q)
  have new : Reps (fun q c => c = [Value.string q.1.f0, hv q.2]) 2 (ps.take i ++ p :: ps.drop i) (inner.take (i * 2) ++ [.string p.1.f0, hv p.2] ++ inner.drop (i * 2)) := by
    have := Kd.reps_append (Kd.reps_append (Kd.reps_take hreps2 hi) (Reps.front (R := fun (q : Sc × Hdr) c => c = [Value.string q.1.f0, hv q.2]) (p := p) rfl rfl (Reps.none _ 2) (List.append_nil _))) (Kd.reps_drop (m := i) hreps2)
    rwa [List.append_assoc, List.singleton_append] at this
  clear hreps
  by_cases hin : i = ps.length
  · subst hin
    refine (Insert_end ps.length v vb base inner [.string p.1.f0, hv p.2] w ho hvb rfl hb (by omega) h1v).mono ?_
    rintro e w' ⟨v', rfl, ho', hg, hat⟩
    refine ⟨v', rfl, ⟨fun _ _ => trivial, inner ++ [.string p.1.f0, hv p.2], ?_, ?_⟩, hg, hat⟩
    · rw [List.take_length, List.drop_length, List.length_append]; exact ho'
    · have e1 : inner.take (ps.length * 2) = inner := List.take_of_length_le (by rw [hreps2.1]; exact Nat.le_refl _)
      have e2 : inner.drop (ps.length * 2) = [] := List.drop_of_length_le (by rw [hreps2.1]; exact Nat.le_refl _)
      rw [e1, e2, List.append_nil] at new
      exact back new
  have hlt : i < ps.length := by omega
  obtain ⟨hlen, hcase⟩ := ho
  rcases hcase with ⟨rfl, h0⟩ | ⟨g, cap, cur, rfl, hbg, hh, hn, hm, hsz, htk⟩
  · omega
  have hlen' : inner.length = ps.length * 2 := hlen
  have htk' : cur.toList.take (ps.length * 2) = inner := htk
  have hsz' : cur.size = cap * 2 := hsz
  have hm' : cap ≤ 9223372036854775807 := hm
  have hvg : vb ≠ g := fun e => hne (by rw [e]; rfl)
  have lt1 : (inner.take (i * 2)).length = i * 2 := by rw [List.length_take, hlen']; omega
  have lnew : (ps.take i ++ p :: ps.drop i).length = ps.length + 1 := by rw [List.length_append, List.length_cons, List.length_take, List.length_drop]; omega
  by_cases hroom : ps.length + 1 ≤ cap
  · refine (Insert_shift g ps.length i cap vb cur [.string p.1.f0, hv p.2] w hh hvb rfl hvg hlt hroom hm' hsz' (by rw [htk']; exact h1) h1v).mono ?_
    rintro e w' ⟨rfl, rfl⟩
    rw [htk']
    have hg : w.grownBy ((w.drew.setCells g ((i + 1) * 2) (inner.drop (i * 2))).setCells g (i * 2) [.string p.1.f0, hv p.2]) (some g) :=
      grown_trans (grown_trans (b := w.drew) ⟨rfl, rfl, rfl, Nat.le_refl _, fun _ _ _ => rfl⟩ (grown_setCells g _ _ w.drew)) (grown_setCells g _ _ _)
    refine ⟨_, rfl, ⟨fun _ _ => trivial, inner.take (i * 2) ++ [.string p.1.f0, hv p.2] ++ inner.drop (i * 2), ⟨?_, .inr ⟨g, cap, _, ?_, hbg, blk_setCells _ _ (blk_setCells _ _ (blk_drew hh)), by omega, hm, by rw [setA_size, setA_size]; exact hsz, ?_⟩⟩, back new⟩, hg, .inl rfl⟩
    · rw [lnew]; show _ = (ps.length + 1) * 2
      rw [List.length_append, List.length_append, lt1, List.length_drop, hlen']; simp; omega
    · rw [lnew]
    · rw [lnew]; show List.take ((ps.length + 1) * 2) _ = _
      have ld : (inner.drop (i * 2)).length = (ps.length - i) * 2 := by rw [List.length_drop, hlen']; omega
      have lc : cur.toList.length = cap * 2 := by rw [Array.length_toList, hsz']
      have hpre : cur.toList.take (i * 2) = inner.take (i * 2) := by rw [← htk', List.take_take, Nat.min_eq_left (by omega)]
      have s1 : (setA cur ((i + 1) * 2) (inner.drop (i * 2))).toList = cur.toList.take ((i + 1) * 2) ++ inner.drop (i * 2) ++ cur.toList.drop ((i + 1) * 2 + (inner.drop (i * 2)).length) := setA_toList _ _ _ (by rw [ld, hsz']; omega)
      rw [setA_toList _ _ _ (by rw [setA_size, hsz']; simp; omega), s1]
      have l1 : (cur.toList.take ((i + 1) * 2)).length = (i + 1) * 2 := by rw [List.length_take, lc]; omega
      have e1 : (cur.toList.take ((i + 1) * 2) ++ inner.drop (i * 2) ++ cur.toList.drop ((i + 1) * 2 + (inner.drop (i * 2)).length)).take (i * 2) = inner.take (i * 2) := by
        rw [List.append_assoc, List.take_append_of_le_length (by rw [l1]; omega), List.take_take, Nat.min_eq_left (by omega), hpre]
      have e2 : (cur.toList.take ((i + 1) * 2) ++ inner.drop (i * 2) ++ cur.toList.drop ((i + 1) * 2 + (inner.drop (i * 2)).length)).drop (i * 2 + [Value.string p.1.f0, hv p.2].length) = inner.drop (i * 2) ++ cur.toList.drop ((i + 1) * 2 + (inner.drop (i * 2)).length) := by
        rw [List.append_assoc, show i * 2 + [Value.string p.1.f0, hv p.2].length = (cur.toList.take ((i + 1) * 2)).length by rw [l1]; simp; omega, List.drop_left]
      rw [e1, e2, ← List.append_assoc, List.take_append_of_le_length (by rw [List.length_append, List.length_append, lt1, ld]; simp; omega), List.take_of_length_le (by rw [List.length_append, List.length_append, lt1, ld]; simp; omega)]
  · refine (Insert_grow g ps.length i cap vb cur [.string p.1.f0, hv p.2] w hh hvb rfl hlt hn (by omega) (by omega) hsz' (by rw [htk']; exact h1) h1v).mono ?_
    rintro e w' ⟨G, nw, hG1, hG2, rfl, hb', hn', hs', ht'⟩
    rw [htk'] at ht'
    have hpre : cur.toList.take (i * 2) = inner.take (i * 2) := by rw [← htk', List.take_take, Nat.min_eq_left (by omega)]
    rw [hpre] at ht'
    refine ⟨_, rfl, ⟨fun _ _ => trivial, inner.take (i * 2) ++ [.string p.1.f0, hv p.2] ++ inner.drop (i * 2), ⟨?_, .inr ⟨w.heap.size, G, nw, ?_, hb, hn', by omega, hG2, hs', ?_⟩⟩, back new⟩, grown_of_below hb' _, .inr ⟨_, rfl, Nat.le_refl _⟩⟩
    · rw [lnew]; show _ = (ps.length + 1) * 2
      rw [List.length_append, List.length_append, lt1, List.length_drop, hlen']; simp; omega
    · rw [lnew]
    · rw [lnew]; exact ht'
structure Cx (w : World) (base : Nat) (v : Value) (ps : List (Sc × Hdr)) (i : Nat) (u : Value) (vs : List Kn) : Prop where
  row : kR.R 39 w base (fun _ => True) v ps
  ver : ∀ j (h : j < ps.length), j ≠ i → kK.R 25 w base (fun _ => True) (hv ps[j].2) ps[j].1.f1
  all : kK.R 25 w base (fun _ => True) u vs
  apart : ∀ j k (hj : j < ps.length) (hk : k < ps.length), j ≠ i → k ≠ i → j < k → ∀ b, (hv ps[j].2).ownBlock = some b → (hv ps[k].2).ownBlock ≠ some b
  apart' : ∀ j (h : j < ps.length), j ≠ i → ∀ b, u.ownBlock = some b → (hv ps[j].2).ownBlock ≠ some b
theorem Cp.cx {w : World} {base : Nat} {v : Value} {ps : List (Sc × Hdr)} (h : Cp w base v ps) (i : Nat) (hi : i < ps.length) : Cx w base v ps i (hv ps[i].2) ps[i].1.f1 where
  row := h.row
  ver := fun j hj _ => h.ver _ (List.getElem_mem hj)
  all := h.ver _ (List.getElem_mem hi)
  apart := fun j k hj hk _ _ hjk => List.pairwise_iff_getElem.1 h.apart j k hj hk hjk
  apart' := fun j hj hji b hb hb' => by
    rcases Nat.lt_or_gt_of_ne hji with h1 | h1
    · exact List.pairwise_iff_getElem.1 h.apart j i hj hi h1 b hb' hb
    · exact List.pairwise_iff_getElem.1 h.apart i j hi hj h1 b hb hb'
theorem Cx.below {w w' : World} {base : Nat} {v u : Value} {ps : List (Sc × Hdr)} {i : Nat} {vs : List Kn} (h : Cx w base v ps i u vs) (hb : Below w.heap.size w w') : Cx w' base v ps i u vs :=
  ⟨Kd.R_below h.row hb, fun j hj hji => Kd.R_below (h.ver j hj hji) hb, Kd.R_below h.all hb, h.apart, h.apart'⟩
theorem E_kK : ∀ q, q ∈ kK.E → q ≠ 25 := by decide
theorem E_kR : ∀ q, q ∈ 39 :: kR.E → q ≠ 25 := by decide
theorem Cx.step {w w' : World} {base : Nat} {v u u' : Value} {ps : List (Sc × Hdr)} {i : Nat} {vs vs' : List Kn} (h : Cx w base v ps i u vs) (hg : w.grownBy w' u.ownBlock) (hu : kK.R 25 w' base (fun _ => True) u' vs') (hat : u'.ownBlock = u.ownBlock ∨ ∃ b, u'.ownBlock = some b ∧ w.heap.size ≤ b) : Cx w' base v ps i u' vs' where
  row := Kd.R_over h.row h.all E_kR hg
  ver := fun j hj hji => by
    have hv1 := h.ver j hj hji
    cases hu0 : u.ownBlock with
    | none =>
      rw [hu0] at hg
      exact Kd.R_grown hv1 hg (fun k _ => by simp)
    | some b =>
      obtain ⟨inner, ho⟩ := Kd.R_own h.all
      obtain ⟨cells, hc⟩ := own_typed ho b hu0
      have h2 := R_ne_row hv1 hc E_kK (h.apart' j hj hji b hu0)
      rw [hu0] at hg
      exact Kd.R_mono (Kd.R_grown h2 hg (fun k hk e => hk.2 (by injection e))) (fun _ hk => hk.1)
  all := hu
  apart := h.apart
  apart' := fun j hj hji b hb => by
    rcases hat with hat | ⟨b', hb', hle⟩
    · exact h.apart' j hj hji b (hat ▸ hb)
    · rw [hb'] at hb
      injection hb with hb
      subst hb
      intro e
      have := Kd.R_lt (h.ver j hj hji) _ e
      omega
theorem Cx.store {w : World} {base g n c : Nat} {ps : List (Sc × Hdr)} {i : Nat} {hd : Hdr} {vs : List Kn} (h : Cx w base (.slice (some ⟨g, 0, none⟩) n c) ps i (hv hd) vs) (hi : i < ps.length) : Cp (w.setCell ⟨g, i * 2 + 1, none⟩ (hv hd)) base (.slice (some ⟨g, 0, none⟩) n c) (ps.set i (⟨ps[i].1.f0, vs⟩, hd)) := by
  obtain ⟨_, inner, ⟨hlen, hcase⟩, hreps⟩ := h.row
  rcases hcase with ⟨hnil, _⟩ | ⟨g', cap, cur, hv0, hbg, hh, hn, hm, hsz, htk⟩
  · cases hnil
  injection hv0 with h1 h2 h3
  injection h1 with h1
  injection h1 with h1
  subst h1 h2 h3
  have hlen' : inner.length = ps.length * 2 := hlen
  have htk' : cur.toList.take (ps.length * 2) = inner := htk
  have hsz' : cur.size = c * 2 := hsz
  have hg : w.grownBy (w.setCell ⟨g, i * 2 + 1, none⟩ (hv hd)) (some g) := grown_set w ⟨g, i * 2 + 1, none⟩ (hv hd)
  have hR2 : Reps (fun q c => c = [Value.string q.1.f0, hv q.2]) 2 ps inner := hreps.imp_ (fun _ _ hp => kR_cells hp)
  have key : ∀ {q : Sc × Hdr}, q = (⟨ps[i].1.f0, vs⟩, hd) → Reps (fun (q : Sc × Hdr) c => c = [Value.string q.1.f0, hv q.2]) 2 (ps.set i q) (inner.set (i * 2 + 1) (hv hd)) := by
    rintro q rfl
    refine ⟨by rw [List.length_set, List.length_set]; exact hlen', fun j p hj => ?_⟩
    rw [List.drop_set]
    by_cases hji : j = i
    · subst hji
      rw [List.getElem?_set_self hi] at hj
      injection hj with hj
      subst hj
      have h0 := hR2.2 j _ (List.getElem?_eq_getElem hi)
      rw [if_neg (by omega), List.take_set, h0, show j * 2 + 1 - j * 2 = 1 by omega]
      rfl
    · rw [List.getElem?_set_ne (Ne.symm hji)] at hj
      have h0 := hR2.2 j p hj
      by_cases hlt : i * 2 + 1 < j * 2
      · rw [if_pos hlt]; exact h0
      · rw [if_neg hlt, List.take_set, h0, List.set_eq_of_length_le (by simp; omega)]
  have hmem : ∀ p, p ∈ ps.set i (⟨ps[i].1.f0, vs⟩, hd) → ∃ j, ∃ hj : j < ps.length, (j = i ∧ p = (⟨ps[i].1.f0, vs⟩, hd)) ∨ (j ≠ i ∧ p = ps[j]) := by
    intro p hp
    obtain ⟨j, hj, rfl⟩ := List.getElem_of_mem hp
    rw [List.length_set] at hj
    by_cases hji : j = i
    · exact ⟨j, hj, .inl ⟨hji, by subst hji; simp⟩⟩
    · exact ⟨j, hj, .inr ⟨hji, by rw [List.getElem_set_ne (Ne.symm hji)]⟩⟩
  have hty : ∀ q, q ∈ 25 :: kK.E → q ≠ 39 := ty_ver
  refine ⟨⟨fun _ _ => trivial, inner.set (i * 2 + 1) (hv hd), ⟨?_, .inr ⟨g, c, _, by rw [List.length_set], hbg, blk_set hh _ _, by rw [List.length_set]; exact hn, hm, by simp; exact hsz, ?_⟩⟩, ?_⟩, ?_, ?_⟩
  · rw [List.length_set, List.length_set]; exact hlen
  · rw [List.length_set]
    show List.take (ps.length * 2) _ = _
    rw [Array.toList_setIfInBounds, List.take_set, htk']
  · exact (key rfl).imp_ (fun q c hc => by subst hc; exact kR_mk _ _ _ q)
  · intro p hp
    obtain ⟨j, hj, ⟨rfl, rfl⟩ | ⟨hji, rfl⟩⟩ := hmem p hp
    · exact Kd.R_set h.all hh hty _ _
    · exact Kd.R_set (h.ver j hj hji) hh hty _ _
  · rw [List.pairwise_iff_getElem]
    intro j k hj0 hk0 hjk b hb
    have hj : j < ps.length := by rw [List.length_set] at hj0; exact hj0
    have hk : k < ps.length := by rw [List.length_set] at hk0; exact hk0
    by_cases hji : j = i
    · subst hji
      rw [List.getElem_set_self] at hb
      rw [List.getElem_set_ne (by omega)]
      exact h.apart' k hk (by omega) b hb
    · rw [List.getElem_set_ne (Ne.symm hji)] at hb
      by_cases hki : k = i
      · subst hki
        rw [List.getElem_set_self]
        intro e
        exact h.apart' j hj hji b e hb
      · rw [List.getElem_set_ne (Ne.symm hki)]
        exact h.apart j k hj hk hji hki hjk b hb
theorem Cp.insert {w w' : World} {base : Nat} {v v' : Value} {ps : List (Sc × Hdr)} (h : Cp w base v ps) (i : Nat) (nm : ByteArray) (hrow : kR.R 39 w' base (fun _ => True) v' (ps.take i ++ (⟨nm, []⟩, (none, 0, 0)) :: ps.drop i)) (hg : w.grownBy w' v.ownBlock) : Cp w' base v' (ps.take i ++ (⟨nm, []⟩, (none, 0, 0)) :: ps.drop i) where
  row := hrow
  ver := fun p hp => by
    rcases List.mem_append.1 hp with hp | hp
    · exact Kd.R_over (h.ver p (List.mem_of_mem_take hp)) h.row ty_ver hg
    · rcases List.mem_cons.1 hp with rfl | hp
      · exact Kd.R_nil _ _ _ _ _
      · exact Kd.R_over (h.ver p (List.mem_of_mem_drop hp)) h.row ty_ver hg
  apart := by
    have h0 := h.apart
    rw [← List.take_append_drop i ps, List.pairwise_append] at h0
    rw [List.pairwise_append, List.pairwise_cons]
    refine ⟨h0.1, ⟨fun q _ b (hb : (none : Option Nat) = some b) => (by cases hb), h0.2.1⟩, fun p hp q hq b hb => ?_⟩
    rcases List.mem_cons.1 hq with rfl | hq
    · intro e; cases e
    · exact h0.2.2 p hp q hq b hb
end Go.Proofs.YtkabjbkefoipnaaDoor.Md
