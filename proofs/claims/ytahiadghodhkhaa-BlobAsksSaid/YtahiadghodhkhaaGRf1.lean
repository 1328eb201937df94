import Derived.Test.YtahiadghodhkhaaGBc
import Derived.Test.YtahiadghodhkhaaGPBx8
import Derived.Laws.Cover1
namespace Go.Proofs.Ytahiadghodhkhaa.Bl
open Go.RowKit Go.Maps Go.Proofs.YtahiadghodhkhaaW.PrintWords Go.Proofs.YtahiadghodhkhaaW.PrintLast Go.Proofs.YtahiadghodhkhaaW.PrintMore Go.Proofs.Ytahiadghodhkhaa.PB
set_option linter.unusedVariables false
set_option linter.unusedSimpArgs false
def refL (L : List Ent) : List S69 := L.map fun x => ⟨x.1, x.2.2⟩
theorem refL_len (L : List Ent) : (refL L).length = L.length := by simp [refL]
def ltS (x y : S69) : Bool := !(Op.bytesLess y.f0.toList x.f0.toList || y.f0.toList == x.f0.toList)
def insS (x : S69) : List S69 → List S69
  | [] => [x]
  | y :: r => if ltS x y then x :: y :: r else y :: insS x r
theorem insS_len (x : S69) : ∀ l, (insS x l).length = l.length + 1
  | [] => rfl
  | y :: r => by
    unfold insS
    split
    · simp
    · simp [insS_len x r]
theorem insS_snoc (x y : S69) : ∀ t : List S69, insS x (t ++ [y]) = if t.any (ltS x) then insS x t ++ [y] else if ltS x y then (t ++ [x]) ++ [y] else t ++ [y] ++ [x]
  | [] => by
    simp only [List.nil_append, List.any_nil, insS]
    by_cases h : ltS x y <;> simp [h]
  | z :: r => by
    have ih := insS_snoc x y r
    simp only [List.cons_append, insS, List.any_cons]
    by_cases h : ltS x z
    · simp [h]
    · simp only [h, Bool.false_or, ih]
      by_cases h2 : r.any (ltS x)
      · simp [h2]
      · simp only [h2, Bool.false_eq_true, if_false]
        by_cases h3 : ltS x y <;> simp [h3]
theorem insS_none (x : S69) : ∀ t : List S69, t.any (ltS x) = false → insS x t = t ++ [x]
  | [], _ => rfl
  | y :: r, h => by
    rw [List.any_cons, Bool.or_eq_false_iff] at h
    unfold insS
    rw [h.1, insS_none x r h.2]
    rfl
theorem oneF {W : World} {ok : Nat → Prop} {A : Option Addr} {n : Nat} {xs : List S69} (h : Kd.F k69 W ok A n xs) (i : Nat) (hi : i < n) : ∃ ad A1 c1, A = some ad ∧ W.cell? (ad.add (i * 2)) = some (.string (xs.getD i z69).f0) ∧
    W.cell? ⟨(ad.add (i * 2)).block, (ad.add (i * 2)).off + 1, none⟩ = some (.slice A1 (xs.getD i z69).f1.length c1) ∧ (xs.getD i z69).f1.length ≤ c1 ∧ Kd.F (Kd.int .u8) W ok A1 (xs.getD i z69).f1.length (xs.getD i z69).f1 := by
  obtain ⟨ad, c, e, _, hK, hc, _⟩ := Kd.F_get h z69 (i : Int) (by omega) (by omega)
  rw [Int.toNat_natCast] at hK hc
  obtain ⟨A1, c1, rfl, l1, g1⟩ := k69_openF hK
  have h0 := hc 0 _ rfl
  have h1 := hc 1 _ rfl
  exact ⟨ad, A1, c1, e, h0, by rw [← add_field _ _ 1 (by omega)]; exact h1, l1, g1⟩
theorem hp_cell {w w' : World} {n : Nat} (hn : w.heap.size ≤ n) (h : Below n w w') {a : Addr} {v : Value} (hc : w.cell? a = some v) : w'.cell? a = some v := Kd.cell_heap (fun k hk => h.block k (by omega)) hc
set_option maxRecDepth 20000 in
set_option maxHeartbeats 4000000 in
theorem with_calls (P : Nat → Prop) (A : Option Addr) (c : Nat) (l : List S69) (x : S69) (Ax : Option Addr) (cx : Nat) (w : World) (hnew : ∀ k, w.heap.size ≤ k → P k) (hF : Kd.F k69 w P A l.length l) (hX : Kd.F (Kd.int .u8) w P Ax x.f1.length x.f1) (hx : x.f1.length ≤ cx) (hl : l.length ≤ 100000) :
    Calls Try.prog 36 #[.slice A l.length c, .agg #[.string x.f0, .slice Ax x.f1.length cx]] w fun e w' => ∃ v, e = .returned v ∧ Kd.N k69 69 w' w.heap.size P v (insS x l) ∧ Below w.heap.size w w' := by
  have hfresh1 : ∀ k, w.heap.size < k → P k ∧ k ≠ w.heap.size := fun k hk => ⟨hnew k (by omega), by omega⟩
  have hF0 := Aside0.mk (Kd.F_elderB hF w.heap.size (Nat.le_refl _))
  have hX0 := Aside0.mk (Kd.F_elderB hX w.heap.size (Nat.le_refl _))
  clear hF hX
  have hF := hF0
  have hX := hX0
  clear hF0 hX0
  generalize hok : (fun k => P k ∧ k ≠ w.heap.size) = ok1 at hF hX
  have hfr : ∀ k, w.heap.size < k → ok1 k := by rw [← hok]; exact hfresh1
  have hngb : ∀ k, ok1 k → k ≠ w.heap.size := by rw [← hok]; exact fun _ h => h.2
  have hP : ∀ k, ok1 k → P k := by rw [← hok]; exact fun _ h => h.1
  clear hok hfresh1 hnew
  have HX := Aside0.mk (And.intro hfr hngb)
  clear hfr hngb
  go_enter Try.func36, Try.ntmps36
  go_wp2_with fail
  have K0 := Aside0.mk (blk_new w (.cells #[.string x.f0, .slice Ax x.f1.length cx] 69))
  have B0 := Aside0.mk (below_alloc (Below.refl w.heap.size w) (.cells #[.string x.f0, .slice Ax x.f1.length cx] 69))
  go_loopg [5, 6, 7] l.length (fun kq v5 v6 v7 w' => ∃ (i : Nat) (ys : List S69) (p : Bool), v6 = .bool p ∧ v7 = .int .i64 i ∧ p = (l.take i).any (ltS x) ∧ i ≤ l.length ∧ Aside0 (ys = if p then insS x (l.take i) else l.take i) ∧ Aside0 (kq + i = l.length) ∧ Aside0 (Kd.N k69 69 w' w.heap.size ok1 v5 ys) ∧ Aside0 (w'.heap[w.heap.size]? = some (.cells #[.string x.f0, .slice Ax x.f1.length cx] 69 (0, 0))) ∧ Aside0 (Below w.heap.size w w'))
  case atStart => exact ⟨0, [], false, rfl, rfl, by simp, Nat.zero_le _, ⟨by simp⟩, ⟨rfl⟩, ⟨Kd.N_nil _ _ _ _ _⟩, K0, B0⟩
  case round =>
    obtain ⟨i, ys, p, rfl, rfl, hp, hi, HY, HM, HN, HK, HB⟩ := hrel
    clear K0 B0
    have hyl : ys.length ≤ l.length + 1 := by
      rw [HY.out]
      split
      · rw [insS_len, List.length_take]; omega
      · rw [List.length_take]; omega
    have g0 : wr.cell? ⟨w.heap.size, 0, none⟩ = some (.string x.f0) := (blk_cell HK.out 0).trans rfl
    have g1 : wr.cell? ⟨w.heap.size, 1, none⟩ = some (.slice Ax x.f1.length cx) := (blk_cell HK.out 1).trans rfl
    have hgb : w.heap.size < wr.heap.size := blk_lt HK.out
    have HP := Aside0.mk hp
    clear hp
    by_cases hlt : i < l.length
    · have hci : (i : Int) < (l.length : Int) := by omega
      obtain ⟨ad, A1, c1, eA, hx0', hx1', hl1', hF1'⟩ := oneF hF.out i hlt
      cases eA
      have hx0 := hp_cell (Nat.le_refl _) HB.out hx0'
      have hx1 := hp_cell (Nat.le_refl _) HB.out hx1'
      have HX0 := Aside0.mk hx0'
      have HX1 := Aside0.mk hx1'
      have hF1 := Aside0.mk hF1'
      have hl1 := Aside0.mk hl1'
      have hy : l.take (i + 1) = l.take i ++ [l.getD i z69] := by
        rw [List.take_add_one, List.getElem?_eq_getElem hlt, List.getD_eq_getElem?_getD, List.getElem?_eq_getElem hlt]
        rfl
      clear hx0' hx1' hF1' hl1'
      generalize l.getD i z69 = y at hx0 hx1 HX0 HX1 hF1 hl1 hy
      have HT := Aside0.mk hy
      clear hy
      cases p with
      | true =>
        go_wp2_with fail
        go_quiet (fail)
        have q0 : (wr.drewN nq).cell? _ = _ := g0
        have q1 : (wr.drewN nq).cell? _ = _ := g1
        have q2 : (wr.drewN nq).cell? _ = _ := hx0
        have q3 : (wr.drewN nq).cell? _ = _ := hx1
        have HN1 := Aside0.mk (Kd.N_drewN HN.out nq)
        have HB1 := Aside0.mk (pw_below_drewN HB.out nq)
        have HK1 := Aside0.mk (blk_drewN HK.out nq)
        generalize wr.drewN nq = W1 at q0 q1 q2 q3 HN1 HB1 HK1 ⊢
        have hgb1 := blk_lt HK1.out
        clear g0 g1 hx0 hx1
        go_wp2_with (first | ((with_reducible refine gate_builtin (b := .append) (xs := #[.tmp 30, .tmp 35]) rfl ?_); at_builtin; refine Kd.N_append k69 (w0 := w) w.heap.size rfl (.tmp 30) (.tmp 35) 64 69 (.agg #[(.string ⟨#[]⟩), (.slice none 0 0)]) 40 rfl Try.underlying64 info69 rfl (by decide) (by omega) _ ys y [.string y.f0, .slice A1 y.f1.length c1] ok1 (fun k => ok1 k ∧ some k ≠ _) rfl rfl ?aP (fun _ hk => hk) ?aF ?aO ?aB ?aS ?aL ?_; (case aP => exact (k69_mkF _ _ y hl1.out (Kd.F_elder' hF1.out (Kd.N_base HN1.out) HB1.out))); (case aB => exact HB1.out); (case aF => exact (fun k hk => HX.out.1 k (Nat.lt_of_lt_of_le hgb1 hk))); (case aO => exact HN1.out); (case aS => exact (HB1.out).size); (case aL => (try simp only [List.length_append, List.length_cons, List.length_nil]); omega); intro v8 w8 ho hb hg hat; have HN8 := Aside0.mk ho; have HB8 := Aside0.mk hb; have HK8 := Aside0.mk (blk_grown HK1.out hg (Kd.N_away HN1.out (fun k hk => HX.out.2 k hk))); have hgb8 := blk_lt HK8.out; clear ho hb hg hat) | fail)
        go_roundg (l.length - (i + 1))
        case measure => have := HM.out; omega
        case rel => exact ⟨i + 1, (ys ++ [y]), true, rfl, by go_num, by rw [HT.out, List.any_append, ← HP.out]; rfl, by omega, ⟨by have e := HY.out; simp only [if_true] at e; rw [e]; show _ = insS x (l.take (i + 1)); rw [HT.out, insS_snoc, if_pos HP.out.symm]⟩, ⟨by omega⟩, HN8, HK8, HB8⟩
      | false =>
        by_cases hlt2 : ltS x y = true
        · have hb2 : (Op.bytesLess y.f0.toList x.f0.toList || y.f0.toList == x.f0.toList) = false := by unfold ltS at hlt2; simpa using hlt2
          go_wp2_with fail
          go_quiet (fail)
          have q0 : (wr.drewN nq).cell? _ = _ := g0
          have q1 : (wr.drewN nq).cell? _ = _ := g1
          have q2 : (wr.drewN nq).cell? _ = _ := hx0
          have q3 : (wr.drewN nq).cell? _ = _ := hx1
          have HN1 := Aside0.mk (Kd.N_drewN HN.out nq)
          have HB1 := Aside0.mk (pw_below_drewN HB.out nq)
          have HK1 := Aside0.mk (blk_drewN HK.out nq)
          generalize wr.drewN nq = W1 at q0 q1 q2 q3 HN1 HB1 HK1 ⊢
          have hgb1 := blk_lt HK1.out
          clear g0 g1 hx0 hx1
          go_wp2_with (first | (first | ((with_reducible refine gate_builtin (b := .append) (xs := #[.tmp 26, .tmp 28]) rfl ?_); at_builtin; refine Kd.N_append k69 (w0 := w) w.heap.size rfl (.tmp 26) (.tmp 28) 64 69 (.agg #[(.string ⟨#[]⟩), (.slice none 0 0)]) 40 rfl Try.underlying64 info69 rfl (by decide) (by omega) _ ys x [.string x.f0, .slice Ax x.f1.length cx] ok1 (fun k => ok1 k ∧ some k ≠ _) rfl rfl ?aP (fun _ hk => hk) ?aF ?aO ?aB ?aS ?aL ?_; (case aP => exact (k69_mkF _ _ x hx (Kd.F_elder' hX.out (Kd.N_base HN1.out) HB1.out))); (case aB => exact HB1.out); (case aF => exact (fun k hk => HX.out.1 k (Nat.lt_of_lt_of_le hgb1 hk))); (case aO => exact HN1.out); (case aS => exact (HB1.out).size); (case aL => (try simp only [List.length_append, List.length_cons, List.length_nil]); omega); intro v7 w7 ho hb hg hat; have HN7 := Aside0.mk ho; have HB7 := Aside0.mk hb; have HK7 := Aside0.mk (blk_grown HK1.out hg (Kd.N_away HN1.out (fun k hk => HX.out.2 k hk))); have hgb7 := blk_lt HK7.out; have q4 := hp_cell (Nat.le_refl _) HB7.out HX0.out; have q5 := hp_cell (Nat.le_refl _) HB7.out HX1.out; clear ho hb hg hat) | ((with_reducible refine gate_builtin (b := .append) (xs := #[.tmp 30, .tmp 35]) rfl ?_); at_builtin; refine Kd.N_append k69 (w0 := w) w.heap.size rfl (.tmp 30) (.tmp 35) 64 69 (.agg #[(.string ⟨#[]⟩), (.slice none 0 0)]) 40 rfl Try.underlying64 info69 rfl (by decide) (by omega) _ (ys ++ [x]) y [.string y.f0, .slice A1 y.f1.length c1] ok1 (fun k => ok1 k ∧ some k ≠ _) rfl rfl ?aP (fun _ hk => hk) ?aF ?aO ?aB ?aS ?aL ?_; (case aP => exact (k69_mkF _ _ y hl1.out (Kd.F_elder' hF1.out (Kd.N_base HN7.out) HB7.out))); (case aB => exact HB7.out); (case aF => exact (fun k hk => HX.out.1 k (Nat.lt_of_lt_of_le hgb7 hk))); (case aO => exact HN7.out); (case aS => exact (HB7.out).size); (case aL => (try simp only [List.length_append, List.length_cons, List.length_nil]); omega); intro v8 w8 ho hb hg hat; have HN8 := Aside0.mk ho; have HB8 := Aside0.mk hb; have HK8 := Aside0.mk (blk_grown HK7.out hg (Kd.N_away HN7.out (fun k hk => HX.out.2 k hk))); have hgb8 := blk_lt HK8.out; clear ho hb hg hat)) | fail)
          go_roundg (l.length - (i + 1))
          case measure => have := HM.out; omega
          case rel => exact ⟨i + 1, ((ys ++ [x]) ++ [y]), true, rfl, by go_num, by rw [HT.out, List.any_append, ← HP.out]; simp [hlt2], by omega, ⟨by have e := HY.out; simp only [Bool.false_eq_true, if_false] at e; rw [e]; show _ = insS x (l.take (i + 1)); rw [HT.out, insS_snoc, if_neg (by rw [← HP.out]; decide), if_pos hlt2]⟩, ⟨by omega⟩, HN8, HK8, HB8⟩
        · have hb2 : (Op.bytesLess y.f0.toList x.f0.toList || y.f0.toList == x.f0.toList) = true := by
            unfold ltS at hlt2
            cases h : (Op.bytesLess y.f0.toList x.f0.toList || y.f0.toList == x.f0.toList)
            · rw [h] at hlt2; exact absurd rfl hlt2
            · rfl
          go_wp2_with fail
          go_quiet (fail)
          have q0 : (wr.drewN nq).cell? _ = _ := g0
          have q1 : (wr.drewN nq).cell? _ = _ := g1
          have q2 : (wr.drewN nq).cell? _ = _ := hx0
          have q3 : (wr.drewN nq).cell? _ = _ := hx1
          have HN1 := Aside0.mk (Kd.N_drewN HN.out nq)
          have HB1 := Aside0.mk (pw_below_drewN HB.out nq)
          have HK1 := Aside0.mk (blk_drewN HK.out nq)
          generalize wr.drewN nq = W1 at q0 q1 q2 q3 HN1 HB1 HK1 ⊢
          have hgb1 := blk_lt HK1.out
          clear g0 g1 hx0 hx1
          go_wp2_with (first | ((with_reducible refine gate_builtin (b := .append) (xs := #[.tmp 30, .tmp 35]) rfl ?_); at_builtin; refine Kd.N_append k69 (w0 := w) w.heap.size rfl (.tmp 30) (.tmp 35) 64 69 (.agg #[(.string ⟨#[]⟩), (.slice none 0 0)]) 40 rfl Try.underlying64 info69 rfl (by decide) (by omega) _ ys y [.string y.f0, .slice A1 y.f1.length c1] ok1 (fun k => ok1 k ∧ some k ≠ _) rfl rfl ?aP (fun _ hk => hk) ?aF ?aO ?aB ?aS ?aL ?_; (case aP => exact (k69_mkF _ _ y hl1.out (Kd.F_elder' hF1.out (Kd.N_base HN1.out) HB1.out))); (case aB => exact HB1.out); (case aF => exact (fun k hk => HX.out.1 k (Nat.lt_of_lt_of_le hgb1 hk))); (case aO => exact HN1.out); (case aS => exact (HB1.out).size); (case aL => (try simp only [List.length_append, List.length_cons, List.length_nil]); omega); intro v8 w8 ho hb hg hat; have HN8 := Aside0.mk ho; have HB8 := Aside0.mk hb; have HK8 := Aside0.mk (blk_grown HK1.out hg (Kd.N_away HN1.out (fun k hk => HX.out.2 k hk))); have hgb8 := blk_lt HK8.out; clear ho hb hg hat) | fail)
          go_roundg (l.length - (i + 1))
          case measure => have := HM.out; omega
          case rel => exact ⟨i + 1, (ys ++ [y]), false, rfl, by go_num, by rw [HT.out, List.any_append, ← HP.out]; simp [hlt2], by omega, ⟨by have e := HY.out; simp only [Bool.false_eq_true, if_false] at e; rw [e]; show _ = l.take (i + 1); rw [HT.out]⟩, ⟨by omega⟩, HN8, HK8, HB8⟩
    · have hil : i = l.length := by omega
      subst hil
      rw [List.take_length] at HP
      rw [List.take_length] at HY
      cases p with
      | true =>
        go_wp2_with fail
        go_ret
        exact ⟨_, rfl, by rw [show insS x l = ys from HY.out.symm]; exact Kd.N_mono HN.out hP, HB.out⟩
      | false =>
        go_wp2_with (first | ((with_reducible refine gate_builtin (b := .append) (xs := #[.tmp 39, .tmp 41]) rfl ?_); at_builtin; refine Kd.N_append k69 (w0 := w) w.heap.size rfl (.tmp 39) (.tmp 41) 64 69 (.agg #[(.string ⟨#[]⟩), (.slice none 0 0)]) 40 rfl Try.underlying64 info69 rfl (by decide) (by omega) _ ys x [.string x.f0, .slice Ax x.f1.length cx] ok1 (fun k => ok1 k ∧ some k ≠ _) rfl rfl ?aP (fun _ hk => hk) ?aF ?aO ?aB ?aS ?aL ?_; (case aP => exact (k69_mkF _ _ x hx (Kd.F_elder' hX.out (Kd.N_base HN.out) HB.out))); (case aB => exact HB.out); (case aF => exact (fun k hk => HX.out.1 k (Nat.lt_of_lt_of_le hgb hk))); (case aO => exact HN.out); (case aS => exact (HB.out).size); (case aL => (try simp only [List.length_append, List.length_cons, List.length_nil]); omega); intro v8 w8 ho hb hg hat; have HN8 := Aside0.mk ho; have HB8 := Aside0.mk hb; have HK8 := Aside0.mk (blk_grown HK.out hg (Kd.N_away HN.out (fun k hk => HX.out.2 k hk))); have hgb8 := blk_lt HK8.out; clear ho hb hg hat) | fail)
        go_ret
        exact ⟨_, rfl, by rw [insS_none x l HP.out.symm]; rw [show l = ys from HY.out.symm] at *; exact Kd.N_mono HN8.out hP, HB8.out⟩
end Go.Proofs.Ytahiadghodhkhaa.Bl
