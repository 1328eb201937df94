import Derived.Test.YtahiadghodhkhaaGRf1
namespace Go.Proofs.Ytahiadghodhkhaa.Bl
open Go.RowKit Go.Maps Go.Proofs.YtahiadghodhkhaaW.PrintWords Go.Proofs.YtahiadghodhkhaaW.PrintLast Go.Proofs.YtahiadghodhkhaaW.PrintMore Go.Proofs.Ytahiadghodhkhaa.PB
set_option linter.unusedVariables false
set_option linter.unusedSimpArgs false
structure Rf (S : List Nat) (w : World) (x : Nat) (q : Int) (L : List Ent) : Prop where
  ex : ∃ A c, w.heap[x]? = some (.cells #[.int .i64 q, .slice A (refL L).length c] 66 (0, 0)) ∧ (refL L).length ≤ c ∧ Kd.F k69 w (fun k => k ∉ S) A (refL L).length (refL L)
  mem : x ∈ S
  lt : ∀ s ∈ S, s < w.heap.size
theorem Rf.start {S : List Nat} {w : World} {x : Nat} {q : Int} {A : Option Addr} {c : Nat} (h : w.heap[x]? = some (.cells #[.int .i64 q, .slice A 0 c] 66 (0, 0))) (hx : x ∈ S) (hS : ∀ s ∈ S, s < w.heap.size) : Rf S w x q [] :=
  ⟨⟨A, c, h, Nat.zero_le _, fun W' _ => ⟨rfl, Nat.zero_le _, fun h0 => absurd h0 (Nat.lt_irrefl 0)⟩⟩, hx, hS⟩
theorem Rf.xlt {S : List Nat} {w : World} {x : Nat} {q : Int} {L : List Ent} (h : Rf S w x q L) : x < w.heap.size := h.lt x h.mem
theorem Rf.kept {S : List Nat} {w w' : World} {x : Nat} {q : Int} {L : List Ent} (h : Rf S w x q L) (hb : Below w.heap.size w w') : Rf S w' x q L := by
  obtain ⟨A, c, h1, h2, h3⟩ := h.ex
  exact ⟨⟨A, c, blk_below h1 hb, h2, Kd.F_below h3 hb⟩, h.mem, fun s hs => Nat.lt_of_lt_of_le (h.lt s hs) hb.size⟩
theorem Rf.grown {S : List Nat} {w w' : World} {x b : Nat} {q : Int} {L : List Ent} (h : Rf S w x q L) (hg : w.grownBy w' (some b)) (hb : b ∈ S) (hne : x ≠ b) : Rf S w' x q L := by
  obtain ⟨A, c, h1, h2, h3⟩ := h.ex
  exact ⟨⟨A, c, blk_grown h1 hg (by simpa using hne), h2, Kd.F_grown h3 hg (fun k hk e => hk (by injection e with e; rw [e]; exact hb))⟩, h.mem, fun s hs => Nat.lt_of_lt_of_le (h.lt s hs) hg.size⟩
theorem Rf.wider {S S2 : List Nat} {w : World} {x : Nat} {q : Int} {L : List Ent} (h : Rf S w x q L) {n : Nat} (hn : ∀ s ∈ S2, n ≤ s ∨ s ∈ S) (hx : x ∈ S2) (hS : ∀ s ∈ S2, s < w.heap.size) {w0 : World} (h0 : Rf S w0 x q L) (hb : Below w0.heap.size w0 w) (hnn : n = w0.heap.size) : Rf S2 w x q L := by
  obtain ⟨A, c, h1, h2, h3⟩ := h0.ex
  refine ⟨⟨A, c, blk_below h1 hb, h2, Kd.F_mono (Kd.F_old h3 hb) (fun k hk hk2 => ?_)⟩, hx, hS⟩
  rcases hn k hk2 with h | h
  · have := hk.2; omega
  · exact hk.1 h
theorem Bl.farX {w w' : World} {g b x : Nat} {q : Int} {L : List Ent} (h : Bl w g b q L) {cs : Array Value} (hx : w.heap[x]? = some (.cells cs 66 (0, 0))) (hg : w.grownBy w' (some x)) : Bl w' g b q L := by
  have hgx : g ≠ x := by
    rintro rfl
    have := h.blk
    rw [hx] at this
    injection this with this
    injection this with _ this
    exact absurd this (by decide)
  have hbx : b ≠ x := by
    obtain ⟨es, cl, hb⟩ := own_blk h.map
    rintro rfl
    rw [hx] at hb
    cases hb
  have hh : ∀ (j : Nat) (cells : Array Value), w.heap[j]? = some (.cells cells 5 (0, 0)) → w'.heap[j]? = w.heap[j]? := fun j cells hj =>
    hg.block j (blk_lt hj) (fun e => by
      injection e with e
      rw [e, hx] at hj
      injection hj with hj
      injection hj with _ hj
      exact absurd hj (by decide))
  exact ⟨(hg.block g h.lt.1 (fun e => hgx (by injection e))).trans h.blk, h.map.kept hg (by simpa using hbx), h.apart, fun y hy => by
    obtain ⟨A, c, e, hc, hC, hT⟩ := h.ent y hy
    exact ⟨A, c, e, hc, C_keep hC hT hh, hT.keep hh⟩, h.small⟩
theorem refL_get (L : List Ent) (i : Nat) (hi : i < L.length) : (refL L).getD i z69 = ⟨(L[i]).1, (L[i]).2.2⟩ := by
  unfold refL
  rw [List.getD_eq_getElem?_getD, List.getElem?_map, List.getElem?_eq_getElem hi]
  rfl
theorem sum_app (L M : List Ent) : sumE (L ++ M) = sumE L + sumE M := by
  unfold sumE
  rw [List.map_append, List.sum_append]
theorem take_snoc {α : Type} (L : List α) (i : Nat) (hi : i < L.length) : L.take (i + 1) = L.take i ++ [L[i]] := by
  rw [List.take_add_one, List.getElem?_eq_getElem hi]
  rfl
theorem sum_take (L : List Ent) (i : Nat) (hi : i < L.length) : sumE (L.take (i + 1)) = sumE (L.take i) + ((L[i]).1.size + (L[i]).2.2.length) := by
  rw [take_snoc L i hi, sum_app, sumE_cons]
  rfl
theorem sum_take_le (L : List Ent) (i : Nat) : sumE (L.take i) ≤ sumE L := by
  have h : sumE L = sumE (L.take i) + sumE (L.drop i) := by rw [← sum_app, List.take_append_drop]
  omega
set_option maxRecDepth 20000 in
set_option maxHeartbeats 4000000 in
theorem RSize_calls (S : List Nat) (x : Nat) (q : Int) (L : List Ent) (w : World) (h : Rf S w x q L) (hl : L.length ≤ 100000) (hq : sumE L ≤ 100000000000) :
    Calls Try.prog 18 #[.pointer (some ⟨x, 0, none⟩)] w fun e w' => e = .returned (.int .i64 (sumE L)) ∧ Below w.heap.size w w' := by
  obtain ⟨A, c, hb0, hc0, hF0⟩ := h.ex
  have HF := Aside0.mk hF0
  have HC0 := Aside0.mk hc0
  have hn : (refL L).length = L.length := refL_len L
  have HK0 := Aside0.mk hb0
  clear hb0 hF0 hc0 h
  go_enter Try.func18, Try.ntmps18
  go_wp2_with fail
  go_loopg [3, 4] L.length (fun kq v3 v4 w' => ∃ (i : Nat), v3 = .int .i64 ((sumE (L.take i) : Nat) : Int) ∧ v4 = .int .i64 i ∧ i ≤ L.length ∧ Aside0 (kq + i = L.length) ∧ Aside0 (Below w.heap.size w w'))
  case atStart => exact ⟨0, by simp [sumE], rfl, Nat.zero_le _, ⟨rfl⟩, ⟨Below.refl _ _⟩⟩
  case round =>
    obtain ⟨i, rfl, rfl, hi, HM, HB⟩ := hrel
    have g1 : wr.cell? ⟨x, 1, none⟩ = some (.slice A (refL L).length c) := (blk_cell (blk_below HK0.out HB.out) 1).trans rfl
    rw [hn] at g1
    by_cases hlt : i < L.length
    · have hci : (i : Int) < (L.length : Int) := by omega
      obtain ⟨ad, A1, c1, eA, hx0', hx1', hl1', hF1'⟩ := oneF (Kd.F_below HF.out HB.out) i (by rw [refL_len]; exact hlt)
      obtain rfl := eA
      rw [refL_get L i hlt] at hx0' hx1' hl1' hF1'
      have HST := Aside0.mk (sum_take L i hlt)
      have hsl1 := Nat.le_trans (sum_take_le L (i + 1)) hq
      rw [sum_take L i hlt] at hsl1
      generalize sumE (L.take i) = s0 at HST hsl1 ⊢
      generalize (L[i]).2.2 = t1 at *
      generalize (L[i]).1 = k1 at *
      have HL1 := Aside0.mk hl1'
      clear hF1' hl1'
      have z1 : wrap64 ((k1.size : Int) + (t1.length : Int)) = (k1.size : Int) + (t1.length : Int) := by unfold wrap64; omega
      have z2 : wrap64 ((s0 : Int) + ((k1.size : Int) + (t1.length : Int))) = (s0 : Int) + ((k1.size : Int) + (t1.length : Int)) := by unfold wrap64; omega
      have z3 : IntKind.i64.wrap ((k1.size : Int) + (t1.length : Int)) = (k1.size : Int) + (t1.length : Int) := IntWalk.i64_in (n := _) (by omega)
      have z4 : IntKind.i64.wrap ((s0 : Int) + ((k1.size : Int) + (t1.length : Int))) = (s0 : Int) + ((k1.size : Int) + (t1.length : Int)) := IntWalk.i64_in (n := _) (by omega)
      have Z := Aside0.mk (And.intro z1 z2)
      clear z1 z2
      go_wp2_with fail
      go_quiet (fail)
      have HB1 := Aside0.mk (pw_below_drewN HB.out nq)
      generalize wr.drewN nq = W1 at HB1 ⊢
      go_wp2_with fail
      go_roundg (L.length - (i + 1))
      case measure => have := HM.out; omega
      case rel => exact ⟨i + 1, by rw [HST.out]; push_cast; rfl, by go_num, by omega, ⟨by omega⟩, HB1⟩
    · have hil : i = L.length := by omega
      subst hil
      go_wp2_with fail
      go_ret
      refine ⟨?_, HB.out⟩
      rw [List.take_length]
      rfl
theorem find_none_take {k : ByteArray} {L : List Ent} {i : Nat} (h : findE k (L.take i) = none) (hi : i < L.length) (hk : L[i].1 = k) : findE k L = some L[i] := by
  have e : findE k L = findE k (L.take i ++ L.drop i) := by rw [List.take_append_drop]
  rw [e]
  unfold findE at h ⊢
  rw [List.find?_append, h, List.drop_eq_getElem_cons hi, List.find?_cons]
  simp [hk]
theorem find_none_snoc {k : ByteArray} {L : List Ent} {i : Nat} (h : findE k (L.take i) = none) (hi : i < L.length) (hk : L[i].1 ≠ k) : findE k (L.take (i + 1)) = none := by
  unfold findE at h ⊢
  rw [take_snoc L i hi, List.find?_append, h]
  simp [hk]
theorem toList_inj' {a b : ByteArray} (h : a.toList = b.toList) : a = b := by
  rw [ByteArray.toList_eq, ByteArray.toList_eq] at h
  cases a; cases b
  congr 1
  exact Array.toList_inj.1 h
set_option maxRecDepth 20000 in
set_option maxHeartbeats 4000000 in
theorem RHas_calls (S : List Nat) (x : Nat) (q : Int) (L : List Ent) (name : ByteArray) (w : World) (h : Rf S w x q L) (hl : L.length ≤ 100000) :
    Calls Try.prog 27 #[.pointer (some ⟨x, 0, none⟩), .string name] w fun e w' => ∃ v, e = .returned (.tuple #[v, .bool (findE name L).isSome]) ∧ (∃ A c, v = .slice A (((findE name L).map (·.2.2)).getD []).length c ∧ (((findE name L).map (·.2.2)).getD []).length ≤ c ∧ Kd.F (Kd.int .u8) w' (fun k => k ∉ S) A (((findE name L).map (·.2.2)).getD []).length (((findE name L).map (·.2.2)).getD [])) ∧ Below w.heap.size w w' := by
  obtain ⟨A, c, hb0, hc0, hF0⟩ := h.ex
  have HF := Aside0.mk hF0
  have HC0 := Aside0.mk hc0
  have hn : (refL L).length = L.length := refL_len L
  have HK0 := Aside0.mk hb0
  clear hb0 hF0 hc0 h
  go_enter Try.func27, Try.ntmps27
  go_wp2_with fail
  go_loopg [6] L.length (fun kq v6 w' => ∃ (i : Nat), v6 = .int .i64 i ∧ i ≤ L.length ∧ Aside0 (kq + i = L.length) ∧ Aside0 (findE name (L.take i) = none) ∧ Aside0 (Below w.heap.size w w'))
  case atStart => exact ⟨0, rfl, Nat.zero_le _, ⟨rfl⟩, ⟨rfl⟩, ⟨Below.refl _ _⟩⟩
  case round =>
    obtain ⟨i, rfl, hi, HM, HFN, HB⟩ := hrel
    have g1 : wr.cell? ⟨x, 1, none⟩ = some (.slice A (refL L).length c) := (blk_cell (blk_below HK0.out HB.out) 1).trans rfl
    rw [hn] at g1
    by_cases hlt : i < L.length
    · have hci : (i : Int) < (L.length : Int) := by omega
      obtain ⟨ad, A1, c1, eA, hx0', hx1', hl1', hF1'⟩ := oneF (Kd.F_below HF.out HB.out) i (by rw [refL_len]; exact hlt)
      obtain rfl := eA
      rw [refL_get L i hlt] at hx0' hx1' hl1' hF1'
      have HF1 := Aside0.mk hF1'
      have HL1 := Aside0.mk hl1'
      clear hF1' hl1'
      by_cases hk : (L[i]).1 = name
      · have HFD := Aside0.mk (find_none_take HFN.out hlt hk)
        generalize L[i] = y at *
        subst hk
        go_wp2_with fail
        go_ret2
        refine ⟨_, by rw [HFD.out]; rfl, ?_⟩
        rw [HFD.out]
        exact ⟨⟨_, _, rfl, HL1.out, HF1.out⟩, HB.out⟩
      · have hfd := Aside0.mk (find_none_snoc HFN.out hlt hk)
        generalize L[i] = y at *
        obtain ⟨k1, v1, t1⟩ := y
        simp only at hk hx0' hx1'
        have hkt2 : (k1.toList == name.toList) = false := beq_eq_false_iff_ne.2 fun e => hk (toList_inj' e)
        go_wp2_with fail
        go_roundg (L.length - (i + 1))
        case measure => have := HM.out; omega
        case rel => exact ⟨i + 1, by go_num, by omega, ⟨by omega⟩, hfd, HB⟩
    · have hil : i = L.length := by omega
      subst hil
      have hf := HFN.out
      rw [List.take_length] at hf
      have HFE := Aside0.mk hf
      clear hf
      go_wp2_with fail
      go_ret2
      refine ⟨_, by rw [HFE.out]; rfl, ?_⟩
      rw [HFE.out]
      exact ⟨⟨none, 0, rfl, Nat.le_refl _, Kd.F_nil _ _ _⟩, HB.out⟩
set_option maxRecDepth 20000 in
set_option maxHeartbeats 4000000 in
theorem RNames_calls (S : List Nat) (x : Nat) (q : Int) (L : List Ent) (w : World) (h : Rf S w x q L) (hl : L.length ≤ 100000) :
    Calls Try.prog 21 #[.pointer (some ⟨x, 0, none⟩)] w fun e w' => ∃ v, e = .returned v ∧ Kd.string.R 9 w' w.heap.size (fun _ => True) v (L.map (·.1)) ∧ Below w.heap.size w w' := by
  obtain ⟨A, c, hb0, hc0, hF0⟩ := h.ex
  have HF := Aside0.mk hF0
  have HC0 := Aside0.mk hc0
  have hn : (refL L).length = L.length := refL_len L
  have HK0 := Aside0.mk hb0
  clear hb0 hF0 hc0 h
  go_enter Try.func21, Try.ntmps21
  go_wp2_with fail
  go_loopg [3, 4] L.length (fun kq v3 v4 w' => ∃ (i : Nat), v4 = .int .i64 i ∧ i ≤ L.length ∧ Aside0 (kq + i = L.length) ∧ Aside0 (Kd.string.R 9 w' w.heap.size (fun _ => True) v3 ((L.take i).map (·.1))) ∧ Aside0 (Below w.heap.size w w'))
  case atStart => exact ⟨0, rfl, Nat.zero_le _, ⟨rfl⟩, ⟨Kd.R_nil _ _ _ _ _⟩, ⟨Below.refl _ _⟩⟩
  case round =>
    obtain ⟨i, rfl, hi, HM, HO, HB⟩ := hrel
    have g1 : wr.cell? ⟨x, 1, none⟩ = some (.slice A (refL L).length c) := (blk_cell (blk_below HK0.out HB.out) 1).trans rfl
    rw [hn] at g1
    by_cases hlt : i < L.length
    · have hci : (i : Int) < (L.length : Int) := by omega
      obtain ⟨ad, A1, c1, eA, hx0', hx1', hl1', hF1'⟩ := oneF (Kd.F_below HF.out HB.out) i (by rw [refL_len]; exact hlt)
      obtain rfl := eA
      rw [refL_get L i hlt] at hx0' hx1' hl1' hF1'
      clear hF1' hl1' hx1'
      go_wp2_with (first | ((with_reducible refine gate_builtin (b := .append) (xs := #[.tmp 14, .tmp 23]) rfl ?_); at_builtin; refine Kd.R_append Kd.string (w0 := w) w.heap.size rfl (.tmp 14) (.tmp 23) 30 9 (.string ⟨#[]⟩) 16 rfl Try.underlying30 info9 rfl (by decide) (by omega) _ ((L.take i).map (·.1)) ((L[i]).1) [.string ((L[i]).1)] (fun _ => True) (fun _ => False) rfl rfl ?aP (fun _ hk => hk.elim) ?aF ?aO ?aB ?aS ?aL ?_; (case aP => exact rfl); (case aF => exact (fun _ _ => trivial)); (case aO => exact HO.out); (case aB => exact HB.out); (case aS => exact HB.out.size); (case aL => (simp only [List.length_map, List.length_take]); omega); intro v8 w8 ho hb hg hat; have HO8 := Aside0.mk ho; have HB8 := Aside0.mk hb; clear ho hb hg hat) | fail)
      go_roundg (L.length - (i + 1))
      case measure => have := HM.out; omega
      case rel => exact ⟨i + 1, by go_num, by omega, ⟨by omega⟩, ⟨by rw [take_snoc L i hlt, List.map_append]; exact HO8.out⟩, HB8⟩
    · have hil : i = L.length := by omega
      subst hil
      have ho := HO.out
      rw [List.take_length] at ho
      have HO2 := Aside0.mk ho
      clear ho
      go_wp2_with fail
      go_ret
      exact ⟨_, rfl, HO2.out, HB.out⟩
set_option maxRecDepth 20000 in
theorem RNew_calls (q : Int) (w : World) :
    Calls Try.prog 15 #[.int .i64 q] w fun e w' => ∃ x, e = .returned (.pointer (some ⟨x, 0, none⟩)) ∧ w.heap.size ≤ x ∧ (∃ A c, w'.heap[x]? = some (.cells #[.int .i64 (if q < 0 then 0 else q), .slice A 0 c] 66 (0, 0))) ∧ Below w.heap.size w w' := by
  have hf : scriniumref19_New.f q = some ((if q < 0 then 0 else q), []) := by
    unfold scriniumref19_New.f
    split <;> rfl
  refine (scriniumref19_New.calls q _ _ w w (Below.refl _ _) hf).mono ?_
  rintro e w' ⟨x, rfl, hI, _, hb⟩
  obtain ⟨A, c, h1, h2, _⟩ := hI
  exact ⟨x, rfl, h2.1, ⟨A, c, h1⟩, hb⟩
end Go.Proofs.Ytahiadghodhkhaa.Bl
