import Derived.Test.YtkabjbkefoipnaaDoorGMj
import Derived.Test.YtkabjbkefoipnaaDoorGOpenM
namespace Go.Proofs.YtkabjbkefoipnaaDoor.Md
open Go.Lib Go.RowKit Go.Proofs.YtkabjbkefoipnaaDoorW.PrintWords Go.Proofs.YtkabjbkefoipnaaDoorW.PrintLast Go.Proofs.YtkabjbkefoipnaaDoorW.PrintMore Go.Proofs.YtkabjbkefoipnaaDoor.PM Go.Proofs.YtkabjbkefoipnaaDoor.Nm
set_option linter.unusedVariables false
set_option linter.unusedSimpArgs false
section
variable {l : List Sc} {name : ByteArray} {num : Int} {i : Nat} {t : Bool}
theorem gone_there (h : OkP l name ⟨num, true, []⟩ i t) : t = true ∧ 1 ≤ (wasV l i t).length ∧ (lastV (wasV l i t)).f1 = false := by
  have hg := h.gone rfl
  cases t with
  | true => exact ⟨rfl, (was_vers h.R h.fnd).2.2 rfl, hg⟩
  | false => rw [was_not] at hg; simp [lastV, gone0] at hg
theorem gone_again (h : OkP l name ⟨num, true, []⟩ i t) {r : List Sc} {z : Int} (k : WithP (moreL l name ⟨num, true, []⟩ i t) name ⟨num + 1, true, []⟩ r z) : z = 6 ∨ num = 200 := by
  have hv : (⟨num, true, []⟩ : Kn).f1 = true → (⟨num, true, []⟩ : Kn).f2 = [] := fun _ => rfl
  have hR := h.right hv
  have h1 := h.lo
  have h2 := h.hi
  dsimp only at h1 h2
  have hmem := (mem_more (v := ⟨num, true, []⟩) h.R h.nm h.fnd (newS l name ⟨num, true, []⟩ i t)).2 (.inl rfl)
  have key : ∀ j u, FndP (moreL l name ⟨num, true, []⟩ i t) name j u → u = true ∧ lastV (wasV (moreL l name ⟨num, true, []⟩ i t) j u) = ⟨num, true, []⟩ := by
    intro j u hf
    obtain ⟨q, hq, he⟩ := List.getElem_of_mem hmem
    obtain ⟨hu, hqj⟩ := hf.only hR h.nm q hq (by rw [he]; exact newS_pf h.fnd)
    subst hu hqj
    refine ⟨rfl, ?_⟩
    rw [was_there hq, he, newS_vers]
    exact (h.cut hv).2.2.2
  cases k with
  | name h' => rw [h.nm] at h'; cases h'
  | arg _ h' =>
    right
    by_cases h3 : num = 200
    · exact h3
    · exact absurd ⟨hR, by dsimp only; omega, by dsimp only; omega⟩ h'
  | old j u _ _ _ _ hf h' => rw [(key j u hf).2] at h'; dsimp only at h'; omega
  | long j u _ _ _ _ hf _ h' => simp at h'
  | none j u _ _ _ _ hf _ _ _ _ => exact .inl rfl
  | full j _ _ _ _ hf _ _ _ _ => have := (key j false hf).1; cases this
  | ok j u _ _ _ _ hf _ _ h' _ => have := h' rfl; rw [(key j u hf).2] at this; cases this
theorem gone_get (h : OkP l name ⟨num, true, []⟩ i t) {vs : List Kn} {z : Int} (k : VrsP (moreL l name ⟨num, true, []⟩ i t) name vs z) : getV vs z = (kn0, 6) := by
  obtain ⟨rfl, rfl⟩ := h.told (fun _ => rfl) k
  exact getV_gone (by rw [(h.cut (fun _ => rfl)).2.2.2])
theorem gone_his (h : OkP l name ⟨num, true, []⟩ i t) {vs : List Kn} {z : Int} (k : VrsP (moreL l name ⟨num, true, []⟩ i t) name vs z) : ∃ hs : List Kn, hisV vs z = (hs, 0) ∧ 1 < hs.length ∧ hs.length ≤ 4 ∧ ∀ hp : hs.length - 1 < hs.length, hs[hs.length - 1].f1 = true := by
  obtain ⟨rfl, rfl⟩ := h.told (fun _ => rfl) k
  have hw := gone_there h
  have h4 := (was_vers h.R h.fnd).2.1
  have hc := h.cut (fun _ => rfl)
  obtain ⟨_, _, _, h5, _⟩ := cut_right (h.vers (fun _ => rfl)) (by rw [List.length_append, List.length_singleton]; omega) (by rw [List.length_append, List.length_singleton]; omega)
  have h1 : 1 < (cutV (wasV l i t ++ [⟨num, true, []⟩])).length := by
    by_cases h6 : 5 ≤ (wasV l i t ++ [(⟨num, true, []⟩ : Kn)]).length
    · have := h5 h6; omega
    · rw [cut_short (by omega), List.length_append, List.length_singleton]; omega
  refine ⟨_, rfl, by rw [List.length_map]; exact h1, by rw [List.length_map]; exact hc.2.2.1, fun hp => ?_⟩
  rw [List.getElem_map]
  have h7 := lastV_get (l := cutV (wasV l i t ++ [⟨num, true, []⟩])) (by omega)
  rw [hc.2.2.2] at h7
  have h8 : ∀ (q : Nat) (hq : q < (cutV (wasV l i t ++ [(⟨num, true, []⟩ : Kn)])).length), q = (cutV (wasV l i t ++ [(⟨num, true, []⟩ : Kn)])).length - 1 → (bare (cutV (wasV l i t ++ [(⟨num, true, []⟩ : Kn)]))[q]).f1 = true := by
    rintro q hq rfl
    rw [← h7]
    rfl
  exact h8 _ _ (by rw [List.length_map])
theorem gone_list (h : OkP l name ⟨num, true, []⟩ i t) : (listV (moreL l name ⟨num, true, []⟩ i t)).length + 1 = (listV l).length := by
  obtain ⟨rfl, h1, h2⟩ := gone_there h
  obtain ⟨hi, _⟩ := h.fnd.yes rfl
  rw [was_there hi] at h1 h2
  unfold listV
  rw [List.length_map, List.length_map, more_set hi]
  refine filter_set _ _ _ _ hi ?_ ?_
  · unfold liveV
    rw [h2, decide_eq_true (by omega)]
    rfl
  · unfold liveV
    rw [newS_vers, (h.cut (fun _ => rfl)).2.2.2]
    simp
end
theorem listV_le (l : List Sc) : (listV l).length ≤ l.length := by unfold listV; rw [List.length_map]; exact List.length_filter_le _ _
set_option maxRecDepth 20000 in
set_option maxHeartbeats 8000000 in
theorem ModelGone_walk (A0 : Option Addr) (len0 c0 : Nat) (l : List Sc) (w : World) (hT : Lib.Utf8Tabs 0 1 w) (hl0 : l.length = len0) (hC0 : Kd.C kS w A0 len0 l) (hc0 : len0 ≤ c0) (hm0 : len0 ≤ maxLen) (hw0 : ∀ x ∈ l, ScWf x) (name : ByteArray) (hn : name.size ≤ 140737488351232) (num : Int) (hnum : (Lit.int .i64 num).wf = true) :
    Calls Tryd.prog 6 #[.slice A0 len0 c0, .string name, .int .i64 num] w fun e w' => e = .returned (.bool true) ∧ Below w.heap.size w w' := by
  subst hl0
  have HC := Aside0.mk hC0
  have HT := Aside0.mk hT
  clear hC0 hT hw0
  go_enter Tryd.func6, Tryd.ntmps6
  go_wp2_with fail
  refine (wakes_calls w HT.out).mono ?_
  rintro e w1 ⟨rfl, hb⟩
  have B1 := Aside0.mk hb
  clear hb
  go_wp2_with fail
  obtain ⟨b, hb1, hb2⟩ := Long_is l
  refine (scriniumref22_Long.calls 400 A0 c0 l b w1 (Kd.C_below HC.out B1.out) hc0 hb1).mono ?_
  rintro e w2 ⟨rfl, hd⟩
  have B2 := Aside0.mk (B1.out.trans (hd.below.mono B1.out.size))
  have HS := Aside0.mk hb2
  clear hd hb1 hb2 B1
  cases b with
  | true =>
    go_wp2_with fail
    go_ret
    exact ⟨rfl, B2.out⟩
  | false =>
  have hS := HS.out rfl
  have HSS := Aside0.mk hS
  have HSZ := Aside0.mk hS.sized
  clear HS hS
  by_cases hn1 : (150 : Int) < (name.size : Int)
  · go_wp2_with fail
    go_ret
    exact ⟨rfl, B2.out⟩
  have hn4 : name.size ≤ 4000 := by omega
  go_wp2_with fail
  refine (MDelete_calls l name num A0 c0 w2 (Kd.C_below HC.out B2.out) hc0 HSZ.out hn4 (tabs_below HT.out B2.out)).mono ?_
  rintro e w3 ⟨he, hb⟩
  obtain ⟨r, z, A, c, rfl, hP, hRd⟩ := he.rd
  have HP := Aside0.mk hP
  have HRD := Aside0.mk hRd
  have B3 := Aside0.mk (B2.out.trans (hb.mono B2.out.size))
  clear he hb hP hRd
  by_cases hz : z = 0
  · subst hz
    obtain ⟨i, t, hok, hr⟩ := HP.out.zero
    have HOK := Aside0.mk hok
    have HSR := Aside0.mk (show Sized r by rw [hr]; exact (hok.sized (fun _ => rfl) (fun s hs => (HSS.out.at hs).name) (by omega)).sized)
    have HRR := Aside0.mk (show RightP r by rw [hr]; exact hok.right (fun _ => rfl))
    have HGET := Aside0.mk (fun vs z (k : VrsP r name vs z) => gone_get hok (hr ▸ k))
    have HHIS := Aside0.mk (fun vs z (k : VrsP r name vs z) => gone_his hok (hr ▸ k))
    have HAGN := Aside0.mk (fun q z (k : WithP r name ⟨num + 1, true, []⟩ q z) => gone_again hok (hr ▸ k))
    have HLST := Aside0.mk (show (listV r).length + 1 = (listV l).length by rw [hr]; exact gone_list hok)
    have h1 : 1 ≤ num := hok.lo
    have h2 : num ≤ 200 := hok.hi
    have HLL := Aside0.mk (show (listV l).length ≤ 30 from Nat.le_trans (listV_le l) HSS.out.len)
    clear hr hok HP
    go_wp2_with fail
    refine (Get_calls r name A c w3 HRD.out.C HRD.out.le HSR.out hn4 HRR.out (tabs_below HT.out B3.out)).mono ?_
    rintro e w4 ⟨⟨vs, z, hv, A4, c4, rfl, hc4, hC4⟩, hb⟩
    have hg := HGET.out vs z hv
    rw [hg] at hc4 hC4 ⊢
    have B4 := Aside0.mk (B3.out.trans (hb.mono B3.out.size))
    have HRD4 := Aside0.mk (HRD.out.below hb)
    clear hb hv hC4 hg HRD B3
    have OB := Aside0.mk (below_alloc (Below.refl w4.heap.size w4) (.cells #[.int .i64 kn0.f0, .bool kn0.f1, .slice A4 kn0.f2.length c4] 25))
    have hw1 : IntKind.i64.wrap (num + 1) = num + 1 := by rw [i64_w]; unfold wrap64; omega
    go_wp2_with fail
    generalize w4.alloc (.cells #[.int .i64 kn0.f0, .bool kn0.f1, .slice A4 kn0.f2.length c4] 25) = w5 at OB ⊢
    have B5 := Aside0.mk (B4.out.trans (OB.out.mono B4.out.size))
    have HRD5 := Aside0.mk (HRD4.out.below OB.out)
    clear OB B4 HRD4
    refine (MDelete_calls r name (num + 1) A c w5 HRD5.out.C HRD5.out.le HSR.out hn4 (tabs_below HT.out B5.out)).mono ?_
    rintro e w6 ⟨he, hb⟩
    obtain ⟨r2, z2, A6, c6, rfl, hP2, _⟩ := he.rd
    have HZ2 := Aside0.mk (HAGN.out r2 z2 hP2)
    have B6 := Aside0.mk (B5.out.trans (hb.mono B5.out.size))
    have HRD6 := Aside0.mk (HRD5.out.below hb)
    clear he hb hP2 B5 HRD5 hw1
    go_wp2_with fail
    refine (History_calls r name A c w6 HRD6.out.C HRD6.out.le HSR.out hn4 HRR.out (tabs_below HT.out B6.out)).mono ?_
    rintro e w7 ⟨⟨vs2, z3, A7, c7, hv2, rfl, hc7, hC7⟩, hb⟩
    obtain ⟨hs, hh1, hh2, hh3, hh4⟩ := HHIS.out vs2 z3 hv2
    rw [hh1] at hc7 hC7 ⊢
    dsimp only at hc7 hC7 ⊢
    have B7 := Aside0.mk (B6.out.trans (hb.mono B6.out.size))
    have HRD7 := Aside0.mk (HRD6.out.below hb)
    obtain ⟨ad7, A8, c8, e9, hx0, hx1, hx2, _, _⟩ := at_T25 hC7 ((hs.length : Int) - 1) (by omega) (by omega)
    cases e9
    rw [show ((hs.length : Int) - 1) = ((hs.length - 1 : Nat) : Int) by omega, rdK hs _ (by omega), hh4 (by omega), Int.toNat_natCast] at hx1
    clear hb hv2 hh1 hh4 hx0 hx2 hC7 B6 HRD6 HAGN HHIS HGET
    have hq0 : (0 : Int) ≤ (hs.length : Int) - 1 := by omega
    have hq1 : (hs.length : Int) - 1 < (hs.length : Int) := by omega
    have hq2 : (1 : Int) ≤ (hs.length : Int) := by omega
    have hq3 : (1 : Int) < (hs.length : Int) := by omega
    have hlr : (listV r).length ≤ 30 := by have := HLST.out; have := HLL.out; omega
    have hwm : IntKind.i64.wrap ((hs.length : Int) - 1) = (hs.length : Int) - 1 := by rw [i64_w]; unfold wrap64; omega
    have HWL := Aside0.mk (show IntKind.i64.wrap (((listV r).length : Int) + 1) = ((listV l).length : Int) by clear hwm; have := HLST.out; rw [i64_w]; unfold wrap64; omega)
    have hbe : ∀ (n : Int), (n == n) = true := fun n => by simp
    by_cases hz6 : z2 = 6
    · subst hz6
      go_wp2_with fail
      refine (model_List.calls 500 A c r (listV r) w7 HRD7.out.C HRD7.out.le (List_is r HSR.out)).mono ?_
      rintro e w8 ⟨v8, rfl, hv8, hb⟩
      obtain ⟨A9, c9, rfl, _, _⟩ := Kd.R_reads hv8
      have B8 := Aside0.mk (B7.out.trans (hb.mono B7.out.size))
      clear hb hv8
      have hwL := HWL.out
      go_wp2_with fail
      refine (model_List.calls 500 A0 c0 l (listV l) w8 (Kd.C_below HC.out B8.out) hc0 (List_is l HSZ.out)).mono ?_
      rintro e w9 ⟨v9, rfl, hv9, hb⟩
      obtain ⟨A10, c10, rfl, _, _⟩ := Kd.R_reads hv9
      have B9 := Aside0.mk (B8.out.trans (hb.mono B8.out.size))
      clear hb hv9
      go_wp2_with fail
      go_ret
      exact ⟨rfl, B9.out⟩
    · have hz7 : (z2 == 6) = false := by rw [beq_eq_false_iff_ne]; exact hz6
      have h200 : num = 200 := HZ2.out.resolve_left hz6
      subst h200
      go_wp2_with fail
      refine (model_List.calls 500 A c r (listV r) w7 HRD7.out.C HRD7.out.le (List_is r HSR.out)).mono ?_
      rintro e w8 ⟨v8, rfl, hv8, hb⟩
      obtain ⟨A9, c9, rfl, _, _⟩ := Kd.R_reads hv8
      have B8 := Aside0.mk (B7.out.trans (hb.mono B7.out.size))
      clear hb hv8
      have hwL := HWL.out
      go_wp2_with fail
      refine (model_List.calls 500 A0 c0 l (listV l) w8 (Kd.C_below HC.out B8.out) hc0 (List_is l HSZ.out)).mono ?_
      rintro e w9 ⟨v9, rfl, hv9, hb⟩
      obtain ⟨A10, c10, rfl, _, _⟩ := Kd.R_reads hv9
      have B9 := Aside0.mk (B8.out.trans (hb.mono B8.out.size))
      clear hb hv9
      go_wp2_with fail
      go_ret
      exact ⟨rfl, B9.out⟩
  · have HR0 := Aside0.mk (HP.out.err hz)
    have hz1 : (z != 0) = true := by rw [bne_iff_ne]; exact hz
    obtain rfl := HR0.out
    go_wp2_with fail
    go_ret
    exact ⟨rfl, B3.out⟩
end Go.Proofs.YtkabjbkefoipnaaDoor.Md
