import Derived.Test.YtkabjbkefoipnaaDoorGMj
import Derived.Test.YtkabjbkefoipnaaDoorGOpenM
namespace Go.Proofs.YtkabjbkefoipnaaDoor.Md
open Go.Lib Go.RowKit Go.Proofs.YtkabjbkefoipnaaDoorW.PrintWords Go.Proofs.YtkabjbkefoipnaaDoorW.PrintLast Go.Proofs.YtkabjbkefoipnaaDoorW.PrintMore Go.Proofs.YtkabjbkefoipnaaDoor.PM Go.Proofs.YtkabjbkefoipnaaDoor.Nm
set_option linter.unusedVariables false
set_option linter.unusedSimpArgs false
section
variable {l : List Sc} {name : ByteArray} {v : Kn} {i : Nat} {t : Bool}
theorem OkP.told' (h : OkP l name v i t) (hv : v.f1 = true → v.f2 = []) {n : ByteArray} (hn : rightN n = true) (he : pf n = pf name) {vs : List Kn} {z : Int} (k : VrsP (moreL l name v i t) n vs z) : vs = cutV (wasV l i t ++ [v]) ∧ z = 0 := by
  have hmem := (mem_more (v := v) h.R h.nm h.fnd (newS l name v i t)).2 (.inl rfl)
  have hpf := (newS_pf (v := v) h.fnd).trans he.symm
  rcases k.mem (h.right hv) with ⟨k1, _⟩ | ⟨k1, k2, k3, k4⟩ | ⟨k1, k3, u, k4, k5, k6⟩
  · rw [hn] at k1; cases k1
  · exact absurd hpf (k4 _ hmem)
  · have := (h.right hv).one k4 hmem (k5.trans hpf.symm)
    subst this
    exact ⟨k6.symm, k3⟩
theorem OkP.get (h : OkP l name v i t) (hg : v.f1 = false) {n : ByteArray} (hn : rightN n = true) (he : pf n = pf name) {vs : List Kn} {z : Int} (k : VrsP (moreL l name v i t) n vs z) : getV vs z = (v, 0) := by
  have hv : v.f1 = true → v.f2 = [] := fun h => by rw [hg] at h; cases h
  obtain ⟨rfl, rfl⟩ := h.told' hv hn he k
  have hl := (h.cut hv).2.2.2
  rw [getV_there (by rw [hl]; exact hg), hl]
theorem OkP.at_ (h : OkP l name v i t) (hg : v.f1 = false) {vs : List Kn} {z : Int} (k : VrsP (moreL l name v i t) name vs z) : atV v.f0 vs z = (v, 0) := by
  have hv : v.f1 = true → v.f2 = [] := fun h => by rw [hg] at h; cases h
  obtain ⟨rfl, rfl⟩ := h.told hv k
  unfold atV
  rw [if_pos rfl, h.hit hv hg]
theorem OkP.else_ (h : OkP l name v i t) (hg : v.f1 = false) {s : Sc} (hs : s ∈ l) {vs us : List Kn} {z y : Int} (k1 : VrsP l s.f0 vs z) (k2 : VrsP (moreL l name v i t) s.f0 us y) : (getV us y).1.f0 = v.f0 ∨ getV us y = getV vs z := by
  have hv : v.f1 = true → v.f2 = [] := fun h => by rw [hg] at h; cases h
  by_cases he : pf s.f0 = pf name
  · exact .inl (by rw [h.get hg (h.R.secs s hs).name he k2])
  · obtain ⟨rfl, rfl⟩ := h.other hv he k1 k2
    exact .inr rfl
end
theorem getV_len {l : List Sc} {n : ByteArray} {vs : List Kn} {z : Int} (hR : RightP l) (k : VrsP l n vs z) : (getV vs z).1.f2.length ≤ 1000 := by
  by_cases hz : z = 0
  · subst hz
    obtain ⟨h1, _, h3⟩ := k.pos hR
    cases hg : (lastV vs).f1 with
    | true => rw [getV_gone hg]; exact Nat.zero_le _
    | false =>
      rw [getV_there hg]
      rw [lastV_get (by omega)]
      exact h3 _ (List.getElem_mem _)
  · rw [getV_err hz]; exact Nat.zero_le _
set_option maxRecDepth 20000 in
set_option maxHeartbeats 8000000 in
theorem ModelLast_walk (A0 : Option Addr) (len0 c0 : Nat) (l : List Sc) (w : World) (hT : Lib.Utf8Tabs 0 1 w) (hl0 : l.length = len0) (hC0 : Kd.C kS w A0 len0 l) (hc0 : len0 ≤ c0) (hm0 : len0 ≤ maxLen) (hw0 : ∀ x ∈ l, ScWf x) (name : ByteArray) (hn : name.size ≤ 140737488351232)
    (num : Int) (gone : Bool) (A1 : Option Addr) (n1 c1 : Nat) (tx : List Int) (F : tx.length = n1 ∧ Bs.C w A1 n1 tx ∧ n1 ≤ c1 ∧ (Lit.int .i64 num).wf = true ∧ ∀ z, z ∈ tx → (Lit.int .u8 z).wf = true) :
    Calls Tryd.prog 5 #[.slice A0 len0 c0, .string name, .agg #[.int .i64 num, .bool gone, .slice A1 n1 c1]] w fun e w' => e = .returned (.bool true) ∧ Below w.heap.size w w' := by
  subst hl0
  obtain ⟨rfl, hCv, hcv, _, _⟩ := F
  have HC := Aside0.mk hC0
  have HT := Aside0.mk hT
  have HV := Aside0.mk hCv
  have K0 := Aside0.mk (blk_new w (.cells #[.int .i64 num, .bool gone, .slice A1 tx.length c1] 25))
  have B0 := Aside0.mk (below_alloc (Below.refl w.heap.size w) (.cells #[.int .i64 num, .bool gone, .slice A1 tx.length c1] 25))
  clear hC0 hT hw0 hCv
  go_enter Tryd.func5, Tryd.ntmps5
  go_wp2_with fail
  generalize w.alloc (.cells #[.int .i64 num, .bool gone, .slice A1 tx.length c1] 25) = w0 at K0 B0 ⊢
  refine (wakes_calls w0 (tabs_below HT.out B0.out)).mono ?_
  rintro e w1 ⟨rfl, hb⟩
  have B1 := Aside0.mk (B0.out.trans (hb.mono B0.out.size))
  have K1 := Aside0.mk (blk_below K0.out hb)
  clear hb K0 B0
  go_wp2_with fail
  obtain ⟨b, hb1, hb2⟩ := Long_is l
  refine (scriniumref22_Long.calls 400 A0 c0 l b w1 (Kd.C_below HC.out B1.out) hc0 hb1).mono ?_
  rintro e w2 ⟨rfl, hd⟩
  have B2 := Aside0.mk (B1.out.trans (hd.below.mono B1.out.size))
  have K2 := Aside0.mk (blk_below K1.out hd.below)
  have HS := Aside0.mk hb2
  clear hd hb1 hb2 B1 K1
  cases b with
  | true =>
    go_wp2_with fail
    go_ret
    exact ⟨rfl, B2.out⟩
  | false =>
  have hS := HS.out rfl
  have HSS := Aside0.mk hS
  have HSZ := Aside0.mk hS.sized
  clear HS hS
  by_cases hn1 : (150 : Int) < (name.size : Int)
  · go_wp2_with fail
    go_ret
    exact ⟨rfl, B2.out⟩
  have hn4 : name.size ≤ 4000 := by omega
  have y0 := (blk_cell K2.out 0).trans (show _ = some (Value.int .i64 num) from rfl)
  have y2 := (blk_cell K2.out 2).trans (show _ = some (Value.slice A1 tx.length c1) from rfl)
  by_cases hv1 : (1000 : Int) < (tx.length : Int)
  · go_wp2_with fail
    go_ret
    exact ⟨rfl, B2.out⟩
  go_wp2_with fail
  refine (Put_calls l name num tx A0 c0 A1 c1 w2 (Kd.C_below HC.out B2.out) hc0 HSZ.out hn4 (Kd.C_below HV.out B2.out) hcv (by omega) (tabs_below HT.out B2.out)).mono ?_
  rintro e w3 ⟨he, hb⟩
  obtain ⟨r, z, A, c, rfl, hP, hRd⟩ := he.rd
  have HP := Aside0.mk hP
  have HRD := Aside0.mk hRd
  have B3 := Aside0.mk (B2.out.trans (hb.mono B2.out.size))
  have K3 := Aside0.mk (blk_below K2.out hb)
  clear he hb hP hRd y0 y2 K2 B2
  by_cases hz : z = 0
  · subst hz
    obtain ⟨i, t, hok, hr⟩ := HP.out.zero
    have HOK := Aside0.mk hok
    have HSR := Aside0.mk (show Sized r by rw [hr]; exact (hok.sized (fun h => by cases h) (fun s hs => (HSS.out.at hs).name) (by omega)).sized)
    have HRR := Aside0.mk (show RightP r by rw [hr]; exact hok.right (fun h => by cases h))
    have HGET := Aside0.mk (fun vs z (k : VrsP r name vs z) => hok.get rfl hok.nm rfl (hr ▸ k))
    have HAT := Aside0.mk (fun vs z (k : VrsP r name vs z) => hok.at_ rfl (hr ▸ k))
    have HELSE := Aside0.mk (fun (s : Sc) (hs : s ∈ l) vs us z y (k1 : VrsP l s.f0 vs z) (k2 : VrsP r s.f0 us y) => hok.else_ rfl hs k1 (hr ▸ k2))
    have HRL := Aside0.mk hok.R
    clear hr hok HP HOK
    go_wp2_with fail
    refine (Get_calls r name A c w3 HRD.out.C HRD.out.le HSR.out hn4 HRR.out (tabs_below HT.out B3.out)).mono ?_
    rintro e w4 ⟨⟨vs, z, hv, A4, c4, rfl, hc4, hC4⟩, hb⟩
    rw [HGET.out vs z hv] at hc4 hC4 ⊢
    dsimp only at hc4 hC4 ⊢
    have B4 := Aside0.mk (B3.out.trans (hb.mono B3.out.size))
    have K4 := Aside0.mk (blk_below K3.out hb)
    have HRD4 := Aside0.mk (HRD.out.below hb)
    have HC4 := Aside0.mk hC4
    clear hb hv hC4 HRD B3 K3
    have OB := Aside0.mk (below_alloc (Below.refl w4.heap.size w4) (.cells #[.int .i64 num, .bool false, .slice A4 tx.length c4] 25))
    have KA := Aside0.mk (blk_new w4 (.cells #[.int .i64 num, .bool false, .slice A4 tx.length c4] 25))
    have K4a := Aside0.mk (blk_alloc K4.out (.cells #[.int .i64 num, .bool false, .slice A4 tx.length c4] 25))
    have y0 := (blk_cell K4a.out 0).trans (show _ = some (Value.int .i64 num) from rfl)
    go_wp2_with fail
    generalize w4.alloc (.cells #[.int .i64 num, .bool false, .slice A4 tx.length c4] 25) = w5 at OB KA K4a y0 ⊢
    have B5 := Aside0.mk (B4.out.trans (OB.out.mono B4.out.size))
    have HRD5 := Aside0.mk (HRD4.out.below OB.out)
    have HC5 := Aside0.mk (Kd.C_below HC4.out OB.out)
    clear OB y0 B4 HRD4 HC4 K4
    generalize w4.heap.size = ga at KA ⊢
    refine (At_calls r name num A c w5 HRD5.out.C HRD5.out.le HSR.out hn4 HRR.out (tabs_below HT.out B5.out)).mono ?_
    rintro e w6 ⟨⟨vs2, z2, hv2, A6, c6, rfl, hc6, hC6⟩, hb⟩
    rw [HAT.out vs2 z2 hv2] at hc6 hC6 ⊢
    dsimp only at hc6 hC6 ⊢
    have B6 := Aside0.mk (B5.out.trans (hb.mono B5.out.size))
    have K6 := Aside0.mk (blk_below K4a.out hb)
    have KA6 := Aside0.mk (blk_below KA.out hb)
    have HRD6 := Aside0.mk (HRD5.out.below hb)
    have HC6 := Aside0.mk (Kd.C_below HC5.out hb)
    have HD6 := Aside0.mk hC6
    clear hb hv2 hC6 HRD5 HC5 K4a KA B5
    have OB := Aside0.mk (below_alloc (Below.refl w6.heap.size w6) (.cells #[.int .i64 num, .bool false, .slice A6 tx.length c6] 25))
    have KB := Aside0.mk (blk_new w6 (.cells #[.int .i64 num, .bool false, .slice A6 tx.length c6] 25))
    have y0 := (blk_cell (blk_alloc K6.out (.cells #[.int .i64 num, .bool false, .slice A6 tx.length c6] 25)) 0).trans (show _ = some (Value.int .i64 num) from rfl)
    have y2 := (blk_cell (blk_alloc K6.out (.cells #[.int .i64 num, .bool false, .slice A6 tx.length c6] 25)) 2).trans (show _ = some (Value.slice A1 tx.length c1) from rfl)
    have a0 := (blk_cell (blk_alloc KA6.out (.cells #[.int .i64 num, .bool false, .slice A6 tx.length c6] 25)) 0).trans (show _ = some (Value.int .i64 num) from rfl)
    have a1 := (blk_cell (blk_alloc KA6.out (.cells #[.int .i64 num, .bool false, .slice A6 tx.length c6] 25)) 1).trans (show _ = some (Value.bool false) from rfl)
    have a2 := (blk_cell (blk_alloc KA6.out (.cells #[.int .i64 num, .bool false, .slice A6 tx.length c6] 25)) 2).trans (show _ = some (Value.slice A4 tx.length c4) from rfl)
    have b0 := (blk_cell KB.out 0).trans (show _ = some (Value.int .i64 num) from rfl)
    have b1 := (blk_cell KB.out 1).trans (show _ = some (Value.bool false) from rfl)
    have b2 := (blk_cell KB.out 2).trans (show _ = some (Value.slice A6 tx.length c6) from rfl)
    have hnn : (num != num) = false := by simp
    go_wp2_with fail
    generalize w6.alloc (.cells #[.int .i64 num, .bool false, .slice A6 tx.length c6] 25) = w7 at OB KB y0 y2 a0 a1 a2 b0 b1 b2 ⊢
    have B7 := Aside0.mk (B6.out.trans (OB.out.mono B6.out.size))
    have HRD7 := Aside0.mk (HRD6.out.below OB.out)
    have HC7 := Aside0.mk (Kd.C_below HC6.out OB.out)
    have HD7 := Aside0.mk (Kd.C_below HD6.out OB.out)
    have K7 := Aside0.mk (blk_below K6.out OB.out)
    have KA7 := Aside0.mk (blk_below KA6.out OB.out)
    have KB7 := KB
    clear OB y0 y2 a0 a1 a2 b0 b1 b2 KB B6 HRD6 HC6 HD6 K6 KA6
    generalize w6.heap.size = gb at KB7 ⊢
    refine (scriniumref01_Same.calls 2000 A4 c4 tx A1 c1 tx true w7 HC7.out hc4 (Kd.C_below HV.out B7.out) hcv (Same_is tx 2000 (by omega) (by omega))).mono ?_
    rintro e w8 ⟨rfl, hd⟩
    have B8 := Aside0.mk (B7.out.trans (hd.below.mono B7.out.size))
    have HRD8 := Aside0.mk (HRD7.out.below hd.below)
    have HC8 := Aside0.mk (Kd.C_below HC7.out hd.below)
    have HD8 := Aside0.mk (Kd.C_below HD7.out hd.below)
    have K8 := Aside0.mk (blk_below K7.out hd.below)
    have KA8 := Aside0.mk (blk_below KA7.out hd.below)
    have KB8 := Aside0.mk (blk_below KB7.out hd.below)
    clear hd B7 HRD7 HC7 HD7 K7 KA7 KB7
    have a0 := (blk_cell KA8.out 0).trans (show _ = some (Value.int .i64 num) from rfl)
    have a1 := (blk_cell KA8.out 1).trans (show _ = some (Value.bool false) from rfl)
    have a2 := (blk_cell KA8.out 2).trans (show _ = some (Value.slice A4 tx.length c4) from rfl)
    have b0 := (blk_cell KB8.out 0).trans (show _ = some (Value.int .i64 num) from rfl)
    have b1 := (blk_cell KB8.out 1).trans (show _ = some (Value.bool false) from rfl)
    have b2 := (blk_cell KB8.out 2).trans (show _ = some (Value.slice A6 tx.length c6) from rfl)
    go_wp2_with fail
    refine (scriniumref22_SameKnown.calls 2000 num false A4 c4 tx num false A6 c6 tx true w8 HC8.out hc4 HD8.out hc6 (SameKnown_is ⟨num, false, tx⟩ 2000 (by show tx.length ≤ _; omega) (by show tx.length < _; omega))).mono ?_
    rintro e w9 ⟨rfl, hb⟩
    have B9 := Aside0.mk (B8.out.trans (hb.mono B8.out.size))
    have HRD9 := Aside0.mk (HRD8.out.below hb)
    have K9 := Aside0.mk (blk_below K8.out hb)
    clear hb B8 HRD8 HC8 HD8 K8 KA8 KB8 a0 a1 a2 b0 b1 b2 hnn
    go_wp2_with fail
    go_loopg [92] l.length (fun kq v92 w' => ∃ (i : Nat), v92 = .int .i64 i ∧ i ≤ l.length ∧ Aside0 (kq + i = l.length) ∧ Aside0 (Below w9.heap.size w9 w'))
    case atStart => exact ⟨0, rfl, Nat.zero_le _, ⟨rfl⟩, ⟨Below.refl _ _⟩⟩
    case round =>
      obtain ⟨i, rfl, hi, HK, HB9⟩ := hrel
      have HB := Aside0.mk (B9.out.trans (HB9.out.mono B9.out.size))
      by_cases hlt : i < l.length
      · have hci : (i : Int) < (l.length : Int) := by omega
        obtain ⟨ad, A2, c2, e9, hx0, hx1, hl1, hC1⟩ := at_T39 HC.out i (Int.natCast_nonneg _) hci
        cases e9
        have hx0 := Kd.cell_heap (fun k hk => HB.out.block k hk) hx0
        have hx1 := Kd.cell_heap (fun k hk => HB.out.block k hk) hx1
        rw [rdS l i hlt, Int.toNat_natCast] at hx0 hx1
        rw [rdS l i hlt] at hl1 hC1
        have HM := Aside0.mk (show (l[i].f0).size ≤ 4000 by have := (HSS.out.all i hlt).name; omega)
        have HE := Aside0.mk (HELSE.out l[i] (List.getElem_mem hlt))
        have hwl : IntKind.i64.wrap ((i : Int) + 1) = ((i + 1 : Nat) : Int) := by have := HSS.out.len; rw [i64_w]; unfold wrap64; omega
        have HWL := Aside0.mk hwl
        clear hC1 hwl
        generalize l[i] = s at hx0 hx1 hl1 HM HE
        obtain ⟨nm, ws⟩ := s
        dsimp only at hx0 hx1 hl1 HM HE
        have KS := Aside0.mk (blk_new wr (.cells #[.string nm, .slice A2 ws.length c2] 39))
        have OB := Aside0.mk (below_alloc (Below.refl wr.heap.size wr) (.cells #[.string nm, .slice A2 ws.length c2] 39))
        have s0 := (blk_cell KS.out 0).trans (show _ = some (Value.string nm) from rfl)
        go_wp2_with fail
        generalize wr.alloc (.cells #[.string nm, .slice A2 ws.length c2] 39) = wa at OB KS s0 ⊢
        generalize wr.heap.size = gs at KS s0 ⊢
        have Ba := Aside0.mk (HB9.out.trans (OB.out.mono HB9.out.size))
        have Baw := Aside0.mk (B9.out.trans (Ba.out.mono B9.out.size))
        clear OB s0 HB HB9
        obtain ⟨vs1, z1, hv1, hget⟩ := refGet_is l nm HSZ.out HM.out HRL.out
        have HLEN := Aside0.mk (getV_len HRL.out hv1)
        refine (scriniumref22_Get.calls 5000 (fun k => k < wa.heap.size) (some ad) c0 l nm _ _ _ _ wa (Kd.V_mk hc0 (Kd.C_F k39_heap (Kd.C_below HC.out Baw.out))) hget).mono ?_
        rintro e wb ⟨v2, rfl, hV2, hb⟩
        have HE1 := Aside0.mk (fun us y (k2 : VrsP r nm us y) => HE.out vs1 us z1 y hv1 k2)
        have Bb := Aside0.mk (Ba.out.trans (hb.mono Ba.out.size))
        have KSb := Aside0.mk (blk_below KS.out hb)
        clear hv1 hget HE KS hb
        generalize getV vs1 z1 = gx at hV2 HE1 HLEN ⊢
        obtain ⟨⟨xn, xg, xt⟩, xz⟩ := gx
        obtain ⟨Ax, cx, rfl, hcx, hFx⟩ := hV2
        have HX := Aside0.mk (Kd.F_now hFx)
        clear hFx
        dsimp only at HX hcx HLEN HE1 ⊢
        have s1 := (blk_cell (blk_alloc KSb.out (.cells #[.int .i64 xn, .bool xg, .slice Ax xt.length cx] 25)) 0).trans (show _ = some (Value.string nm) from rfl)
        have OB := Aside0.mk (below_alloc (Below.refl wb.heap.size wb) (.cells #[.int .i64 xn, .bool xg, .slice Ax xt.length cx] 25))
        have KX := Aside0.mk (blk_new wb (.cells #[.int .i64 xn, .bool xg, .slice Ax xt.length cx] 25))
        go_wp2_with fail
        generalize wb.alloc (.cells #[.int .i64 xn, .bool xg, .slice Ax xt.length cx] 25) = wc at OB KX s1 ⊢
        generalize wb.heap.size = gx at KX ⊢
        have Bc := Aside0.mk (Bb.out.trans (OB.out.mono Bb.out.size))
        have HXc := Aside0.mk (Kd.C_below HX.out OB.out)
        have Bcw := Aside0.mk (B9.out.trans (Bc.out.mono B9.out.size))
        have HRDc := Aside0.mk (HRD9.out.below Bc.out)
        clear OB s1 HX Bb Ba Baw KSb
        refine (Get_calls r nm A c wc HRDc.out.C HRDc.out.le HSR.out HM.out HRR.out (tabs_below HT.out Bcw.out)).mono ?_
        rintro e wd ⟨⟨us, y, hy, Ay, cy, rfl, hcy, hCy⟩, hb⟩
        have HE2 := Aside0.mk (HE1.out us y hy)
        have Bd := Aside0.mk (Bc.out.trans (hb.mono Bc.out.size))
        have HXd := Aside0.mk (Kd.C_below HXc.out hb)
        have HYd := Aside0.mk hCy
        have KXd := Aside0.mk (blk_below KX.out hb)
        have Kd9 := Aside0.mk (blk_below K9.out Bd.out)
        clear hy hb hCy HE1 Bc HXc KX Bcw HRDc
        generalize getV us y = gy at HE2 hcy HYd ⊢
        obtain ⟨⟨yn, yg, yt⟩, yz⟩ := gy
        dsimp only at HE2 hcy HYd ⊢
        have OB := Aside0.mk (below_alloc (Below.refl wd.heap.size wd) (.cells #[.int .i64 yn, .bool yg, .slice Ay yt.length cy] 25))
        have KY := Aside0.mk (blk_new wd (.cells #[.int .i64 yn, .bool yg, .slice Ay yt.length cy] 25))
        have KXe := Aside0.mk (blk_alloc KXd.out (.cells #[.int .i64 yn, .bool yg, .slice Ay yt.length cy] 25))
        have Ke := Aside0.mk (blk_alloc Kd9.out (.cells #[.int .i64 yn, .bool yg, .slice Ay yt.length cy] 25))
        have HXe := Aside0.mk (Kd.C_below HXd.out OB.out)
        have HYe := Aside0.mk (Kd.C_below HYd.out OB.out)
        have Be := Aside0.mk (Bd.out.trans (OB.out.mono Bd.out.size))
        clear KXd Kd9 HXd HYd Bd
        have n0 := (blk_cell Ke.out 0).trans (show _ = some (Value.int .i64 num) from rfl)
        have x0 := (blk_cell KXe.out 0).trans (show _ = some (Value.int .i64 xn) from rfl)
        have x1 := (blk_cell KXe.out 1).trans (show _ = some (Value.bool xg) from rfl)
        have x2 := (blk_cell KXe.out 2).trans (show _ = some (Value.slice Ax xt.length cx) from rfl)
        have y0 := (blk_cell KY.out 0).trans (show _ = some (Value.int .i64 yn) from rfl)
        have y1 := (blk_cell KY.out 1).trans (show _ = some (Value.bool yg) from rfl)
        have y2 := (blk_cell KY.out 2).trans (show _ = some (Value.slice Ay yt.length cy) from rfl)
        by_cases hyn : yn = num
        · have hy1 : (yn != num) = false := by rw [bne_eq_false_iff_eq]; exact hyn
          have hwl := HWL.out
          clear hyn
          go_wp2_with fail
          go_roundg (l.length - (i + 1))
          case measure => have := HK.out; omega
          case rel => exact ⟨i + 1, by first | rfl | (simp [hwl]; done) | rw [hwl], by omega, ⟨by omega⟩, Be⟩
        · have hy1 : (yn != num) = true := by rw [bne_iff_ne]; exact hyn
          have he := HE2.out.resolve_left hyn
          injection he with e1 e2
          injection e1 with e3 e4 e5
          subst e3 e4 e5 e2
          clear hyn
          have hzz : (yz != yz) = false := by simp
          go_wp2_with fail
          refine (scriniumref22_SameKnown.calls 2000 yn yg Ax cx yt yn yg Ay cy yt true _ HXe.out hcx HYe.out hcy (SameKnown_is ⟨yn, yg, yt⟩ 2000 (by have := HLEN.out; show yt.length ≤ _; omega) (by have := HLEN.out; show yt.length < _; omega))).mono ?_
          rintro e wf ⟨rfl, hb⟩
          have Bf := Aside0.mk (Be.out.trans (hb.mono Be.out.size))
          clear hb
          have hwl := HWL.out
          go_wp2_with fail
          go_roundg (l.length - (i + 1))
          case measure => have := HK.out; omega
          case rel => exact ⟨i + 1, by first | rfl | (simp [hwl]; done) | rw [hwl], by omega, ⟨by omega⟩, Bf⟩
      · have hci : ¬ (i : Int) < (l.length : Int) := by omega
        go_wp2_with fail
        go_ret
        exact ⟨rfl, HB.out⟩
  · have HR0 := Aside0.mk (HP.out.err hz)
    have hz1 : (z != 0) = true := by rw [bne_iff_ne]; exact hz
    obtain rfl := HR0.out
    go_wp2_with fail
    go_ret
    exact ⟨rfl, B3.out⟩
end Go.Proofs.YtkabjbkefoipnaaDoor.Md
