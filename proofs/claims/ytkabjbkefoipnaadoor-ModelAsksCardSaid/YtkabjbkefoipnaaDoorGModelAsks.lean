import Derived.Test.YtkabjbkefoipnaaDoorGMj
import Derived.Test.YtkabjbkefoipnaaDoorGMk
import Derived.Test.YtkabjbkefoipnaaDoorGOpenM
namespace Go.Proofs.YtkabjbkefoipnaaDoor.Md
open Go.Lib Go.RowKit Go.Proofs.YtkabjbkefoipnaaDoorW.PrintWords Go.Proofs.YtkabjbkefoipnaaDoorW.PrintLast Go.Proofs.YtkabjbkefoipnaaDoorW.PrintMore Go.Proofs.YtkabjbkefoipnaaDoor.PM Go.Proofs.YtkabjbkefoipnaaDoor.Nm
set_option linter.unusedVariables false
set_option linter.unusedSimpArgs false
theorem getV_text {l : List Sc} {n : ByteArray} {vs : List Kn} {z : Int} (hR : RightP l) (k : VrsP l n vs z) : (getV vs z).1.f2.length ≤ 1000 := by
  by_cases hz : z = 0
  · subst hz
    obtain ⟨h1, _, h3⟩ := k.pos hR
    cases hg : (lastV vs).f1 with
    | true => rw [getV_gone hg]; exact Nat.zero_le _
    | false =>
      rw [getV_there hg, lastV_get (by omega)]
      exact h3 _ (List.getElem_mem _)
  · rw [getV_err hz]; exact Nat.zero_le _
theorem atV_text {l : List Sc} {n : ByteArray} {num : Int} {vs : List Kn} {z : Int} (hR : RightP l) (k : VrsP l n vs z) : (atV num vs z).1.f2.length ≤ 1000 := by
  by_cases hz : z = 0
  · subst hz
    obtain ⟨h1, _, h3⟩ := k.pos hR
    unfold atV
    rw [if_pos rfl]
    cases h : vs.find? (hitV num) with
    | none => exact Nat.zero_le _
    | some v => exact h3 v (List.mem_of_find?_eq_some h)
  · rw [atV_err hz]; exact Nat.zero_le _
theorem hisV_text {l : List Sc} {n : ByteArray} {vs : List Kn} {z : Int} (hR : RightP l) (k : VrsP l n vs z) : (hisV vs z).1.length ≤ 4 ∧ ∀ x, x ∈ (hisV vs z).1 → x.f2.length ≤ 2000 := by
  by_cases hz : z = 0
  · subst hz
    obtain ⟨_, h2, _⟩ := k.pos hR
    rw [show hisV vs 0 = (vs.map bare, 0) from if_pos rfl]
    refine ⟨by rw [List.length_map]; exact h2, fun x hx => ?_⟩
    obtain ⟨y, _, rfl⟩ := List.mem_map.1 hx
    exact Nat.zero_le _
  · rw [show hisV vs z = ([], z) from if_neg hz]
    exact ⟨Nat.zero_le _, fun x hx => by simp at hx⟩
theorem VrsP.eq {l : List Sc} {n : ByteArray} {vs us : List Kn} {z y : Int} (hR : RightP l) (h : VrsP l n vs z) (k : VrsP l n us y) : vs = us ∧ z = y := h.same hR hR k fun s _ => Iff.rfl
set_option maxRecDepth 20000 in
set_option maxHeartbeats 8000000 in
theorem ModelAsks_walk (A0 : Option Addr) (len0 c0 : Nat) (l : List Sc) (w : World) (hT : Lib.Utf8Tabs 0 1 w) (hl0 : l.length = len0) (hC0 : Kd.C kS w A0 len0 l) (hc0 : len0 ≤ c0) (hm0 : len0 ≤ maxLen) (hw0 : ∀ x ∈ l, ScWf x) (name : ByteArray) (hn : name.size ≤ 140737488351232) (num : Int) (hnum : (Lit.int .i64 num).wf = true) :
    Calls Tryd.prog 7 #[.slice A0 len0 c0, .string name, .int .i64 num] w fun e w' => e = .returned (.bool true) ∧ Below w.heap.size w w' := by
  subst hl0
  have HC := Aside0.mk hC0
  have HT := Aside0.mk hT
  clear hC0 hT hw0
  go_enter Tryd.func7, Tryd.ntmps7
  go_wp2_with fail
  refine (wakes_calls w HT.out).mono ?_
  rintro e w1 ⟨rfl, hb⟩
  have B1 := Aside0.mk hb
  clear hb
  go_wp2_with fail
  obtain ⟨b, hb1, hb2⟩ := Long_is l
  refine (scriniumref22_Long.calls 400 A0 c0 l b w1 (Kd.C_below HC.out B1.out) hc0 hb1).mono ?_
  rintro e w2 ⟨rfl, hd⟩
  have B2 := Aside0.mk (B1.out.trans (hd.below.mono B1.out.size))
  have HS := Aside0.mk hb2
  clear hd hb1 hb2 B1
  cases b with
  | true =>
    go_wp2_with fail
    go_ret
    exact ⟨rfl, B2.out⟩
  | false =>
  have hS := HS.out rfl
  have HSS := Aside0.mk hS
  have HSZ := Aside0.mk hS.sized
  clear HS hS
  by_cases hn1 : (150 : Int) < (name.size : Int)
  · go_wp2_with fail
    go_ret
    exact ⟨rfl, B2.out⟩
  have hn4 : name.size ≤ 4000 := by omega
  go_wp2_with fail
  obtain ⟨b, hb1, hb2⟩ := refRight_is l (fun s hs => ⟨by have := (HSS.out.at hs).name; omega, by have := (HSS.out.at hs).vers; omega⟩)
  refine (scriniumref22_Right.calls 20000 A0 c0 l b w2 (Kd.C_below HC.out B2.out) hc0 hb1).mono ?_
  rintro e w3 ⟨rfl, hb⟩
  have B3 := Aside0.mk (B2.out.trans (hb.mono B2.out.size))
  have HRI := Aside0.mk hb2
  clear hb hb1 hb2 B2
  cases b with
  | false =>
    go_wp2_with fail
    go_ret
    exact ⟨rfl, B3.out⟩
  | true =>
  have HR := Aside0.mk (HRI.out.1 rfl)
  clear HRI
  go_wp2_with fail
  refine (Get_calls l name A0 c0 w3 (Kd.C_below HC.out B3.out) hc0 HSZ.out hn4 HR.out (tabs_below HT.out B3.out)).mono ?_
  rintro e w4 ⟨⟨vs, z, hv, Aa, ca, rfl, hca, hCa⟩, hb⟩
  have HVS := Aside0.mk hv
  have HLX := Aside0.mk (getV_text HR.out hv)
  generalize hgx : getV vs z = gx at hca hCa HLX ⊢
  have HGX := Aside0.mk hgx
  obtain ⟨⟨xn, xg, xt⟩, xz⟩ := gx
  dsimp only at hca hCa HLX ⊢
  have HX := Aside0.mk hCa
  clear hCa hv hgx
  have B4 := Aside0.mk (B3.out.trans (hb.mono B3.out.size))
  clear hb B3
  have OB := Aside0.mk (below_alloc (Below.refl w4.heap.size w4) (.cells #[.int .i64 xn, .bool xg, .slice Aa xt.length ca] 25))
  have Ka_5 := Aside0.mk (blk_new w4 (.cells #[.int .i64 xn, .bool xg, .slice Aa xt.length ca] 25))
  have Ca_5 := Aside0.mk (Kd.C_below HX.out OB.out)
  clear HX
  have B5 := Aside0.mk (B4.out.trans (OB.out.mono B4.out.size))
  clear B4
  go_wp2_with fail
  generalize w4.alloc (.cells #[.int .i64 xn, .bool xg, .slice Aa xt.length ca] 25) = w5 at OB B5 Ka_5 Ca_5 ⊢
  generalize w4.heap.size = ga at Ka_5 ⊢
  clear OB
  have hgr : scriniumref22_Get.f 5000 l name = some (xn, xg, xt, xz) := by
    obtain ⟨us, y, hu, h1⟩ := refGet_is l name HSZ.out hn4 HR.out
    obtain ⟨rfl, rfl⟩ := hu.eq HR.out HVS.out
    rw [h1, HGX.out]
  go_wp2_with fail
  refine (scriniumref22_Get.calls 5000 (fun k => k < w5.heap.size) A0 c0 l name xn xg xt xz w5 (Kd.V_mk hc0 (Kd.C_F k39_heap (Kd.C_below HC.out B5.out))) hgr).mono ?_
  rintro e w6 ⟨v2, rfl, hV2, hb⟩
  obtain ⟨Ab, cb, rfl, hcb, hFb⟩ := hV2
  have HX := Aside0.mk (Kd.F_now hFb)
  clear hFb hgr
  have B6 := Aside0.mk (B5.out.trans (hb.mono B5.out.size))
  have Ka_6 := Aside0.mk (blk_below Ka_5.out hb)
  have Ca_6 := Aside0.mk (Kd.C_below Ca_5.out hb)
  clear Ka_5 Ca_5
  clear hb B5
  have OB := Aside0.mk (below_alloc (Below.refl w6.heap.size w6) (.cells #[.int .i64 xn, .bool xg, .slice Ab xt.length cb] 25))
  have Kb_7 := Aside0.mk (blk_new w6 (.cells #[.int .i64 xn, .bool xg, .slice Ab xt.length cb] 25))
  have Cb_7 := Aside0.mk (Kd.C_below HX.out OB.out)
  clear HX
  have Ka_7 := Aside0.mk (blk_below Ka_6.out OB.out)
  have Ca_7 := Aside0.mk (Kd.C_below Ca_6.out OB.out)
  clear Ka_6 Ca_6
  have B7 := Aside0.mk (B6.out.trans (OB.out.mono B6.out.size))
  clear B6
  go_wp2_with fail
  generalize w6.alloc (.cells #[.int .i64 xn, .bool xg, .slice Ab xt.length cb] 25) = w7 at OB B7 Ka_7 Ca_7 Kb_7 Cb_7 ⊢
  generalize w6.heap.size = gb at Kb_7 ⊢
  clear OB
  go_wp2_with fail
  refine (At_calls l name num A0 c0 w7 (Kd.C_below HC.out B7.out) hc0 HSZ.out hn4 HR.out (tabs_below HT.out B7.out)).mono ?_
  rintro e w8 ⟨⟨vs2, z2, hv, Ac, cc, rfl, hcc, hCc⟩, hb⟩
  have HLY := Aside0.mk (atV_text (num := num) HR.out hv)
  obtain ⟨e1, e2⟩ := hv.eq HR.out HVS.out
  subst e1 e2
  generalize hgy : atV num vs2 z2 = gy at hcc hCc HLY ⊢
  have HGY := Aside0.mk hgy
  obtain ⟨⟨yn, yg, yt⟩, yz⟩ := gy
  dsimp only at hcc hCc HLY ⊢
  have HX := Aside0.mk hCc
  clear hCc hv hgy
  have B8 := Aside0.mk (B7.out.trans (hb.mono B7.out.size))
  have Ka_8 := Aside0.mk (blk_below Ka_7.out hb)
  have Ca_8 := Aside0.mk (Kd.C_below Ca_7.out hb)
  have Kb_8 := Aside0.mk (blk_below Kb_7.out hb)
  have Cb_8 := Aside0.mk (Kd.C_below Cb_7.out hb)
  clear Ka_7 Ca_7 Kb_7 Cb_7
  clear hb B7
  have OB := Aside0.mk (below_alloc (Below.refl w8.heap.size w8) (.cells #[.int .i64 yn, .bool yg, .slice Ac yt.length cc] 25))
  have Kc_9 := Aside0.mk (blk_new w8 (.cells #[.int .i64 yn, .bool yg, .slice Ac yt.length cc] 25))
  have Cc_9 := Aside0.mk (Kd.C_below HX.out OB.out)
  clear HX
  have Ka_9 := Aside0.mk (blk_below Ka_8.out OB.out)
  have Ca_9 := Aside0.mk (Kd.C_below Ca_8.out OB.out)
  have Kb_9 := Aside0.mk (blk_below Kb_8.out OB.out)
  have Cb_9 := Aside0.mk (Kd.C_below Cb_8.out OB.out)
  clear Ka_8 Ca_8 Kb_8 Cb_8
  have B9 := Aside0.mk (B8.out.trans (OB.out.mono B8.out.size))
  clear B8
  go_wp2_with fail
  generalize w8.alloc (.cells #[.int .i64 yn, .bool yg, .slice Ac yt.length cc] 25) = w9 at OB B9 Ka_9 Ca_9 Kb_9 Cb_9 Kc_9 Cc_9 ⊢
  generalize w8.heap.size = gc at Kc_9 ⊢
  clear OB
  have hgr : scriniumref22_At.f 5000 l name num = some (yn, yg, yt, yz) := by
    obtain ⟨us, y, hu, h1⟩ := refAt_is l name num HSZ.out hn4 HR.out
    obtain ⟨rfl, rfl⟩ := hu.eq HR.out HVS.out
    rw [h1, HGY.out]
  go_wp2_with fail
  refine (scriniumref22_At.calls 5000 (fun k => k < w9.heap.size) A0 c0 l name num yn yg yt yz w9 (Kd.V_mk hc0 (Kd.C_F k39_heap (Kd.C_below HC.out B9.out))) hgr).mono ?_
  rintro e w10 ⟨v2, rfl, hV2, hb⟩
  obtain ⟨Ad, cd, rfl, hcd, hFd⟩ := hV2
  have HX := Aside0.mk (Kd.F_now hFd)
  clear hFd hgr
  have B10 := Aside0.mk (B9.out.trans (hb.mono B9.out.size))
  have Ka_10 := Aside0.mk (blk_below Ka_9.out hb)
  have Ca_10 := Aside0.mk (Kd.C_below Ca_9.out hb)
  have Kb_10 := Aside0.mk (blk_below Kb_9.out hb)
  have Cb_10 := Aside0.mk (Kd.C_below Cb_9.out hb)
  have Kc_10 := Aside0.mk (blk_below Kc_9.out hb)
  have Cc_10 := Aside0.mk (Kd.C_below Cc_9.out hb)
  clear Ka_9 Ca_9 Kb_9 Cb_9 Kc_9 Cc_9
  clear hb B9
  have OB := Aside0.mk (below_alloc (Below.refl w10.heap.size w10) (.cells #[.int .i64 yn, .bool yg, .slice Ad yt.length cd] 25))
  have Kd_11 := Aside0.mk (blk_new w10 (.cells #[.int .i64 yn, .bool yg, .slice Ad yt.length cd] 25))
  have Cd_11 := Aside0.mk (Kd.C_below HX.out OB.out)
  clear HX
  have Ka_11 := Aside0.mk (blk_below Ka_10.out OB.out)
  have Ca_11 := Aside0.mk (Kd.C_below Ca_10.out OB.out)
  have Kb_11 := Aside0.mk (blk_below Kb_10.out OB.out)
  have Cb_11 := Aside0.mk (Kd.C_below Cb_10.out OB.out)
  have Kc_11 := Aside0.mk (blk_below Kc_10.out OB.out)
  have Cc_11 := Aside0.mk (Kd.C_below Cc_10.out OB.out)
  clear Ka_10 Ca_10 Kb_10 Cb_10 Kc_10 Cc_10
  have B11 := Aside0.mk (B10.out.trans (OB.out.mono B10.out.size))
  clear B10
  go_wp2_with fail
  generalize w10.alloc (.cells #[.int .i64 yn, .bool yg, .slice Ad yt.length cd] 25) = w11 at OB B11 Ka_11 Ca_11 Kb_11 Cb_11 Kc_11 Cc_11 Kd_11 Cd_11 ⊢
  generalize w10.heap.size = gd at Kd_11 ⊢
  clear OB
  go_wp2_with fail
  refine (History_calls l name A0 c0 w11 (Kd.C_below HC.out B11.out) hc0 HSZ.out hn4 HR.out (tabs_below HT.out B11.out)).mono ?_
  rintro e wp ⟨⟨vs3, z3, Ap, cp, hv, rfl, hcp, hCp⟩, hb⟩
  have HLH := Aside0.mk (hisV_text HR.out hv)
  obtain ⟨e1, e2⟩ := hv.eq HR.out HVS.out
  subst e1 e2
  generalize hgh : hisV vs3 z3 = gh at hcp hCp HLH ⊢
  have HGH := Aside0.mk hgh
  obtain ⟨hs, hz⟩ := gh
  dsimp only at hcp hCp HLH ⊢
  have Cp_p := Aside0.mk hCp
  clear hCp hv hgh
  have Ka_p := Aside0.mk (blk_below Ka_11.out hb)
  have Ca_p := Aside0.mk (Kd.C_below Ca_11.out hb)
  have Kb_p := Aside0.mk (blk_below Kb_11.out hb)
  have Cb_p := Aside0.mk (Kd.C_below Cb_11.out hb)
  have Kc_p := Aside0.mk (blk_below Kc_11.out hb)
  have Cc_p := Aside0.mk (Kd.C_below Cc_11.out hb)
  have Kd_p := Aside0.mk (blk_below Kd_11.out hb)
  have Cd_p := Aside0.mk (Kd.C_below Cd_11.out hb)
  have Bp := Aside0.mk (B11.out.trans (hb.mono B11.out.size))
  clear B11 Ka_11 Ca_11 Kb_11 Cb_11 Kc_11 Cc_11 Kd_11 Cd_11
  clear hb
  have hgr : scriniumref22_History.f 5000 l name = some (hs, hz) := by
    obtain ⟨us, y, hu, h1⟩ := refHis_is l name HSZ.out hn4 HR.out
    obtain ⟨rfl, rfl⟩ := hu.eq HR.out HVS.out
    rw [h1, HGH.out]
  go_wp2_with fail
  refine (scriniumref22_History.calls 5000 A0 c0 l name hs hz wp (Kd.C_below HC.out Bp.out) hc0 hgr).mono ?_
  rintro e wq ⟨vq, rfl, hSq, hb⟩
  obtain ⟨Aq, cq, rfl, hcq, hCq⟩ := Kd.S_reads hSq
  have Cq_q := Aside0.mk hCq
  clear hCq hSq hgr
  have Ka_q := Aside0.mk (blk_below Ka_p.out hb)
  have Ca_q := Aside0.mk (Kd.C_below Ca_p.out hb)
  have Kb_q := Aside0.mk (blk_below Kb_p.out hb)
  have Cb_q := Aside0.mk (Kd.C_below Cb_p.out hb)
  have Kc_q := Aside0.mk (blk_below Kc_p.out hb)
  have Cc_q := Aside0.mk (Kd.C_below Cc_p.out hb)
  have Kd_q := Aside0.mk (blk_below Kd_p.out hb)
  have Cd_q := Aside0.mk (Kd.C_below Cd_p.out hb)
  have Cp_q := Aside0.mk (Kd.C_below Cp_p.out hb)
  have Bq := Aside0.mk (Bp.out.trans (hb.mono Bp.out.size))
  clear Bp Ka_p Ca_p Kb_p Cb_p Kc_p Cc_p Kd_p Cd_p Cp_p
  clear hb
  have a0 := (blk_cell Ka_q.out 0).trans (show _ = some (Value.int .i64 xn) from rfl)
  have a1 := (blk_cell Ka_q.out 1).trans (show _ = some (Value.bool xg) from rfl)
  have a2 := (blk_cell Ka_q.out 2).trans (show _ = some (Value.slice Aa xt.length ca) from rfl)
  have b0 := (blk_cell Kb_q.out 0).trans (show _ = some (Value.int .i64 xn) from rfl)
  have b1 := (blk_cell Kb_q.out 1).trans (show _ = some (Value.bool xg) from rfl)
  have b2 := (blk_cell Kb_q.out 2).trans (show _ = some (Value.slice Ab xt.length cb) from rfl)
  have hxz : (xz == xz) = true := by simp
  have hyz : (yz == yz) = true := by simp
  have hhz : (hz == hz) = true := by simp
  go_wp2_with fail
  refine (scriniumref22_SameKnown.calls 2000 xn xg Aa ca xt xn xg Ab cb xt true wq Ca_q.out hca Cb_q.out hcb (SameKnown_is ⟨xn, xg, xt⟩ 2000 (by have := HLX.out; show xt.length ≤ _; omega) (by have := HLX.out; show xt.length < _; omega))).mono ?_
  rintro e wr ⟨rfl, hb⟩
  clear a0 a1 a2 b0 b1 b2
  have Ka_r := Aside0.mk (blk_below Ka_q.out hb)
  have Ca_r := Aside0.mk (Kd.C_below Ca_q.out hb)
  have Kb_r := Aside0.mk (blk_below Kb_q.out hb)
  have Cb_r := Aside0.mk (Kd.C_below Cb_q.out hb)
  have Kc_r := Aside0.mk (blk_below Kc_q.out hb)
  have Cc_r := Aside0.mk (Kd.C_below Cc_q.out hb)
  have Kd_r := Aside0.mk (blk_below Kd_q.out hb)
  have Cd_r := Aside0.mk (Kd.C_below Cd_q.out hb)
  have Cp_r := Aside0.mk (Kd.C_below Cp_q.out hb)
  have Cq_r := Aside0.mk (Kd.C_below Cq_q.out hb)
  have Br := Aside0.mk (Bq.out.trans (hb.mono Bq.out.size))
  clear Bq Ka_q Ca_q Kb_q Cb_q Kc_q Cc_q Kd_q Cd_q Cp_q Cq_q
  clear hb
  have c0' := (blk_cell Kc_r.out 0).trans (show _ = some (Value.int .i64 yn) from rfl)
  have c1' := (blk_cell Kc_r.out 1).trans (show _ = some (Value.bool yg) from rfl)
  have c2' := (blk_cell Kc_r.out 2).trans (show _ = some (Value.slice Ac yt.length cc) from rfl)
  have d0 := (blk_cell Kd_r.out 0).trans (show _ = some (Value.int .i64 yn) from rfl)
  have d1 := (blk_cell Kd_r.out 1).trans (show _ = some (Value.bool yg) from rfl)
  have d2 := (blk_cell Kd_r.out 2).trans (show _ = some (Value.slice Ad yt.length cd) from rfl)
  go_wp2_with fail
  refine (scriniumref22_SameKnown.calls 2000 yn yg Ac cc yt yn yg Ad cd yt true wr Cc_r.out hcc Cd_r.out hcd (SameKnown_is ⟨yn, yg, yt⟩ 2000 (by have := HLY.out; show yt.length ≤ _; omega) (by have := HLY.out; show yt.length < _; omega))).mono ?_
  rintro e ws ⟨rfl, hb⟩
  clear c0' c1' c2' d0 d1 d2
  have Ka_s := Aside0.mk (blk_below Ka_r.out hb)
  have Ca_s := Aside0.mk (Kd.C_below Ca_r.out hb)
  have Kb_s := Aside0.mk (blk_below Kb_r.out hb)
  have Cb_s := Aside0.mk (Kd.C_below Cb_r.out hb)
  have Kc_s := Aside0.mk (blk_below Kc_r.out hb)
  have Cc_s := Aside0.mk (Kd.C_below Cc_r.out hb)
  have Kd_s := Aside0.mk (blk_below Kd_r.out hb)
  have Cd_s := Aside0.mk (Kd.C_below Cd_r.out hb)
  have Cp_s := Aside0.mk (Kd.C_below Cp_r.out hb)
  have Cq_s := Aside0.mk (Kd.C_below Cq_r.out hb)
  have Bs := Aside0.mk (Br.out.trans (hb.mono Br.out.size))
  clear Br Ka_r Ca_r Kb_r Cb_r Kc_r Cc_r Kd_r Cd_r Cp_r Cq_r
  clear hb
  go_wp2_with fail
  refine (scriniumref22_SameAll.calls 3000 Ap cp hs Aq cq hs true ws Cp_s.out hcp Cq_s.out hcq (SameAll_is hs 3000 (by have := HLH.out.1; omega) HLH.out.2 (by have := HLH.out.1; omega))).mono ?_
  rintro e wt ⟨rfl, hb⟩
  have Bt := Aside0.mk (Bs.out.trans (hb.mono Bs.out.size))
  clear hb Bs
  go_wp2_with fail
  refine (model_List.calls 500 A0 c0 l (listV l) wt (Kd.C_below HC.out Bt.out) hc0 (List_is l HSZ.out)).mono ?_
  rintro e wu ⟨vu, rfl, hvu, hb⟩
  obtain ⟨Au, cu, rfl, hcu, hCu⟩ := Kd.R_reads hvu
  have Bu := Aside0.mk (Bt.out.trans (hb.mono Bt.out.size))
  have Cu := Aside0.mk hCu
  clear hb hvu hCu Bt
  go_wp2_with fail
  refine (scriniumref22_List.calls 500 A0 c0 l (listV l) wu (Kd.C_below HC.out Bu.out) hc0 (refList_is l HSZ.out HR.out)).mono ?_
  rintro e wv ⟨vv, rfl, hvv, hb⟩
  obtain ⟨Av, cv, rfl, hcv, hCv⟩ := Kd.R_reads hvv
  have Bv := Aside0.mk (Bu.out.trans (hb.mono Bu.out.size))
  have Cuv := Aside0.mk (Kd.C_below Cu.out hb)
  have Cv := Aside0.mk hCv
  clear hb hvv hCv Bu Cu
  go_wp2_with fail
  refine (scriniumref16_SameNames.calls 200 Au cu (listV l) Av cv (listV l) true wv Cuv.out hcu Cv.out hcv (SameNames_is (listV l) (by unfold listV; rw [List.length_map]; have := List.length_filter_le liveV l; have := HSS.out.len; omega))).mono ?_
  rintro e wx ⟨rfl, hd⟩
  have Bx := Aside0.mk (Bv.out.trans (hd.below.mono Bv.out.size))
  clear hd
  go_wp2_with fail
  go_ret
  exact ⟨rfl, Bx.out⟩
end Go.Proofs.YtkabjbkefoipnaaDoor.Md
