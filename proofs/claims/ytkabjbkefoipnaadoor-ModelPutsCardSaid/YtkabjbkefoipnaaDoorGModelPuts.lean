import Derived.Test.YtkabjbkefoipnaaDoorGMv
import Derived.Test.YtkabjbkefoipnaaDoorGOpenM
namespace Go.Proofs.YtkabjbkefoipnaaDoor.Md
open Go.Lib Go.RowKit Go.Proofs.YtkabjbkefoipnaaDoorW.PrintWords Go.Proofs.YtkabjbkefoipnaaDoorW.PrintLast Go.Proofs.YtkabjbkefoipnaaDoorW.PrintMore Go.Proofs.YtkabjbkefoipnaaDoor.PM Go.Proofs.YtkabjbkefoipnaaDoor.Nm
set_option linter.unusedVariables false
set_option linter.unusedSimpArgs false
structure OutP (l : List Sc) (r : List Sc) (z : Int) : Prop where
  short : ShortL r
  right : z = 0 → RightP r
theorem WithP.out {l : List Sc} {name : ByteArray} {v : Kn} {r : List Sc} {z : Int} (h : WithP l name v r z) (hv : v.f1 = true → v.f2 = []) (hl : ∀ s, s ∈ l → s.f0.size ≤ 150) (hn : name.size ≤ 150) : OutP l r z := by
  have nil : ShortL [] := ⟨by decide, fun i h => by simp at h⟩
  by_cases hz : z = 0
  · subst hz
    obtain ⟨i, t, hok, rfl⟩ := h.zero
    exact ⟨hok.sized hv hl hn, fun _ => hok.right hv⟩
  · have hr : r = [] := by cases h <;> first | rfl | exact absurd rfl hz
    subst hr
    exact ⟨nil, fun h => absurd h hz⟩
theorem OutP.same {l r : List Sc} {z : Int} (h : OutP l r z) : scriniumref22_Same.f 3000 r r = some true :=
  SameL_is r (by have := h.short.len; omega) (fun s hs => ⟨by have := (h.short.at hs).vers; omega, fun x hx => (h.short.at hs).txt hx⟩)
theorem OutP.refRight {l r : List Sc} {z : Int} (h : OutP l r z) (hz : z = 0) : scriniumref22_Right.f 20000 r = some true := by
  obtain ⟨b, h1, h2⟩ := refRight_is r (fun s hs => ⟨by have := (h.short.at hs).name; omega, by have := (h.short.at hs).vers; omega⟩)
  rw [h1, h2.2 (h.right hz)]
theorem Cp.far {w : World} {base : Nat} {v : Value} {ps : List (Sc × Hdr)} (h : Cp w base v ps) {p : Addr} (hp : p.block < base) (u : Value) : Cp (w.setCell p u) base v ps :=
  ⟨Kd.R_mono (Kd.R_far (Kd.R_bound h.row) (fun k hk => by have := hk.2.1; omega) u) (fun _ _ => trivial), fun q hq => Kd.R_mono (Kd.R_far (Kd.R_bound (h.ver q hq)) (fun k hk => by have := hk.2.1; omega) u) (fun _ _ => trivial), h.apart⟩
theorem Cp.rd' {w : World} {base n c : Nat} {A : Option Addr} {ps : List (Sc × Hdr)} {l : List Sc} (h : Cp w base (.slice A n c) ps) (hl : ps.map Prod.fst = l) : Rd w A c l := by
  obtain ⟨A', c', he, h1⟩ := h.rd
  injection he with e1 e2 e3
  subst e1 e3
  rw [hl] at h1
  exact h1
set_option maxRecDepth 20000 in
set_option maxHeartbeats 8000000 in
theorem ModelPuts_walk (A0 : Option Addr) (len0 c0 : Nat) (l : List Sc) (w : World) (hT : Lib.Utf8Tabs 0 1 w) (hl0 : l.length = len0) (hC0 : Kd.C kS w A0 len0 l) (hc0 : len0 ≤ c0) (hm0 : len0 ≤ maxLen) (hw0 : ∀ x ∈ l, ScWf x) (name : ByteArray) (hn : name.size ≤ 140737488351232)
    (num : Int) (gone : Bool) (A1 : Option Addr) (n1 c1 : Nat) (tx : List Int) (F : tx.length = n1 ∧ Bs.C w A1 n1 tx ∧ n1 ≤ c1 ∧ (Lit.int .i64 num).wf = true ∧ ∀ z, z ∈ tx → (Lit.int .u8 z).wf = true) :
    Calls Tryd.prog 3 #[.slice A0 len0 c0, .string name, .agg #[.int .i64 num, .bool gone, .slice A1 n1 c1]] w fun e w' => e = .returned (.bool true) ∧ Below w.heap.size w w' := by
  subst hl0
  obtain ⟨rfl, hCv, hcv, _, _⟩ := F
  have HC := Aside0.mk hC0
  have HT := Aside0.mk hT
  have HV := Aside0.mk hCv
  have K0 := Aside0.mk (blk_new w (.cells #[.int .i64 num, .bool gone, .slice A1 tx.length c1] 25))
  have B0 := Aside0.mk (below_alloc (Below.refl w.heap.size w) (.cells #[.int .i64 num, .bool gone, .slice A1 tx.length c1] 25))
  clear hC0 hT hw0 hCv
  go_enter Tryd.func3, Tryd.ntmps3
  go_wp2_with fail
  generalize w.alloc (.cells #[.int .i64 num, .bool gone, .slice A1 tx.length c1] 25) = w0 at K0 B0 ⊢
  refine (wakes_calls w0 (tabs_below HT.out B0.out)).mono ?_
  rintro e w1 ⟨rfl, hb⟩
  have B1 := Aside0.mk (B0.out.trans (hb.mono B0.out.size))
  have K1 := Aside0.mk (blk_below K0.out hb)
  clear hb K0 B0
  go_wp2_with fail
  obtain ⟨b, hb1, hb2⟩ := Long_is l
  refine (scriniumref22_Long.calls 400 A0 c0 l b w1 (Kd.C_below HC.out B1.out) hc0 hb1).mono ?_
  rintro e w2 ⟨rfl, hd⟩
  have B2 := Aside0.mk (B1.out.trans (hd.below.mono B1.out.size))
  have K2 := Aside0.mk (blk_below K1.out hd.below)
  have HS := Aside0.mk hb2
  clear hd hb1 hb2 B1 K1
  cases b with
  | true =>
    go_wp2_with fail
    go_ret
    exact ⟨rfl, B2.out⟩
  | false =>
  have hS := HS.out rfl
  have HSS := Aside0.mk hS
  have HSZ := Aside0.mk hS.sized
  clear HS hS
  by_cases hn1 : (150 : Int) < (name.size : Int)
  · go_wp2_with fail
    go_ret
    exact ⟨rfl, B2.out⟩
  have hn4 : name.size ≤ 4000 := by omega
  have y2 := (blk_cell K2.out 2).trans (show _ = some (Value.slice A1 tx.length c1) from rfl)
  by_cases hv1 : (2000 : Int) < (tx.length : Int)
  · go_wp2_with fail
    go_ret
    exact ⟨rfl, B2.out⟩
  go_wp2_with fail
  refine (Copy_calls l A0 c0 w2 (Kd.C_below HC.out B2.out) hc0 (by have := HSS.out.len; omega) (fun x hx => ⟨by have := (HSS.out.at hx).vers; omega, fun y hy => by have := (HSS.out.at hx).txt hy; omega⟩)).mono ?_
  rintro e w3 ⟨v3, rfl, ps, hps, hcp, hb⟩
  obtain ⟨A3, c3, rfl, hRd⟩ := hcp.rd
  have HPS := Aside0.mk hps
  have HCP3 := Aside0.mk hcp
  rw [hps] at hRd HCP3 ⊢
  have HOWN3 := Aside0.mk hRd
  have hbg := blk_lt K2.out
  have B3 := Aside0.mk (B2.out.trans (hb.mono B2.out.size))
  have K3 := Aside0.mk (blk_below K2.out hb)
  have HSAME := Aside0.mk (show scriniumref22_Same.f 3000 l l = some true from SameL_is l (by have := HSS.out.len; omega) (fun s hs => ⟨by have := (HSS.out.at hs).vers; omega, fun x hx => (HSS.out.at hs).txt hx⟩))
  clear hb hps hcp hRd y2 K2 B2
  go_wp2_with fail
  refine (scriniumref22_Same.calls 3000 A3 c3 l A0 c0 l true w3 HOWN3.out.C HOWN3.out.le (Kd.C_below HC.out B3.out) hc0 HSAME.out).mono ?_
  rintro e w4 ⟨rfl, hb⟩
  have B4 := Aside0.mk (B3.out.trans (hb.mono B3.out.size))
  have K4 := Aside0.mk (blk_below K3.out hb)
  have HOWN4 := Aside0.mk (HOWN3.out.below hb)
  have HCP4 := Aside0.mk (HCP3.out.below hb)
  clear hb K3 B3 HOWN3
  go_wp2_with fail
  refine (MRight_calls l A0 c0 w4 (Kd.C_below HC.out B4.out) hc0 (by have := HSS.out.len; omega) (fun s hs => by have := (HSS.out.at hs).name; omega) (tabs_below HT.out B4.out)).mono ?_
  rintro e w5 ⟨⟨b1, rfl, hb1⟩, hb⟩
  have HB1 := Aside0.mk hb1
  have B5 := Aside0.mk (B4.out.trans (hb.mono B4.out.size))
  have K5 := Aside0.mk (blk_below K4.out hb)
  have HOWN5 := Aside0.mk (HOWN4.out.below hb)
  have HCP5 := Aside0.mk (HCP4.out.below hb)
  clear hb hb1 K4 B4 HOWN4
  go_wp2_with fail
  obtain ⟨b2, hb2, hb3⟩ := refRight_is l (fun s hs => ⟨by have := (HSS.out.at hs).name; omega, by have := (HSS.out.at hs).vers; omega⟩)
  refine (scriniumref22_Right.calls 20000 A0 c0 l b2 w5 (Kd.C_below HC.out B5.out) hc0 hb2).mono ?_
  rintro e w6 ⟨rfl, hb⟩
  have B6 := Aside0.mk (B5.out.trans (hb.mono B5.out.size))
  have K6 := Aside0.mk (blk_below K5.out hb)
  have HOWN6 := Aside0.mk (HOWN5.out.below hb)
  have HCP6 := Aside0.mk (HCP5.out.below hb)
  have hbb : b1 = b2 := by
    have h1 := HB1.out
    cases b1 <;> cases b2 <;> simp_all
  clear hb hb2 hb3 HB1 K5 B5 HOWN5
  subst hbb
  have hbn : (b1 != b1) = false := by simp
  have z1 := blk_frozen K6.out 1
  have y1 := (blk_cell K6.out 1).trans (show _ = some (Value.bool gone) from rfl)
  have K7 := Aside0.mk (blk_put K6.out 1 (.bool false) rfl)
  have B7 := Aside0.mk (below_set (j := 1) (v := .bool false) B6.out (Nat.le_refl _))
  have HCP7 := Aside0.mk (HCP6.out.far (p := ⟨w.heap.size, 1, none⟩) hbg (.bool false))
  clear HCP3 HCP4 HCP5 HCP6 HOWN6 K6 B6
  go_upto_region 9 with fail
  generalize w6.setCell ⟨w.heap.size, 1, none⟩ (.bool false) = w7 at K7 B7 HCP7 ⊢
  have HOWN7 := Aside0.mk (HCP7.out.rd' HPS.out)
  clear y1 z1 HCP7
  have X0 := Aside0.mk ((blk_cell K7.out 0).trans (show _ = some (Value.int .i64 num) from rfl))
  have X2 := Aside0.mk ((blk_cell K7.out 2).trans (show _ = some (Value.slice A1 tx.length c1) from rfl))
  refine wp_region_noPanic ?_
  refine wp_region_held_drew (S := fun W => Below w7.heap.size w7 W) (by kernel_rfl) (below_drew (Below.refl _ _)) (fun hHeld => ?_)
  have B8 : Aside0 (Below w7.heap.size w7 w7.drew) := ⟨below_drew (Below.refl _ _)⟩
  generalize w7.drew = w8 at hHeld B8 ⊢
  refine wpAnyH_take (i := 0) (oi := { dst := some 46, op := _, type := _, pos := _, after := _, guard := _ }) (v := ?_) rfl (by kernel_rfl) (by kernel_rfl) (by kernel_rfl) (fun _ _ _ h => h) (Or.inl ⟨by rfl, ?_⟩) hHeld ?_
  rotate_left
  · (intro w hSw; have s0 := pw_cell_below hSw X0.out; have s2 := pw_cell_below hSw X2.out; go_simp) <;> (with_reducible rfl)
  try simp only [Act.put, List.setIfInBounds_toArray, List.set_cons_zero, List.set_cons_succ]
  refine wpAnyH_take (i := 1) (oi := { dst := some 47, op := _, type := _, pos := _, after := _, guard := _ }) (v := ?_) rfl (by kernel_rfl) (by kernel_rfl) (by kernel_rfl) (fun _ _ _ h => h) (Or.inl ⟨by rfl, ?_⟩) hHeld ?_
  rotate_left
  · (intro w hSw; have s0 := pw_cell_below hSw X0.out; have s2 := pw_cell_below hSw X2.out; go_simp) <;> (with_reducible rfl)
  try simp only [Act.put, List.setIfInBounds_toArray, List.set_cons_zero, List.set_cons_succ]
  refine wpAnyH_take (i := 2) (oi := { dst := some 48, op := _, type := _, pos := _, after := _, guard := _ }) (v := ?_) rfl (by kernel_rfl) (by kernel_rfl) (by kernel_rfl) (fun _ _ _ h => h) (Or.inl ⟨by rfl, ?_⟩) hHeld ?_
  rotate_left
  · (intro w hSw; have s0 := pw_cell_below hSw X0.out; have s2 := pw_cell_below hSw X2.out; go_simp) <;> (with_reducible rfl)
  try simp only [Act.put, List.setIfInBounds_toArray, List.set_cons_zero, List.set_cons_succ]
  refine wpAnyH_take (i := 3) (oi := { dst := some 49, op := _, type := _, pos := _, after := _, guard := _ }) (v := ?_) rfl (by kernel_rfl) (by kernel_rfl) (by kernel_rfl) (fun _ _ _ h => h) (Or.inl ⟨by rfl, ?_⟩) hHeld ?_
  rotate_left
  · (intro w hSw; have s0 := pw_cell_below hSw X0.out; have s2 := pw_cell_below hSw X2.out; go_simp) <;> (with_reducible rfl)
  try simp only [Act.put, List.setIfInBounds_toArray, List.set_cons_zero, List.set_cons_succ]
  refine wpAnyH_take (i := 5) (oi := { dst := some 51, op := _, type := _, pos := _, after := _, guard := _ }) (v := ?_) rfl (by kernel_rfl) (by kernel_rfl) (by kernel_rfl) (fun _ _ _ h => h) (Or.inl ⟨by rfl, ?_⟩) hHeld ?_
  rotate_left
  · (intro w hSw; have s0 := pw_cell_below hSw X0.out; have s2 := pw_cell_below hSw X2.out; go_simp) <;> (with_reducible rfl)
  try simp only [Act.put, List.setIfInBounds_toArray, List.set_cons_zero, List.set_cons_succ]
  refine wpAnyH_take (i := 6) (oi := { dst := some 52, op := _, type := _, pos := _, after := _, guard := _ }) (v := ?_) rfl (by kernel_rfl) (by kernel_rfl) (by kernel_rfl) (fun _ _ _ h => h) (Or.inl ⟨by rfl, ?_⟩) hHeld ?_
  rotate_left
  · (intro w hSw; have s0 := pw_cell_below hSw X0.out; have s2 := pw_cell_below hSw X2.out; go_simp) <;> (with_reducible rfl)
  try simp only [Act.put, List.setIfInBounds_toArray, List.set_cons_zero, List.set_cons_succ]
  refine wpAnyH_ready (rs := [4]) (by kernel_rfl) (by simp) (AllReadyH.cons (o := { dst := some 50, op := _, type := _, pos := _, after := _, guard := _ }) rfl (fun K hK => ?_) AllReadyH.nil)
  go_simp
  refine hK.out _ _ (below_alloc B8.out _) (fun hHeld2 => ?_)
  clear hK K hHeld
  have hHeld := hHeld2
  clear hHeld2
  try simp only [Act.put, List.setIfInBounds_toArray, List.set_cons_zero, List.set_cons_succ]
  refine wpAnyH_ready (rs := [7]) (by kernel_rfl) (by simp) (AllReadyH.cons (o := { dst := some 53, op := _, type := _, pos := _, after := _, guard := _ }) rfl (fun K hK => ?_) AllReadyH.nil)
  refine Kd.N_append_rows_step (Kd.int .u8) (w0 := w8) w8.heap.size ?_ (.tmp 50) (.tmp 52) 23 5 (.int .u8 0) 1 rfl Tryd.underlying23 info5 rfl (by decide) (by decide) (.slice (some ⟨w8.heap.size, 0, none⟩) 0 0) ([] : List Int) tx A1 tx.length c1 (fun _ => True) (fun k => k < w8.heap.size) rfl rfl ?_ ?_ ?_ (fun _ _ => trivial) (below_alloc (Below.refl _ _) _) ?_ ?_ ?_
  · rfl
  · exact Kd.R_N (Kd.R_of_own (World.ownsRow_made w8 #[] 0 (Nat.le_refl _) (Nat.zero_le _) rfl) (fun _ _ => trivial))
  · exact Kd.F_alloc (Kd.C_F (Kd.heap_int .u8) (Kd.C_below HV.out (B7.out.trans (B8.out.mono B7.out.size)))) _
  · exact fun k hk => ⟨trivial, fun h => by simp [Value.ownBlock] at h; omega⟩
  · rw [alloc_size]; omega
  · simp only [List.length_nil]; omega
  intro v1 w9 ho hbl hg hat
  rw [List.nil_append] at ho
  obtain ⟨A9, c9, rfl, hc9, hC9⟩ := Kd.N_reads ho
  have HC9 := Aside0.mk hC9
  have B9 := Aside0.mk (B8.out.trans (hbl.mono B8.out.size))
  clear ho hbl hg hat hC9
  refine hK.out _ _ (B9.out) (fun hHeld2 => ?_)
  clear hK K hHeld
  have hHeld := hHeld2
  clear hHeld2
  try simp only [Act.put, List.setIfInBounds_toArray, List.set_cons_zero, List.set_cons_succ]
  refine wpAnyH_ready (rs := [8]) (by kernel_rfl) (by simp) (AllReadyH.cons (o := { dst := some 54, op := _, type := _, pos := _, after := _, guard := _ }) rfl (fun K hK => ?_) AllReadyH.nil)
  go_simp
  refine (Put_calls l name num tx A3 c3 A9 c9 w9 (HOWN7.out.below B9.out).C (HOWN7.out.below B9.out).le HSZ.out hn4 HC9.out hc9 (by omega) (tabs_below HT.out (B7.out.trans (B9.out.mono B7.out.size)))).mono ?_
  rintro e w10 ⟨he, hbl⟩
  obtain ⟨ra, za, Aa, ca, rfl, hPa, hRa⟩ := he.rd
  have HPA := Aside0.mk hPa
  have HRA := Aside0.mk hRa
  have B10 := Aside0.mk (B9.out.trans (hbl.mono B9.out.size))
  clear he hbl hPa hRa
  refine hK.out _ _ (B10.out) (fun hHeld2 => ?_)
  clear hK K hHeld
  have hHeld := hHeld2
  clear hHeld2
  try simp only [Act.put, List.setIfInBounds_toArray, List.set_cons_zero, List.set_cons_succ]
  refine wpAnyH_take (i := 9) (oi := { dst := some 45, op := _, type := _, pos := _, after := _, guard := _ }) (v := ?_) rfl (by kernel_rfl) (by kernel_rfl) (by kernel_rfl) (fun _ _ _ h => h) (Or.inl ⟨by rfl, ?_⟩) hHeld ?_
  rotate_left
  · (intro w hSw; have s0 := pw_cell_below hSw X0.out; have s2 := pw_cell_below hSw X2.out; go_simp) <;> (with_reducible rfl)
  try simp only [Act.put, List.setIfInBounds_toArray, List.set_cons_zero, List.set_cons_succ]
  refine wpAnyH_take (i := 10) (oi := { dst := some 55, op := _, type := _, pos := _, after := _, guard := _ }) (v := ?_) rfl (by kernel_rfl) (by kernel_rfl) (by kernel_rfl) (fun _ _ _ h => h) (Or.inl ⟨by rfl, ?_⟩) hHeld ?_
  rotate_left
  · (intro w hSw; have s0 := pw_cell_below hSw X0.out; have s2 := pw_cell_below hSw X2.out; go_simp) <;> (with_reducible rfl)
  try simp only [Act.put, List.setIfInBounds_toArray, List.set_cons_zero, List.set_cons_succ]
  refine wpAnyH_take (i := 11) (oi := { dst := some 56, op := _, type := _, pos := _, after := _, guard := _ }) (v := ?_) rfl (by kernel_rfl) (by kernel_rfl) (by kernel_rfl) (fun _ _ _ h => h) (Or.inl ⟨by rfl, ?_⟩) hHeld ?_
  rotate_left
  · (intro w hSw; have s0 := pw_cell_below hSw X0.out; have s2 := pw_cell_below hSw X2.out; go_simp) <;> (with_reducible rfl)
  try simp only [Act.put, List.setIfInBounds_toArray, List.set_cons_zero, List.set_cons_succ]
  refine wpAnyH_take (i := 12) (oi := { dst := some 8, op := _, type := _, pos := _, after := _, guard := _ }) (v := ?_) rfl (by kernel_rfl) (by kernel_rfl) (by kernel_rfl) (fun _ _ _ h => h) (Or.inl ⟨by rfl, ?_⟩) hHeld ?_
  rotate_left
  · (intro w hSw; have s0 := pw_cell_below hSw X0.out; have s2 := pw_cell_below hSw X2.out; go_simp) <;> (with_reducible rfl)
  try simp only [Act.put, List.setIfInBounds_toArray, List.set_cons_zero, List.set_cons_succ]
  refine wpAnyH_take (i := 13) (oi := { dst := some 9, op := _, type := _, pos := _, after := _, guard := _ }) (v := ?_) rfl (by kernel_rfl) (by kernel_rfl) (by kernel_rfl) (fun _ _ _ h => h) (Or.inl ⟨by rfl, ?_⟩) hHeld ?_
  rotate_left
  · (intro w hSw; have s0 := pw_cell_below hSw X0.out; have s2 := pw_cell_below hSw X2.out; go_simp) <;> (with_reducible rfl)
  try simp only [Act.put, List.setIfInBounds_toArray, List.set_cons_zero, List.set_cons_succ]
  refine wpAnyH_done (by kernel_rfl) ?_ _
  refine NoPanic.normal ?_
  have BB10 := Aside0.mk (B7.out.trans (B10.out.mono B7.out.size))
  have K10 := Aside0.mk (blk_below K7.out B10.out)
  have HOWN10 := Aside0.mk (HOWN7.out.below B10.out)
  clear X0 X2 HC9 B8 B9 K7 HOWN7 hHeld
  have y0 := (blk_cell K10.out 0).trans (show _ = some (Value.int .i64 num) from rfl)
  have y1 := (blk_cell K10.out 1).trans (show _ = some (Value.bool false) from rfl)
  have y2 := (blk_cell K10.out 2).trans (show _ = some (Value.slice A1 tx.length c1) from rfl)
  have HZL := Aside0.mk (show ∀ s, s ∈ l → s.f0.size ≤ 4000 ∧ s.f1.length ≤ 100 from fun s hs => ⟨by have := (HSS.out.at hs).name; omega, by have := (HSS.out.at hs).vers; omega⟩)
  have hl400 : l.length ≤ 400 := by have := HSS.out.len; omega
  go_wp2_with fail
  refine (refWith_calls l name ⟨num, false, tx⟩ A0 c0 A1 c1 w10 (Kd.C_below HC.out BB10.out) hc0 hl400 HZL.out hn4 (Kd.C_below HV.out BB10.out) hcv).mono ?_
  rintro e w11 ⟨⟨rb, zb, Ab, cb, rfl, hPb, hRb⟩, hb⟩
  have hun := HPA.out.unique hPb
  clear hPb
  obtain ⟨rfl, rfl⟩ := hun
  have HOA := Aside0.mk (HPA.out.out (fun h => by cases h) (fun s hs => (HSS.out.at hs).name) (by omega))
  have RA11 := Aside0.mk (HRA.out.below hb)
  have RB11 := Aside0.mk hRb
  have B11 := Aside0.mk (BB10.out.trans (hb.mono BB10.out.size))
  have K11 := Aside0.mk (blk_below K10.out hb)
  have HOWN11 := Aside0.mk (HOWN10.out.below hb)
  clear hb hRb HPA HRA y0 y1 y2 K10 BB10 HOWN10 B10
  have y0 := (blk_cell K11.out 0).trans (show _ = some (Value.int .i64 num) from rfl)
  go_wp2_with fail
  refine (MDelete_calls l name num A3 c3 w11 HOWN11.out.C HOWN11.out.le HSZ.out hn4 (tabs_below HT.out B11.out)).mono ?_
  rintro e w12 ⟨he, hb⟩
  obtain ⟨rc, zc, Ac, cc, rfl, hPc, hRc⟩ := he.rd
  have HPC := Aside0.mk hPc
  have RA12 := Aside0.mk (RA11.out.below hb)
  have RB12 := Aside0.mk (RB11.out.below hb)
  have RC12 := Aside0.mk hRc
  have B12 := Aside0.mk (B11.out.trans (hb.mono B11.out.size))
  have K12 := Aside0.mk (blk_below K11.out hb)
  have HOWN12 := Aside0.mk (HOWN11.out.below hb)
  clear hb he hPc hRc y0 K11 B11 HOWN11 RA11 RB11
  have y0 := (blk_cell K12.out 0).trans (show _ = some (Value.int .i64 num) from rfl)
  go_wp2_with fail
  refine (refWith_calls l name ⟨num, true, []⟩ A0 c0 none 0 w12 (Kd.C_below HC.out B12.out) hc0 hl400 HZL.out hn4 (Kd.C_nil _ _) (Nat.le_refl _)).mono ?_
  rintro e w13 ⟨⟨rd, zd, Ad, cd, rfl, hPd, hRd⟩, hb⟩
  have hun := HPC.out.unique hPd
  clear hPd
  obtain ⟨rfl, rfl⟩ := hun
  have HOC := Aside0.mk (HPC.out.out (fun _ => rfl) (fun s hs => (HSS.out.at hs).name) (by omega))
  have RA13 := Aside0.mk (RA12.out.below hb)
  have RB13 := Aside0.mk (RB12.out.below hb)
  have RC13 := Aside0.mk (RC12.out.below hb)
  have RD13 := Aside0.mk hRd
  have B13 := Aside0.mk (B12.out.trans (hb.mono B12.out.size))
  have HOWN13 := Aside0.mk (HOWN12.out.below hb)
  clear hb hRd HPC y0 K12 B12 HOWN12 RA12 RB12 RC12
  have hza : (za == za) = true := by simp
  have hzc : (zc == zc) = true := by simp
  go_wp2_with fail
  refine (scriniumref22_Same.calls 3000 Aa ca ra Ab cb ra true w13 RA13.out.C RA13.out.le RB13.out.C RB13.out.le HOA.out.same).mono ?_
  rintro e w14 ⟨rfl, hb⟩
  have RA14 := Aside0.mk (RA13.out.below hb)
  have RC14 := Aside0.mk (RC13.out.below hb)
  have RD14 := Aside0.mk (RD13.out.below hb)
  have B14 := Aside0.mk (B13.out.trans (hb.mono B13.out.size))
  have HOWN14 := Aside0.mk (HOWN13.out.below hb)
  clear hb B13 HOWN13 RA13 RB13 RC13 RD13
  go_wp2_with fail
  refine (scriniumref22_Same.calls 3000 Ac cc rc Ad cd rc true w14 RC14.out.C RC14.out.le RD14.out.C RD14.out.le HOC.out.same).mono ?_
  rintro e w15 ⟨rfl, hb⟩
  have RA15 := Aside0.mk (RA14.out.below hb)
  have RC15 := Aside0.mk (RC14.out.below hb)
  have B15 := Aside0.mk (B14.out.trans (hb.mono B14.out.size))
  have HOWN15 := Aside0.mk (HOWN14.out.below hb)
  clear hb B14 HOWN14 RA14 RC14 RD14
  go_wp2_with fail
  refine (scriniumref22_Same.calls 3000 A3 c3 l A0 c0 l true w15 HOWN15.out.C HOWN15.out.le (Kd.C_below HC.out B15.out) hc0 HSAME.out).mono ?_
  rintro e w16 ⟨rfl, hb⟩
  have RA16 := Aside0.mk (RA15.out.below hb)
  have RC16 := Aside0.mk (RC15.out.below hb)
  have B16 := Aside0.mk (B15.out.trans (hb.mono B15.out.size))
  clear hb B15 HOWN15 RA15 RC15
  by_cases ha : za = 0
  · subst ha
    go_wp2_with fail
    refine (scriniumref22_Right.calls 20000 Aa ca ra true w16 RA16.out.C RA16.out.le (HOA.out.refRight rfl)).mono ?_
    rintro e w17 ⟨rfl, hb⟩
    have RC17 := Aside0.mk (RC16.out.below hb)
    have B17 := Aside0.mk (B16.out.trans (hb.mono B16.out.size))
    clear hb
    by_cases hc : zc = 0
    · subst hc
      go_wp2_with fail
      refine (scriniumref22_Right.calls 20000 Ac cc rc true w17 RC17.out.C RC17.out.le (HOC.out.refRight rfl)).mono ?_
      rintro e w18 ⟨rfl, hb⟩
      have B18 := Aside0.mk (B17.out.trans (hb.mono B17.out.size))
      clear hb
      go_wp2_with fail
      go_ret
      exact ⟨rfl, B18.out⟩
    · have hc1 : (zc != 0) = true := by rw [bne_iff_ne]; exact hc
      go_wp2_with fail
      go_ret
      exact ⟨rfl, B17.out⟩
  · have ha1 : (za != 0) = true := by rw [bne_iff_ne]; exact ha
    by_cases hc : zc = 0
    · subst hc
      go_wp2_with fail
      refine (scriniumref22_Right.calls 20000 Ac cc rc true w16 RC16.out.C RC16.out.le (HOC.out.refRight rfl)).mono ?_
      rintro e w18 ⟨rfl, hb⟩
      have B18 := Aside0.mk (B16.out.trans (hb.mono B16.out.size))
      clear hb
      go_wp2_with fail
      go_ret
      exact ⟨rfl, B18.out⟩
    · have hc1 : (zc != 0) = true := by rw [bne_iff_ne]; exact hc
      go_wp2_with fail
      go_ret
      exact ⟨rfl, B16.out⟩
end Go.Proofs.YtkabjbkefoipnaaDoor.Md
