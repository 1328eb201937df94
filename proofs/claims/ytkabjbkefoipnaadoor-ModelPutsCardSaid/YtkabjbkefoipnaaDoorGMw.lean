import Derived.Test.YtkabjbkefoipnaaDoorGMf
import Derived.Test.YtkabjbkefoipnaaDoorGIn2
namespace Go.Proofs.YtkabjbkefoipnaaDoor.Md
open Go.Lib Go.RowKit Go.Proofs.YtkabjbkefoipnaaDoorW.PrintWords Go.Proofs.YtkabjbkefoipnaaDoorW.PrintLast Go.Proofs.YtkabjbkefoipnaaDoorW.PrintMore Go.Proofs.YtkabjbkefoipnaaDoor.PM Go.Proofs.YtkabjbkefoipnaaDoor.Nm
set_option linter.unusedVariables false
set_option linter.unusedSimpArgs false
def WithE (l : List Sc) (name : ByteArray) (v : Kn) (w w' : World) (e : Ending) : Prop := ∃ (r : List Sc) (z : Int) (u : Value) (ps : List (Sc × Hdr)), e = .returned (.tuple #[u, .int .i64 z]) ∧ WithP l name v r z ∧ ps.map Prod.fst = r ∧ Cp w' w.heap.size u ps
theorem WithE.nil {l : List Sc} {name : ByteArray} {v : Kn} {w w' : World} {z : Int} (h : WithP l name v [] z) : WithE l name v w w' (.returned (.tuple #[.slice none 0 0, .int .i64 z])) := ⟨[], z, _, [], rfl, h, rfl, Cp.nil _ _⟩
theorem Cp.lower {w : World} {base base' : Nat} {v : Value} {ps : List (Sc × Hdr)} (h : Cp w base v ps) (hb : base' ≤ base) : Cp w base' v ps := ⟨Kd.R_lower h.row hb, fun p hp => Kd.R_lower (h.ver p hp) hb, h.apart⟩
theorem was_there {l : List Sc} {i : Nat} (h : i < l.length) : wasV l i true = l[i].f1 := by unfold wasV; rw [if_pos rfl, List.getElem?_eq_getElem h]; rfl
theorem was_not (l : List Sc) (i : Nat) : wasV l i false = [] := rfl
theorem lastV_get {l : List Kn} (h : 0 < l.length) : lastV l = l[l.length - 1]'(by omega) := by
  unfold lastV
  rw [List.getLast?_eq_getElem?, List.getElem?_eq_getElem (by omega)]
  rfl
theorem more_there {l : List Sc} {name : ByteArray} {v : Kn} {i : Nat} (h : i < l.length) : moreL l name v i true = l.set i ⟨l[i].f0, cutV (l[i].f1 ++ [v])⟩ := by
  unfold moreL
  rw [if_pos rfl, was_there h, List.getElem?_eq_getElem h]
  rfl
set_option maxRecDepth 20000 in
set_option maxHeartbeats 8000000 in
theorem with_calls (l : List Sc) (name : ByteArray) (v : Kn) (A : Option Addr) (c : Nat) (A2 : Option Addr) (c2 : Nat) (w : World) (hr : kS.C w A l.length l) (hc : l.length ≤ c) (hl : l.length ≤ 400) (hx : ∀ x, x ∈ l → x.f0.size ≤ 4000 ∧ x.f1.length ≤ 1000 ∧ ∀ y, y ∈ x.f1 → y.f2.length ≤ 100000)
    (hn : name.size ≤ 4000) (hv : Bs.C w A2 v.f2.length v.f2) (hvc : v.f2.length ≤ c2) (hvl : v.f2.length ≤ 100000) (hT : Lib.Utf8Tabs 0 1 w) :
    Calls Tryd.prog 39 #[.slice A l.length c, .string name, kv v (.slice A2 v.f2.length c2)] w fun e w' => WithE l name v w w' e ∧ Below w.heap.size w w' := by
  obtain ⟨vn, vg, vt⟩ := v
  dsimp only at hv hvc hvl ⊢
  have HC := Aside0.mk hr
  have HX := Aside0.mk hx
  have HT := Aside0.mk hT
  have HV := Aside0.mk hv
  have K1 := Aside0.mk (blk_new w (.cells #[.int .i64 vn, .bool vg, .slice A2 vt.length c2] 25))
  have B1 := Aside0.mk (below_alloc (Below.refl w.heap.size w) (.cells #[.int .i64 vn, .bool vg, .slice A2 vt.length c2] 25))
  have S1 := Aside0.mk (show w.heap.size < (w.alloc (.cells #[.int .i64 vn, .bool vg, .slice A2 vt.length c2] 25)).heap.size by rw [alloc_size]; omega)
  clear hr hx hT hv
  have mixed : Tryd.prog.follows Departure.mixedOrders = true := by kernel_rfl
  go_enter Tryd.func39, Tryd.ntmps39
  go_wp2_with fail
  generalize w.alloc (.cells #[.int .i64 vn, .bool vg, .slice A2 vt.length c2] 25) = w1 at K1 B1 S1 ⊢
  refine (Right_calls name w1 (by omega)).mono ?_
  rintro e w2 ⟨rfl, hb2⟩
  have B2 := Aside0.mk (B1.out.trans (hb2.mono B1.out.size))
  have K2 := Aside0.mk (blk_below K1.out hb2)
  have S2 := Aside0.mk (Nat.lt_of_lt_of_le S1.out hb2.size)
  clear hb2 K1 B1 S1
  cases hrn : right (runes (BL name)) with
  | false =>
    go_wp2_with fail
    go_ret2
    exact ⟨.nil (.name hrn), B2.out⟩
  | true =>
  have HRN := Aside0.mk (show rightN name = true from hrn)
  clear hrn
  go_wp2_with fail
  refine (MRight_calls l A c w2 (Kd.C_below HC.out B2.out) hc (by omega) (fun s hs => (HX.out s hs).1) (tabs_below HT.out B2.out)).mono ?_
  rintro e w3 ⟨he, hb3⟩
  have B3 := Aside0.mk (B2.out.trans (hb3.mono B2.out.size))
  have K3 := Aside0.mk (blk_below K2.out hb3)
  have S3 := Aside0.mk (Nat.lt_of_lt_of_le S2.out hb3.size)
  clear hb3 K2 B2 S2
  have y0 : w3.cell? ⟨w.heap.size, 0, none⟩ = some (.int .i64 vn) := (blk_cell K3.out 0).trans rfl
  by_cases hR : RightP l
  · obtain rfl := he.is_yes hR
    have HR := Aside0.mk hR
    clear he hR
    by_cases n1 : vn < 1
    · go_wp2_with fail
      go_ret2
      exact ⟨.nil (.arg HRN.out (fun h => by have := h.2.1; dsimp only at this; omega)), B3.out⟩
    by_cases n2 : 200 < vn
    · go_wp2_with fail
      go_ret2
      exact ⟨.nil (.arg HRN.out (fun h => by have := h.2.2; dsimp only at this; omega)), B3.out⟩
    go_wp2_with fail
    refine (find_calls l name A c w3 (Kd.C_below HC.out B3.out) hc (by omega) (fun s hs => (HX.out s hs).1) hn HR.out (tabs_below HT.out B3.out)).mono ?_
    rintro e w4 ⟨⟨i, t, rfl, hf⟩, hb4⟩
    have B4 := Aside0.mk (B3.out.trans (hb4.mono B3.out.size))
    have K4 := Aside0.mk (blk_below K3.out hb4)
    have S4 := Aside0.mk (Nat.lt_of_lt_of_le S3.out hb4.size)
    have HF := Aside0.mk hf
    clear hb4 K3 B3 S3 y0 hf
    have G5 := Aside0.mk (blk_new w4 (.cells #[.int .i64 0, .bool true, .slice none 0 0] 25))
    have K5 := Aside0.mk (blk_alloc K4.out (.cells #[.int .i64 0, .bool true, .slice none 0 0] 25))
    have B5 := Aside0.mk (below_alloc B4.out (.cells #[.int .i64 0, .bool true, .slice none 0 0] 25))
    have S5 := Aside0.mk (show w.heap.size < (w4.alloc (.cells #[.int .i64 0, .bool true, .slice none 0 0] 25)).heap.size by rw [alloc_size]; have := S4.out; omega)
    have HGE := Aside0.mk B4.out.size
    have HWG := Aside0.mk (show w.heap.size ≠ w4.heap.size from Nat.ne_of_lt S4.out)
    cases t with
    | true =>
      obtain ⟨hil, hpe⟩ := HF.out.yes rfl
      clear hpe
      have hci : (i : Int) < (l.length : Int) := by omega
      obtain ⟨ad, A1, c1, e9, hx0, hx1, hl1, hC1⟩ := at_T39 HC.out i (Int.natCast_nonneg _) hci
      cases e9
      rw [rdS l i hil, Int.toNat_natCast] at hx1
      rw [rdS l i hil] at hl1 hC1
      have hpos : 1 ≤ l[i].f1.length := (HR.out.at i hil).pos
      have hmost : l[i].f1.length ≤ 4 := (HR.out.at i hil).most
      have HLA := Aside0.mk (show lastV l[i].f1 = lastV (wasV l i true) by rw [was_there hil])
      generalize l[i].f1 = ws at hx1 hl1 hC1 hpos hmost HLA
      have hla := lastV_get (l := ws) (by omega)
      generalize lastV ws = la at HLA hla
      obtain ⟨ad1, A3, c3, e9, hy0, hy1, hy2, _, _⟩ := at_T25 hC1 ((ws.length : Int) - 1) (by omega) (by omega)
      cases e9
      rw [show ((ws.length : Int) - 1) = ((ws.length - 1 : Nat) : Int) by omega, rdK ws _ (by omega), Int.toNat_natCast, ← hla] at hy0 hy1 hy2
      clear hla hx0 hC1
      have b1 : (ad.add (i * 2)).block < w.heap.size := World.block_lt_of_cell? w ⟨(ad.add (i * 2)).block, (ad.add (i * 2)).off + 1, none⟩ hx1
      have b2 : (ad1.add ((ws.length - 1) * 3)).block < w.heap.size := World.block_lt_of_cell? w _ hy0
      have X0 := Aside0.mk (pw_cell_below B5.out hx1)
      have X1 := Aside0.mk (pw_cell_below B5.out hy0)
      have X2 := Aside0.mk (pw_cell_below B5.out hy1)
      have X3 := Aside0.mk (pw_cell_below B5.out hy2)
      have N0 := Aside0.mk (show some (ad.add (i * 2)).block ≠ some w4.heap.size from fun e => by injection e with e; have := HGE.out; omega)
      have N1 := Aside0.mk (show some (ad1.add ((ws.length - 1) * 3)).block ≠ some w4.heap.size from fun e => by injection e with e; have := HGE.out; omega)
      clear hx1 hy0 hy1 hy2 b1 b2
      go_wp2_with fail
      generalize w4.alloc (.cells #[.int .i64 0, .bool true, .slice none 0 0] 25) = w5 at G5 K5 B5 S5 X0 X1 X2 X3 ⊢
      generalize w4.heap.size = gl at G5 HGE HWG N0 N1 ⊢
      have G6 := Aside0.mk (blk_drew G5.out)
      have K6 := Aside0.mk (blk_drew K5.out)
      have B6 := Aside0.mk (below_drew B5.out)
      have S6 := Aside0.mk (show w.heap.size < w5.drew.heap.size from S5.out)
      replace X0 := Aside0.mk (show w5.drew.cell? _ = _ from X0.out)
      replace X1 := Aside0.mk (show w5.drew.cell? _ = _ from X1.out)
      replace X2 := Aside0.mk (show w5.drew.cell? _ = _ from X2.out)
      replace X3 := Aside0.mk (show w5.drew.cell? _ = _ from X3.out)
      clear G5 K5 B5 S5
      have hq0 : (0 : Int) ≤ (ws.length : Int) - 1 := by omega
      have hq1 : (ws.length : Int) - 1 < (ws.length : Int) := by omega
      have hq2 : (1 : Int) ≤ (ws.length : Int) := by omega
      have hwm : IntKind.i64.wrap ((ws.length : Int) - 1) = (ws.length : Int) - 1 := by rw [i64_w]; unfold wrap64; omega
      refine wp_region_noPanic ?_
      refine wp_region_held_drew (S := fun W => w5.drew.grownBy W (some gl)) (by kernel_rfl) (⟨rfl, rfl, rfl, Nat.le_refl _, fun _ _ _ => rfl⟩) (fun hHeld => ?_)
      generalize w5.drew = w6 at G6 K6 B6 S6 X0 X1 X2 X3 hHeld ⊢
      refine wpAnyH_take (i := 0) (oi := { dst := some 39, op := _, type := _, pos := _, after := _, guard := _ }) (v := ?_) rfl (by kernel_rfl) (by kernel_rfl) (by kernel_rfl) (fun _ _ _ h => h) (Or.inl ⟨by rfl, ?_⟩) hHeld ?_
      rotate_left
      · (intro w hSw; go_simp) <;> (with_reducible rfl)
      try simp only [Act.put, List.setIfInBounds_toArray, List.set_cons_zero, List.set_cons_succ]
      refine wpAnyH_take (i := 1) (oi := { dst := some 40, op := _, type := _, pos := _, after := _, guard := _ }) (v := ?_) rfl (by kernel_rfl) (by kernel_rfl) (by kernel_rfl) (fun _ _ _ h => h) (Or.inl ⟨by rfl, ?_⟩) hHeld ?_
      rotate_left
      · (intro w hSw; go_simp) <;> (with_reducible rfl)
      try simp only [Act.put, List.setIfInBounds_toArray, List.set_cons_zero, List.set_cons_succ]
      refine wpAnyH_take (i := 2) (oi := { dst := some 41, op := _, type := _, pos := _, after := _, guard := _ }) (v := ?_) rfl (by kernel_rfl) (by kernel_rfl) (by kernel_rfl) (fun _ _ _ h => h) (Or.inl ⟨by rfl, ?_⟩) hHeld ?_
      rotate_left
      · (intro w hSw; go_simp) <;> (with_reducible rfl)
      try simp only [Act.put, List.setIfInBounds_toArray, List.set_cons_zero, List.set_cons_succ]
      refine wpAnyH_take (i := 3) (oi := { dst := some 42, op := _, type := _, pos := _, after := _, guard := _ }) (v := ?_) rfl (by kernel_rfl) (by kernel_rfl) (by kernel_rfl) (fun _ _ _ h => h) (Or.inl ⟨by rfl, ?_⟩) hHeld ?_
      rotate_left
      · (intro w hSw; go_simp) <;> (with_reducible rfl)
      try simp only [Act.put, List.setIfInBounds_toArray, List.set_cons_zero, List.set_cons_succ]
      refine wpAnyH_take (i := 4) (oi := { dst := some 43, op := _, type := _, pos := _, after := _, guard := _ }) (v := ?_) rfl (by kernel_rfl) (by kernel_rfl) (by kernel_rfl) (fun _ _ _ h => h) (Or.inl ⟨by rfl, ?_⟩) hHeld ?_
      rotate_left
      · (intro w hSw; have s0 := hSw.cell X0.out N0.out; go_simp) <;> (with_reducible rfl)
      try simp only [Act.put, List.setIfInBounds_toArray, List.set_cons_zero, List.set_cons_succ]
      refine wpAnyH_take (i := 5) (oi := { dst := some 44, op := _, type := _, pos := _, after := _, guard := _ }) (v := ?_) rfl (by kernel_rfl) (by kernel_rfl) (by kernel_rfl) (fun _ _ _ h => h) (Or.inl ⟨by rfl, ?_⟩) hHeld ?_
      rotate_left
      · (intro w hSw; go_simp) <;> (with_reducible rfl)
      try simp only [Act.put, List.setIfInBounds_toArray, List.set_cons_zero, List.set_cons_succ]
      refine wpAnyH_take (i := 6) (oi := { dst := some 45, op := _, type := _, pos := _, after := _, guard := _ }) (v := ?_) rfl (by kernel_rfl) (by kernel_rfl) (by kernel_rfl) (fun _ _ _ h => h) (Or.inl ⟨by rfl, ?_⟩) hHeld ?_
      rotate_left
      · (intro w hSw; go_simp) <;> (with_reducible rfl)
      try simp only [Act.put, List.setIfInBounds_toArray, List.set_cons_zero, List.set_cons_succ]
      refine wpAnyH_take (i := 7) (oi := { dst := some 46, op := _, type := _, pos := _, after := _, guard := _ }) (v := ?_) rfl (by kernel_rfl) (by kernel_rfl) (by kernel_rfl) (fun _ _ _ h => h) (Or.inl ⟨by rfl, ?_⟩) hHeld ?_
      rotate_left
      · (intro w hSw; go_simp) <;> (with_reducible rfl)
      try simp only [Act.put, List.setIfInBounds_toArray, List.set_cons_zero, List.set_cons_succ]
      refine wpAnyH_take (i := 8) (oi := { dst := some 47, op := _, type := _, pos := _, after := _, guard := _ }) (v := ?_) rfl (by kernel_rfl) (by kernel_rfl) (by kernel_rfl) (fun _ _ _ h => h) (Or.inl ⟨by rfl, ?_⟩) hHeld ?_
      rotate_left
      · (intro w hSw; go_simp) <;> (with_reducible rfl)
      try simp only [Act.put, List.setIfInBounds_toArray, List.set_cons_zero, List.set_cons_succ]
      refine wpAnyH_take (i := 9) (oi := { dst := some 48, op := _, type := _, pos := _, after := _, guard := _ }) (v := ?_) rfl (by kernel_rfl) (by kernel_rfl) (by kernel_rfl) (fun _ _ _ h => h) (Or.inl ⟨by rfl, ?_⟩) hHeld ?_
      rotate_left
      · (intro w hSw; have s0 := hSw.cell X0.out N0.out; go_simp) <;> (with_reducible rfl)
      try simp only [Act.put, List.setIfInBounds_toArray, List.set_cons_zero, List.set_cons_succ]
      refine wpAnyH_take (i := 10) (oi := { dst := some 49, op := _, type := _, pos := _, after := _, guard := _ }) (v := ?_) rfl (by kernel_rfl) (by kernel_rfl) (by kernel_rfl) (fun _ _ _ h => h) (Or.inl ⟨by rfl, ?_⟩) hHeld ?_
      rotate_left
      · (intro w hSw; go_simp) <;> (with_reducible rfl)
      try simp only [Act.put, List.setIfInBounds_toArray, List.set_cons_zero, List.set_cons_succ]
      refine wpAnyH_take (i := 11) (oi := { dst := some 50, op := _, type := _, pos := _, after := _, guard := _ }) (v := ?_) rfl (by kernel_rfl) (by kernel_rfl) (by kernel_rfl) (fun _ _ _ h => h) (Or.inl ⟨by rfl, ?_⟩) hHeld ?_
      rotate_left
      · (intro w hSw; go_simp) <;> (with_reducible rfl)
      try simp only [Act.put, List.setIfInBounds_toArray, List.set_cons_zero, List.set_cons_succ]
      refine wpAnyH_take (i := 12) (oi := { dst := some 51, op := _, type := _, pos := _, after := _, guard := _ }) (v := ?_) rfl (by kernel_rfl) (by kernel_rfl) (by kernel_rfl) (fun _ _ _ h => h) (Or.inl ⟨by rfl, ?_⟩) hHeld ?_
      rotate_left
      · (intro w hSw; go_simp) <;> (with_reducible rfl)
      try simp only [Act.put, List.setIfInBounds_toArray, List.set_cons_zero, List.set_cons_succ]
      refine wpAnyH_take (i := 13) (oi := { dst := some 52, op := _, type := _, pos := _, after := _, guard := _ }) (v := ?_) rfl (by kernel_rfl) (by kernel_rfl) (by kernel_rfl) (fun _ _ _ h => h) (Or.inl ⟨by rfl, ?_⟩) hHeld ?_
      rotate_left
      · (intro w hSw; have s1 := hSw.cell X1.out N1.out; have s2 := hSw.cell X2.out N1.out; have s3 := hSw.cell X3.out N1.out; go_simp) <;> (with_reducible rfl)
      try simp only [Act.put, List.setIfInBounds_toArray, List.set_cons_zero, List.set_cons_succ]
      have f0 : w6.cell? ⟨gl, 0, none⟩ = some (.int .i64 0) := (blk_cell G6.out 0).trans rfl
      have f1 : w6.cell? ⟨gl, 1, none⟩ = some (.bool true) := (blk_cell G6.out 1).trans rfl
      have f2 : w6.cell? ⟨gl, 2, none⟩ = some (.slice none 0 0) := (blk_cell G6.out 2).trans rfl
      have e0 := blk_frozen G6.out 0
      have e1 := blk_frozen G6.out 1
      have e2 := blk_frozen G6.out 2
      have GA := Aside0.mk (blk_put G6.out 0 (.int .i64 la.f0) rfl)
      have GB := Aside0.mk (blk_put GA.out 1 (.bool la.f1) rfl)
      have GC := Aside0.mk (blk_put GB.out 2 (.slice A3 la.f2.length c3) rfl)
      have hgr : w6.grownBy (((w6.setCell ⟨gl, 0, none⟩ (.int .i64 la.f0)).setCell ⟨gl, 1, none⟩ (.bool la.f1)).setCell ⟨gl, 2, none⟩ (.slice A3 la.f2.length c3)) (some gl) := grown_trans (grown_trans (grown_set _ ⟨gl, 0, none⟩ _) (grown_set _ ⟨gl, 1, none⟩ _)) (grown_set _ ⟨gl, 2, none⟩ _)
      refine wpAnyH_ready (rs := [14]) (by kernel_rfl) (by simp) (AllReadyH.cons (o := { dst := none, op := _, type := _, pos := _, after := _, guard := _ }) rfl (fun K hK => ?_) AllReadyH.nil)
      go_simp
      refine hK.out _ _ (hgr) (fun hHeld2 => ?_)
      clear hK K hHeld
      have hHeld := hHeld2
      clear hHeld2
      try simp only [Act.put, List.setIfInBounds_toArray, List.set_cons_zero, List.set_cons_succ]
      refine wpAnyH_done (by kernel_rfl) ?_ _
      refine NoPanic.normal ?_
      have B7 := Aside0.mk (pw_below_grown B6.out _ B6.out.size hgr (fun k hk => by injection hk with hk; have := HGE.out; omega))
      have K7 := Aside0.mk (blk_grown K6.out hgr (fun e => by injection e with e; exact HWG.out e))
      have S7 := Aside0.mk (Nat.lt_of_lt_of_le S6.out hgr.size)
      have G7 := Aside0.mk GC.out
      generalize ((w6.setCell ⟨gl, 0, none⟩ (.int .i64 la.f0)).setCell ⟨gl, 1, none⟩ (.bool la.f1)).setCell ⟨gl, 2, none⟩ (.slice A3 la.f2.length c3) = w7 at B7 K7 S7 G7 ⊢
      clear hHeld f0 f1 f2 e0 e1 e2 G6 GA GB GC hgr X0 X1 X2 X3 N0 N1 K6 B6 S6 K4 B4 S4 hq0 hq1 hq2 hwm
      have y0 : w7.cell? ⟨w.heap.size, 0, none⟩ = some (.int .i64 vn) := (blk_cell K7.out 0).trans rfl
      have y1 : w7.cell? ⟨w.heap.size, 1, none⟩ = some (.bool vg) := (blk_cell K7.out 1).trans rfl
      have y2 : w7.cell? ⟨w.heap.size, 2, none⟩ = some (.slice A2 vt.length c2) := (blk_cell K7.out 2).trans rfl
      have z0 : w7.cell? ⟨gl, 0, none⟩ = some (.int .i64 la.f0) := (blk_cell G7.out 0).trans rfl
      have z1 : w7.cell? ⟨gl, 1, none⟩ = some (.bool la.f1) := (blk_cell G7.out 1).trans rfl
      obtain ⟨ln, lg, lt⟩ := la
      dsimp only at z0 z1 HLA
      by_cases m1 : vn ≤ ln
      · go_wp2_with fail
        go_ret2
        exact ⟨.nil (.old i true HRN.out HR.out (by dsimp only; omega) (by dsimp only; omega) HF.out (by rw [← HLA.out]; exact m1)), B7.out⟩
      by_cases m2 : 1000 < (vt.length : Int)
      · go_wp2_with fail
        go_ret2
        exact ⟨.nil (.long i true HRN.out HR.out (by dsimp only; omega) (by dsimp only; omega) HF.out (by rw [← HLA.out]; dsimp only; omega) (by dsimp only; omega)), B7.out⟩
      by_cases m3 : vg = true ∧ lg = true
      · obtain ⟨rfl, rfl⟩ := m3
        go_wp2_with fail
        go_ret2
        exact ⟨.nil (.none i true HRN.out HR.out (by dsimp only; omega) (by dsimp only; omega) HF.out (by rw [← HLA.out]; dsimp only; omega) (by dsimp only; omega) rfl (by rw [← HLA.out])), B7.out⟩
      have HM3 := Aside0.mk (show vg = true → (lastV (wasV l i true)).f1 = false by rw [← HLA.out]; intro h; dsimp only; cases lg with | false => rfl | true => exact absurd ⟨h, rfl⟩ m3)
      have hgg : (vg && lg) = false := by cases vg <;> cases lg <;> simp_all
      clear m3
      skip
      have HOK := Aside0.mk (WithP.ok (v := ⟨vn, vg, vt⟩) i true HRN.out HR.out (by dsimp only; omega) (by dsimp only; omega) HF.out (by rw [← HLA.out]; dsimp only; omega) (by dsimp only; omega) HM3.out (fun h => by cases h))
      clear HM3
      cases vg with
      | false =>
        go_wp2_with fail
        clear y0 y1 y2 z0 z1
        refine (Copy_calls l (some ad) c w7 (Kd.C_below HC.out B7.out) hc (by omega) (fun x hx => ⟨(HX.out x hx).2.1, (HX.out x hx).2.2⟩)).mono ?_
        rintro e w8 ⟨u8, rfl, ps, hps, hcp, hb8⟩
        have B8 := Aside0.mk (B7.out.trans (hb8.mono B7.out.size))
        have K8 := Aside0.mk (blk_below K7.out hb8)
        have CP := Aside0.mk hcp
        have HPS := Aside0.mk hps
        have HB0 := Aside0.mk S7.out
        have HS8 := Aside0.mk hb8.size
        have HPL := Aside0.mk (show ps.length = l.length by rw [← hps, List.length_map])
        clear hb8 hcp hps K7 B7 S7 G7
        generalize w7.heap.size = b0 at CP HB0 HS8
        have HQI := Aside0.mk (show i < ps.length by rw [HPL.out]; exact hil)
        have HFIN := Aside0.mk (show ∀ hd : Hdr, (ps.set i (⟨(ps[i]'HQI.out).1.f0, cutV ((ps[i]'HQI.out).1.f1 ++ [⟨vn, false, vt⟩])⟩, hd)).map Prod.fst = moreL l name ⟨vn, false, vt⟩ i true from fun hd => by
          have e1 : (ps[i]'HQI.out).1 = l[i] := by simp only [← HPS.out, List.getElem_map]
          rw [List.map_set, more_there hil, HPS.out, e1])
        have HWL := Aside0.mk (show (ps[i]'HQI.out).1.f1.length ≤ 4 by
          have e1 : (ps[i]'HQI.out).1 = l[i] := by simp only [← HPS.out, List.getElem_map]
          rw [e1]; exact (HR.out.at i hil).most)
        have CX := Aside0.mk (CP.out.cx i HQI.out)
        obtain ⟨A8, c8, hu8, hc8, _⟩ := Kd.R_reads CP.out.row
        obtain ⟨g, rfl⟩ : ∃ g, A8 = some ⟨g, 0, none⟩ := by
          obtain ⟨g, cap, hg, _⟩ := Kd.R_form CP.out.row (Nat.lt_of_le_of_lt (Nat.zero_le _) HQI.out)
          rw [hg] at hu8
          injection hu8 with h1 h2 h3
          exact ⟨g, h1.symm⟩
        subst hu8
        have hqi : i < ps.length := HQI.out
        clear CP
        have KH := Aside0.mk (show kK.R 25 w8 b0 (fun _ => True) (hv (ps[i]'hqi).2) (ps[i]'hqi).1.f1 from CX.out.all)
        generalize hwas : (ps[i]'hqi).1.f1 = was at CX HFIN HWL KH
        clear hwas
        generalize hhd : (ps[i]'hqi).2 = hd0 at CX KH
        have hcr : w8.cell? ⟨g, i * 2 + 1, none⟩ = some (hv hd0) := by
          obtain ⟨_, inner, ho, hreps⟩ := CX.out.row
          have h2 := kR_cells (hreps.2 i _ (List.getElem?_eq_getElem hqi))
          refine (show w8.cell? ⟨g, i * 2 + 1, none⟩ = w8.cell? ((⟨g, 0, none⟩ : Addr).add (i * 2 + 1)) by rw [add_plain]).trans (ho.cells (g := g) rfl (i * 2 + 1) _ ?_)
          have h3 : ((inner.drop (i * 2)).take 2)[1]? = some (hv (ps[i]'hqi).2) := by rw [show (inner.drop (i * 2)).take 2 = _ from h2]; rfl
          rw [List.getElem?_take, if_pos (by omega), List.getElem?_drop] at h3
          rw [h3, hhd]
        clear hhd
        have hrb : ∃ cells, w8.heap[g]? = some (.cells cells 39 (0, 0)) := by
          obtain ⟨_, inner, ho, _⟩ := CX.out.row
          exact own_typed ho g rfl
        obtain ⟨rc, hrc⟩ := hrb
        have XN := Aside0.mk (show some g ≠ (hv hd0).ownBlock from fun e => Kd.R_ne KH.out hrc (by decide) e)
        have YN := Aside0.mk (show some w.heap.size ≠ (hv hd0).ownBlock from fun e => by have := Kd.R_base KH.out _ e.symm; have := HB0.out; omega)
        obtain ⟨A0, n0, c0⟩ := hd0
        obtain ⟨rfl, hl0, _⟩ := Kd.R_reads' (A := A0) (n := n0) (c := c0) KH.out
        have hin : (i : Int) < (ps.length : Int) := by omega
        have hi0 : (0 : Int) ≤ (i : Int) := by omega
        go_wp2_with fail
        have hg9 := World.grownBy.trans (show w8.grownBy w8.drew none from ⟨rfl, rfl, rfl, Nat.le_refl _, fun _ _ _ => rfl⟩) (show w8.drew.grownBy w8.drew none from ⟨rfl, rfl, rfl, Nat.le_refl _, fun _ _ _ => rfl⟩)
        clear hg9
        have CX9 := Aside0.mk (CX.out.below (below_drew (Below.refl _ _)))
        have B9 := Aside0.mk (below_drew B8.out)
        have K9 := Aside0.mk (blk_drew K8.out)
        have HS9 := Aside0.mk (show b0 ≤ w8.drew.heap.size from HS8.out)
        have X0 := Aside0.mk (show w8.drew.cell? ⟨g, i * 2 + 1, none⟩ = some (.slice A0 was.length c0) from hcr)
        have RC9 := Aside0.mk (blk_drew hrc)
        clear CX KH hcr hrc B8 K8 HS8
        have Y0 := Aside0.mk ((blk_cell K9.out 0).trans (show _ = some (Value.int .i64 vn) from rfl))
        have Y1 := Aside0.mk ((blk_cell K9.out 1).trans (show _ = some (Value.bool false) from rfl))
        have Y2 := Aside0.mk ((blk_cell K9.out 2).trans (show _ = some (Value.slice A2 vt.length c2) from rfl))
        refine wp_region_noPanic ?_
        refine wp_region_held_drew (S := fun W => w8.drew.grownBy W (Value.slice A0 was.length c0).ownBlock) (by kernel_rfl) (⟨rfl, rfl, rfl, Nat.le_refl _, fun _ _ _ => rfl⟩) (fun hHeld => ?_)
        generalize w8.drew = w9 at CX9 B9 K9 HS9 X0 RC9 Y0 Y1 Y2 hHeld ⊢
        refine wpAnyH_take (i := 0) (oi := { dst := some 89, op := _, type := _, pos := _, after := _, guard := _ }) (v := ?_) rfl (by kernel_rfl) (by kernel_rfl) (by kernel_rfl) (fun _ _ _ h => h) (Or.inl ⟨by rfl, ?_⟩) hHeld ?_
        rotate_left
        · (intro w hSw; go_simp) <;> (with_reducible rfl)
        try simp only [Act.put, List.setIfInBounds_toArray, List.set_cons_zero, List.set_cons_succ]
        refine wpAnyH_take (i := 1) (oi := { dst := some 90, op := _, type := _, pos := _, after := _, guard := _ }) (v := ?_) rfl (by kernel_rfl) (by kernel_rfl) (by kernel_rfl) (fun _ _ _ h => h) (Or.inl ⟨by rfl, ?_⟩) hHeld ?_
        rotate_left
        · (intro w hSw; go_simp) <;> (with_reducible rfl)
        try simp only [Act.put, List.setIfInBounds_toArray, List.set_cons_zero, List.set_cons_succ]
        refine wpAnyH_take (i := 2) (oi := { dst := some 91, op := _, type := _, pos := _, after := _, guard := _ }) (v := ?_) rfl (by kernel_rfl) (by kernel_rfl) (by kernel_rfl) (fun _ _ _ h => h) (Or.inl ⟨by rfl, ?_⟩) hHeld ?_
        rotate_left
        · (intro w hSw; go_simp) <;> (with_reducible rfl)
        try simp only [Act.put, List.setIfInBounds_toArray, List.set_cons_zero, List.set_cons_succ]
        refine wpAnyH_take (i := 3) (oi := { dst := some 92, op := _, type := _, pos := _, after := _, guard := _ }) (v := ?_) rfl (by kernel_rfl) (by kernel_rfl) (by kernel_rfl) (fun _ _ _ h => h) (Or.inl ⟨by rfl, ?_⟩) hHeld ?_
        rotate_left
        · (intro w hSw; go_simp) <;> (with_reducible rfl)
        try simp only [Act.put, List.setIfInBounds_toArray, List.set_cons_zero, List.set_cons_succ]
        refine wpAnyH_take (i := 4) (oi := { dst := some 93, op := _, type := _, pos := _, after := _, guard := _ }) (v := ?_) rfl (by kernel_rfl) (by kernel_rfl) (by kernel_rfl) (fun _ _ _ h => h) (Or.inl ⟨by rfl, ?_⟩) hHeld ?_
        rotate_left
        · (intro w hSw; have s0 := hSw.cell X0.out XN.out; go_simp) <;> (with_reducible rfl)
        try simp only [Act.put, List.setIfInBounds_toArray, List.set_cons_zero, List.set_cons_succ]
        refine wpAnyH_take (i := 5) (oi := { dst := some 94, op := _, type := _, pos := _, after := _, guard := _ }) (v := ?_) rfl (by kernel_rfl) (by kernel_rfl) (by kernel_rfl) (fun _ _ _ h => h) (Or.inl ⟨by rfl, ?_⟩) hHeld ?_
        rotate_left
        · (intro w hSw; have s1 := hSw.cell Y0.out YN.out; have s2 := hSw.cell Y1.out YN.out; have s3 := hSw.cell Y2.out YN.out; go_simp) <;> (with_reducible rfl)
        try simp only [Act.put, List.setIfInBounds_toArray, List.set_cons_zero, List.set_cons_succ]
        refine wpAnyH_ready (rs := [6]) (by kernel_rfl) (by simp) (AllReadyH.cons (o := { dst := some 95, op := _, type := _, pos := _, after := _, guard := _ }) rfl (fun K hK => ?_) AllReadyH.nil)
        go_simp
        refine (own_calls ⟨vn, false, vt⟩ A2 c2 w9 (Kd.C_below HV.out B9.out) hvc (Nat.le_trans hvl (by decide))).mono ?_
        rintro e wa ⟨tv, rfl, hta, hba⟩
        have Ba := Aside0.mk (B9.out.trans (hba.mono B9.out.size))
        have CXa := Aside0.mk (CX9.out.below hba)
        have Ka := Aside0.mk (blk_below K9.out hba)
        have RCa := Aside0.mk (blk_below RC9.out hba)
        have HSa := Aside0.mk (Nat.le_trans HS9.out hba.size)
        have Ga := Aside0.mk (grown_of_below hba (Value.slice A0 was.length c0).ownBlock)
        have hfr : ∀ k, w9.heap.size ≤ k → some k ≠ (Value.slice A0 was.length c0).ownBlock := fun k hk e => by have := Kd.R_lt CX9.out.all k e.symm; omega
        have HTa := Aside0.mk (Kd.R_lower (Kd.R_mono (ok' := fun k => w9.heap.size ≤ k) (Kd.R_bound hta) (fun k hk => hk.2.1)) HS9.out)
        obtain ⟨At, ct, rfl, _, _⟩ := Kd.R_reads hta
        clear hta hba CX9 K9 RC9 B9
        refine hK.out _ _ (Ga.out) (fun hHeld2 => ?_)
        clear hK K hHeld
        have hHeld := hHeld2
        clear hHeld2
        try simp only [Act.put, List.setIfInBounds_toArray, List.set_cons_zero, List.set_cons_succ]
        refine wpAnyH_ready (rs := [7]) (by kernel_rfl) (by simp) (AllReadyH.cons (o := { dst := some 96, op := _, type := _, pos := _, after := _, guard := _ }) rfl (fun K hK => ?_) AllReadyH.nil)
        go_simp
        refine hK.out _ _ (Ga.out.trans (World.grownBy_alloc _ _ _)) (fun hHeld2 => ?_)
        clear hK K hHeld
        have hHeld := hHeld2
        clear hHeld2
        try simp only [Act.put, List.setIfInBounds_toArray, List.set_cons_zero, List.set_cons_succ]
        refine wpAnyH_ready (rs := [8]) (by kernel_rfl) (by simp) (AllReadyH.cons (o := { dst := some 97, op := _, type := _, pos := _, after := _, guard := _ }) rfl (fun K hK => ?_) AllReadyH.nil)
        refine Kd.R_append_step kK (w0 := wa) b0 ?aW (.tmp 93) (.tmp 96) 37 25 (.agg #[.int .i64 0, .bool false, .slice none 0 0]) 40 rfl Tryd.underlying37 info25 rfl (by decide) (by omega) (.slice A0 was.length c0) was ⟨vn, false, vt⟩ [.int .i64 vn, .bool false, .slice At vt.length ct] (fun _ => True) (fun k => w9.heap.size ≤ k) rfl ?aX ?aP ?aQ ?aF ?aO ?aB ?aS ?aL ?_
        (case aW => rfl)
        (case aX => rfl)
        (case aP => exact k25_mkM _ _ _ ⟨vn, false, vt⟩ HTa.out)
        (case aQ => exact fun k hk => ⟨trivial, hfr k hk⟩)
        (case aF => exact fun _ _ => trivial)
        (case aO => exact CXa.out.all)
        (case aB => exact Below.refl _ _)
        (case aS => exact HSa.out)
        (case aL => have := HWL.out; omega)
        intro ub wb hrb hbb hgb hatb
        have CXb := Aside0.mk (CXa.out.step hgb hrb hatb)
        have Bb := Aside0.mk (pw_below_grown Ba.out _ Ba.out.size hgb (fun k hk => by have := Kd.R_base CXa.out.all k hk; have := HB0.out; omega))
        have Kb := Aside0.mk (blk_grown Ka.out hgb (fun e => YN.out e))
        have RCb := Aside0.mk (blk_grown RCa.out hgb (fun e => XN.out e))
        refine hK.out _ _ (Ga.out.trans hgb) (fun hHeld2 => ?_)
        clear hK K hHeld
        have hHeld := hHeld2
        clear hHeld2 CXa Ka RCa Ga HTa hrb hgb hatb Ba hfr
        try simp only [Act.put, List.setIfInBounds_toArray, List.set_cons_zero, List.set_cons_succ]
        refine wpAnyH_take (i := 9) (oi := { dst := some 12, op := _, type := _, pos := _, after := _, guard := _ }) (v := ?_) rfl (by kernel_rfl) (by kernel_rfl) (by kernel_rfl) (fun _ _ _ h => h) (Or.inl ⟨by rfl, ?_⟩) hHeld ?_
        rotate_left
        · (intro w hSw; go_simp) <;> (with_reducible rfl)
        try simp only [Act.put, List.setIfInBounds_toArray, List.set_cons_zero, List.set_cons_succ]
        refine wpAnyH_done (by kernel_rfl) ?_ _
        refine NoPanic.normal ?_
        clear hHeld X0 Y0 Y1 Y2 XN YN HSa HS9
        obtain ⟨Ab, cb, hub, _, _⟩ := Kd.R_reads CXb.out.all
        rw [List.length_append, List.length_singleton] at hub
        subst hub
        by_cases hcut : 4 < ((was.length + 1 : Nat) : Int)
        · have hw4 : was.length = 4 := by have := HWL.out; omega
          obtain ⟨x1, x2, x3, x4, hx4⟩ : ∃ x1 x2 x3 x4, was = [x1, x2, x3, x4] := by
            match was, hw4 with
            | [a, b, c, d], _ => exact ⟨a, b, c, d, rfl⟩
          subst hx4
          have CX := CXb
          clear CXb
          go_wp2_with fail
          refine (Delete_calls x1 [x2, x3, x4, ⟨vn, false, vt⟩] _ b0 (fun _ => True) wb CX.out.all).mono ?_
          rintro e wc ⟨uc, rfl, hrc, hgc, hatc⟩
          have CXc := Aside0.mk (CX.out.step hgc hrc (.inl hatc))
          have Bc := Aside0.mk (pw_below_grown Bb.out _ Bb.out.size hgc (fun k hk => by have := Kd.R_base CX.out.all k hk; have := HB0.out; omega))
          clear hgc hatc hrc CX Bb Kb RCb
          obtain ⟨Ac, cc, huc, hlc, hCc⟩ := Kd.R_reads CXc.out.all
          have huc' : uc = .slice Ac 4 cc := huc
          subst huc'
          clear huc
          obtain ⟨ac, A9, c9, eac, hx0, hx1, hx2, _, _⟩ := at_T25 hCc 0 (by omega) (by simp)
          subst eac
          rw [show rd_T25 [x2, x3, x4, ⟨vn, false, vt⟩] 0 = x2 from rfl] at hx1
          have hx1' : wc.cell? ⟨ac.block, ac.off + 1, none⟩ = some (.bool x2.f1) := by
            have := hx1
            simpa [Addr.add] using this
          clear hx0 hx1 hx2 hCc hlc
          cases hg2 : x2.f1 with
          | false =>
            rw [hg2] at hx1'
            have HFX := Aside0.mk (show cutV ([x1, x2, x3, x4] ++ [⟨vn, false, vt⟩]) = [x2, x3, x4, ⟨vn, false, vt⟩] from cut_there (by simp) hg2)
            rw [HFX.out] at HFIN
            have CX := CXc
            clear CXc
            obtain ⟨rcx, hrcx⟩ := own_typed (Kd.R_own CX.out.row).choose_spec g rfl
            have hrs : rcx.size = c8 * 2 ∧ i * 2 + 1 < rcx.size := by
              obtain ⟨_, inner, ⟨_, hcase⟩, _⟩ := CX.out.row
              rcases hcase with ⟨hnil, _⟩ | ⟨g', cap, cur, hv0, _, hh, hn, _, hsz, _⟩
              · cases hnil
              · injection hv0 with h1 h2 h3
                injection h1 with h1
                injection h1 with h1
                subst h1 h3
                rw [hrcx] at hh
                injection hh with hh
                injection hh with hh
                subst hh
                exact ⟨hsz, by rw [show rcx.size = c8 * 2 from hsz]; omega⟩
            have q0 : wc.cell? ⟨g, i * 2 + 1, none⟩ = some (rcx[i * 2 + 1]'hrs.2) := (blk_cell hrcx _).trans (Array.getElem?_eq_getElem hrs.2)
            have q1 := blk_frozen hrcx (i * 2 + 1)
            have HFINAL := Aside0.mk ((Cx.store (hd := (some ac, 4, cc)) CX.out hqi).lower (Nat.le_of_lt HB0.out))
            have HGB := Aside0.mk (Nat.le_trans (Nat.le_of_lt HB0.out) (Kd.R_base CX.out.row g rfl))
            have BF := Aside0.mk (below_set (j := i * 2 + 1) (v := (.slice (some ac) 4 cc)) Bc.out HGB.out)
            generalize rcx[i * 2 + 1]'hrs.2 = old at q0
            clear hrs CX hrcx
            go_wp2_with fail
            go_ret2
            exact ⟨⟨_, 0, _, _, rfl, HOK.out, HFIN.out (some ac, 4, cc), HFINAL.out⟩, BF.out⟩
          | true =>
            rw [hg2] at hx1'
            have HFX := Aside0.mk (show cutV ([x1, x2, x3, x4] ++ [⟨vn, false, vt⟩]) = [x3, x4, ⟨vn, false, vt⟩] from cut_gone (by simp) hg2)
            rw [HFX.out] at HFIN
            go_wp2_with fail
            refine (Delete_calls x2 [x3, x4, ⟨vn, false, vt⟩] _ b0 (fun _ => True) wc CXc.out.all).mono ?_
            rintro e wd ⟨ud, rfl, hrd, hgd, hatd⟩
            have CXd := Aside0.mk (CXc.out.step hgd hrd (.inl hatd))
            have Bd := Aside0.mk (pw_below_grown Bc.out _ Bc.out.size hgd (fun k hk => by have := Kd.R_base CXc.out.all k hk; have := HB0.out; omega))
            clear hgd hatd hrd CXc Bc hx1'
            obtain ⟨Ad, cd, hud, _, _⟩ := Kd.R_reads CXd.out.all
            have hud' : ud = .slice Ad 3 cd := hud
            subst hud'
            clear hud
            have CX := CXd
            clear CXd
            obtain ⟨rcx, hrcx⟩ := own_typed (Kd.R_own CX.out.row).choose_spec g rfl
            have hrs : rcx.size = c8 * 2 ∧ i * 2 + 1 < rcx.size := by
              obtain ⟨_, inner, ⟨_, hcase⟩, _⟩ := CX.out.row
              rcases hcase with ⟨hnil, _⟩ | ⟨g', cap, cur, hv0, _, hh, hn, _, hsz, _⟩
              · cases hnil
              · injection hv0 with h1 h2 h3
                injection h1 with h1
                injection h1 with h1
                subst h1 h3
                rw [hrcx] at hh
                injection hh with hh
                injection hh with hh
                subst hh
                exact ⟨hsz, by rw [show rcx.size = c8 * 2 from hsz]; omega⟩
            have q0 : wd.cell? ⟨g, i * 2 + 1, none⟩ = some (rcx[i * 2 + 1]'hrs.2) := (blk_cell hrcx _).trans (Array.getElem?_eq_getElem hrs.2)
            have q1 := blk_frozen hrcx (i * 2 + 1)
            have HFINAL := Aside0.mk ((Cx.store (hd := (Ad, 3, cd)) CX.out hqi).lower (Nat.le_of_lt HB0.out))
            have HGB := Aside0.mk (Nat.le_trans (Nat.le_of_lt HB0.out) (Kd.R_base CX.out.row g rfl))
            have BF := Aside0.mk (below_set (j := i * 2 + 1) (v := (.slice Ad 3 cd)) Bd.out HGB.out)
            generalize rcx[i * 2 + 1]'hrs.2 = old at q0
            clear hrs CX hrcx
            go_wp2_with fail
            go_ret2
            exact ⟨⟨_, 0, _, _, rfl, HOK.out, HFIN.out (Ad, 3, cd), HFINAL.out⟩, BF.out⟩
        · have HFX := Aside0.mk (show cutV (was ++ [⟨vn, false, vt⟩]) = was ++ [⟨vn, false, vt⟩] from cut_short (by rw [List.length_append, List.length_singleton]; omega))
          rw [HFX.out] at HFIN
          have CX := CXb
          clear CXb
          obtain ⟨rcx, hrcx⟩ := own_typed (Kd.R_own CX.out.row).choose_spec g rfl
          have hrs : rcx.size = c8 * 2 ∧ i * 2 + 1 < rcx.size := by
            obtain ⟨_, inner, ⟨_, hcase⟩, _⟩ := CX.out.row
            rcases hcase with ⟨hnil, _⟩ | ⟨g', cap, cur, hv0, _, hh, hn, _, hsz, _⟩
            · cases hnil
            · injection hv0 with h1 h2 h3
              injection h1 with h1
              injection h1 with h1
              subst h1 h3
              rw [hrcx] at hh
              injection hh with hh
              injection hh with hh
              subst hh
              exact ⟨hsz, by rw [show rcx.size = c8 * 2 from hsz]; omega⟩
          have q0 : wb.cell? ⟨g, i * 2 + 1, none⟩ = some (rcx[i * 2 + 1]'hrs.2) := (blk_cell hrcx _).trans (Array.getElem?_eq_getElem hrs.2)
          have q1 := blk_frozen hrcx (i * 2 + 1)
          have HFINAL := Aside0.mk ((Cx.store (hd := (Ab, was.length + 1, cb)) CX.out hqi).lower (Nat.le_of_lt HB0.out))
          have HGB := Aside0.mk (Nat.le_trans (Nat.le_of_lt HB0.out) (Kd.R_base CX.out.row g rfl))
          have BF := Aside0.mk (below_set (j := i * 2 + 1) (v := (.slice Ab (was.length + 1) cb)) Bb.out HGB.out)
          generalize rcx[i * 2 + 1]'hrs.2 = old at q0
          clear hrs CX hrcx
          go_wp2_with fail
          go_ret2
          exact ⟨⟨_, 0, _, _, rfl, HOK.out, HFIN.out (Ab, was.length + 1, cb), HFINAL.out⟩, BF.out⟩
      | true =>
        have hlg : lg = false := by simpa using hgg
        subst hlg
        go_wp2_with fail
        clear y0 y1 y2 z0 z1
        refine (Copy_calls l (some ad) c w7 (Kd.C_below HC.out B7.out) hc (by omega) (fun x hx => ⟨(HX.out x hx).2.1, (HX.out x hx).2.2⟩)).mono ?_
        rintro e w8 ⟨u8, rfl, ps, hps, hcp, hb8⟩
        have B8 := Aside0.mk (B7.out.trans (hb8.mono B7.out.size))
        have K8 := Aside0.mk (blk_below K7.out hb8)
        have CP := Aside0.mk hcp
        have HPS := Aside0.mk hps
        have HB0 := Aside0.mk S7.out
        have HS8 := Aside0.mk hb8.size
        have HPL := Aside0.mk (show ps.length = l.length by rw [← hps, List.length_map])
        clear hb8 hcp hps K7 B7 S7 G7
        generalize w7.heap.size = b0 at CP HB0 HS8
        have HQI := Aside0.mk (show i < ps.length by rw [HPL.out]; exact hil)
        have HFIN := Aside0.mk (show ∀ hd : Hdr, (ps.set i (⟨(ps[i]'HQI.out).1.f0, cutV ((ps[i]'HQI.out).1.f1 ++ [⟨vn, true, vt⟩])⟩, hd)).map Prod.fst = moreL l name ⟨vn, true, vt⟩ i true from fun hd => by
          have e1 : (ps[i]'HQI.out).1 = l[i] := by simp only [← HPS.out, List.getElem_map]
          rw [List.map_set, more_there hil, HPS.out, e1])
        have HWL := Aside0.mk (show (ps[i]'HQI.out).1.f1.length ≤ 4 by
          have e1 : (ps[i]'HQI.out).1 = l[i] := by simp only [← HPS.out, List.getElem_map]
          rw [e1]; exact (HR.out.at i hil).most)
        have CX := Aside0.mk (CP.out.cx i HQI.out)
        obtain ⟨A8, c8, hu8, hc8, _⟩ := Kd.R_reads CP.out.row
        obtain ⟨g, rfl⟩ : ∃ g, A8 = some ⟨g, 0, none⟩ := by
          obtain ⟨g, cap, hg, _⟩ := Kd.R_form CP.out.row (Nat.lt_of_le_of_lt (Nat.zero_le _) HQI.out)
          rw [hg] at hu8
          injection hu8 with h1 h2 h3
          exact ⟨g, h1.symm⟩
        subst hu8
        have hqi : i < ps.length := HQI.out
        clear CP
        have KH := Aside0.mk (show kK.R 25 w8 b0 (fun _ => True) (hv (ps[i]'hqi).2) (ps[i]'hqi).1.f1 from CX.out.all)
        generalize hwas : (ps[i]'hqi).1.f1 = was at CX HFIN HWL KH
        clear hwas
        generalize hhd : (ps[i]'hqi).2 = hd0 at CX KH
        have hcr : w8.cell? ⟨g, i * 2 + 1, none⟩ = some (hv hd0) := by
          obtain ⟨_, inner, ho, hreps⟩ := CX.out.row
          have h2 := kR_cells (hreps.2 i _ (List.getElem?_eq_getElem hqi))
          refine (show w8.cell? ⟨g, i * 2 + 1, none⟩ = w8.cell? ((⟨g, 0, none⟩ : Addr).add (i * 2 + 1)) by rw [add_plain]).trans (ho.cells (g := g) rfl (i * 2 + 1) _ ?_)
          have h3 : ((inner.drop (i * 2)).take 2)[1]? = some (hv (ps[i]'hqi).2) := by rw [show (inner.drop (i * 2)).take 2 = _ from h2]; rfl
          rw [List.getElem?_take, if_pos (by omega), List.getElem?_drop] at h3
          rw [h3, hhd]
        clear hhd
        have hrb : ∃ cells, w8.heap[g]? = some (.cells cells 39 (0, 0)) := by
          obtain ⟨_, inner, ho, _⟩ := CX.out.row
          exact own_typed ho g rfl
        obtain ⟨rc, hrc⟩ := hrb
        have XN := Aside0.mk (show some g ≠ (hv hd0).ownBlock from fun e => Kd.R_ne KH.out hrc (by decide) e)
        have YN := Aside0.mk (show some w.heap.size ≠ (hv hd0).ownBlock from fun e => by have := Kd.R_base KH.out _ e.symm; have := HB0.out; omega)
        obtain ⟨A0, n0, c0⟩ := hd0
        obtain ⟨rfl, hl0, _⟩ := Kd.R_reads' (A := A0) (n := n0) (c := c0) KH.out
        have hin : (i : Int) < (ps.length : Int) := by omega
        have hi0 : (0 : Int) ≤ (i : Int) := by omega
        go_wp2_with fail
        have hg9 := World.grownBy.trans (show w8.grownBy w8.drew none from ⟨rfl, rfl, rfl, Nat.le_refl _, fun _ _ _ => rfl⟩) (show w8.drew.grownBy w8.drew none from ⟨rfl, rfl, rfl, Nat.le_refl _, fun _ _ _ => rfl⟩)
        clear hg9
        have CX9 := Aside0.mk (CX.out.below (below_drew (Below.refl _ _)))
        have B9 := Aside0.mk (below_drew B8.out)
        have K9 := Aside0.mk (blk_drew K8.out)
        have HS9 := Aside0.mk (show b0 ≤ w8.drew.heap.size from HS8.out)
        have X0 := Aside0.mk (show w8.drew.cell? ⟨g, i * 2 + 1, none⟩ = some (.slice A0 was.length c0) from hcr)
        have RC9 := Aside0.mk (blk_drew hrc)
        clear CX KH hcr hrc B8 K8 HS8
        have Y0 := Aside0.mk ((blk_cell K9.out 0).trans (show _ = some (Value.int .i64 vn) from rfl))
        have Y1 := Aside0.mk ((blk_cell K9.out 1).trans (show _ = some (Value.bool true) from rfl))
        have Y2 := Aside0.mk ((blk_cell K9.out 2).trans (show _ = some (Value.slice A2 vt.length c2) from rfl))
        refine wp_region_noPanic ?_
        refine wp_region_held_drew (S := fun W => w8.drew.grownBy W (Value.slice A0 was.length c0).ownBlock) (by kernel_rfl) (⟨rfl, rfl, rfl, Nat.le_refl _, fun _ _ _ => rfl⟩) (fun hHeld => ?_)
        generalize w8.drew = w9 at CX9 B9 K9 HS9 X0 RC9 Y0 Y1 Y2 hHeld ⊢
        refine wpAnyH_take (i := 0) (oi := { dst := some 89, op := _, type := _, pos := _, after := _, guard := _ }) (v := ?_) rfl (by kernel_rfl) (by kernel_rfl) (by kernel_rfl) (fun _ _ _ h => h) (Or.inl ⟨by rfl, ?_⟩) hHeld ?_
        rotate_left
        · (intro w hSw; go_simp) <;> (with_reducible rfl)
        try simp only [Act.put, List.setIfInBounds_toArray, List.set_cons_zero, List.set_cons_succ]
        refine wpAnyH_take (i := 1) (oi := { dst := some 90, op := _, type := _, pos := _, after := _, guard := _ }) (v := ?_) rfl (by kernel_rfl) (by kernel_rfl) (by kernel_rfl) (fun _ _ _ h => h) (Or.inl ⟨by rfl, ?_⟩) hHeld ?_
        rotate_left
        · (intro w hSw; go_simp) <;> (with_reducible rfl)
        try simp only [Act.put, List.setIfInBounds_toArray, List.set_cons_zero, List.set_cons_succ]
        refine wpAnyH_take (i := 2) (oi := { dst := some 91, op := _, type := _, pos := _, after := _, guard := _ }) (v := ?_) rfl (by kernel_rfl) (by kernel_rfl) (by kernel_rfl) (fun _ _ _ h => h) (Or.inl ⟨by rfl, ?_⟩) hHeld ?_
        rotate_left
        · (intro w hSw; go_simp) <;> (with_reducible rfl)
        try simp only [Act.put, List.setIfInBounds_toArray, List.set_cons_zero, List.set_cons_succ]
        refine wpAnyH_take (i := 3) (oi := { dst := some 92, op := _, type := _, pos := _, after := _, guard := _ }) (v := ?_) rfl (by kernel_rfl) (by kernel_rfl) (by kernel_rfl) (fun _ _ _ h => h) (Or.inl ⟨by rfl, ?_⟩) hHeld ?_
        rotate_left
        · (intro w hSw; go_simp) <;> (with_reducible rfl)
        try simp only [Act.put, List.setIfInBounds_toArray, List.set_cons_zero, List.set_cons_succ]
        refine wpAnyH_take (i := 4) (oi := { dst := some 93, op := _, type := _, pos := _, after := _, guard := _ }) (v := ?_) rfl (by kernel_rfl) (by kernel_rfl) (by kernel_rfl) (fun _ _ _ h => h) (Or.inl ⟨by rfl, ?_⟩) hHeld ?_
        rotate_left
        · (intro w hSw; have s0 := hSw.cell X0.out XN.out; go_simp) <;> (with_reducible rfl)
        try simp only [Act.put, List.setIfInBounds_toArray, List.set_cons_zero, List.set_cons_succ]
        refine wpAnyH_take (i := 5) (oi := { dst := some 94, op := _, type := _, pos := _, after := _, guard := _ }) (v := ?_) rfl (by kernel_rfl) (by kernel_rfl) (by kernel_rfl) (fun _ _ _ h => h) (Or.inl ⟨by rfl, ?_⟩) hHeld ?_
        rotate_left
        · (intro w hSw; have s1 := hSw.cell Y0.out YN.out; have s2 := hSw.cell Y1.out YN.out; have s3 := hSw.cell Y2.out YN.out; go_simp) <;> (with_reducible rfl)
        try simp only [Act.put, List.setIfInBounds_toArray, List.set_cons_zero, List.set_cons_succ]
        refine wpAnyH_ready (rs := [6]) (by kernel_rfl) (by simp) (AllReadyH.cons (o := { dst := some 95, op := _, type := _, pos := _, after := _, guard := _ }) rfl (fun K hK => ?_) AllReadyH.nil)
        go_simp
        refine (own_calls ⟨vn, true, vt⟩ A2 c2 w9 (Kd.C_below HV.out B9.out) hvc (Nat.le_trans hvl (by decide))).mono ?_
        rintro e wa ⟨tv, rfl, hta, hba⟩
        have Ba := Aside0.mk (B9.out.trans (hba.mono B9.out.size))
        have CXa := Aside0.mk (CX9.out.below hba)
        have Ka := Aside0.mk (blk_below K9.out hba)
        have RCa := Aside0.mk (blk_below RC9.out hba)
        have HSa := Aside0.mk (Nat.le_trans HS9.out hba.size)
        have Ga := Aside0.mk (grown_of_below hba (Value.slice A0 was.length c0).ownBlock)
        have hfr : ∀ k, w9.heap.size ≤ k → some k ≠ (Value.slice A0 was.length c0).ownBlock := fun k hk e => by have := Kd.R_lt CX9.out.all k e.symm; omega
        have HTa := Aside0.mk (Kd.R_lower (Kd.R_mono (ok' := fun k => w9.heap.size ≤ k) (Kd.R_bound hta) (fun k hk => hk.2.1)) HS9.out)
        obtain ⟨At, ct, rfl, _, _⟩ := Kd.R_reads hta
        clear hta hba CX9 K9 RC9 B9
        refine hK.out _ _ (Ga.out) (fun hHeld2 => ?_)
        clear hK K hHeld
        have hHeld := hHeld2
        clear hHeld2
        try simp only [Act.put, List.setIfInBounds_toArray, List.set_cons_zero, List.set_cons_succ]
        refine wpAnyH_ready (rs := [7]) (by kernel_rfl) (by simp) (AllReadyH.cons (o := { dst := some 96, op := _, type := _, pos := _, after := _, guard := _ }) rfl (fun K hK => ?_) AllReadyH.nil)
        go_simp
        refine hK.out _ _ (Ga.out.trans (World.grownBy_alloc _ _ _)) (fun hHeld2 => ?_)
        clear hK K hHeld
        have hHeld := hHeld2
        clear hHeld2
        try simp only [Act.put, List.setIfInBounds_toArray, List.set_cons_zero, List.set_cons_succ]
        refine wpAnyH_ready (rs := [8]) (by kernel_rfl) (by simp) (AllReadyH.cons (o := { dst := some 97, op := _, type := _, pos := _, after := _, guard := _ }) rfl (fun K hK => ?_) AllReadyH.nil)
        refine Kd.R_append_step kK (w0 := wa) b0 ?aW (.tmp 93) (.tmp 96) 37 25 (.agg #[.int .i64 0, .bool false, .slice none 0 0]) 40 rfl Tryd.underlying37 info25 rfl (by decide) (by omega) (.slice A0 was.length c0) was ⟨vn, true, vt⟩ [.int .i64 vn, .bool true, .slice At vt.length ct] (fun _ => True) (fun k => w9.heap.size ≤ k) rfl ?aX ?aP ?aQ ?aF ?aO ?aB ?aS ?aL ?_
        (case aW => rfl)
        (case aX => rfl)
        (case aP => exact k25_mkM _ _ _ ⟨vn, true, vt⟩ HTa.out)
        (case aQ => exact fun k hk => ⟨trivial, hfr k hk⟩)
        (case aF => exact fun _ _ => trivial)
        (case aO => exact CXa.out.all)
        (case aB => exact Below.refl _ _)
        (case aS => exact HSa.out)
        (case aL => have := HWL.out; omega)
        intro ub wb hrb hbb hgb hatb
        have CXb := Aside0.mk (CXa.out.step hgb hrb hatb)
        have Bb := Aside0.mk (pw_below_grown Ba.out _ Ba.out.size hgb (fun k hk => by have := Kd.R_base CXa.out.all k hk; have := HB0.out; omega))
        have Kb := Aside0.mk (blk_grown Ka.out hgb (fun e => YN.out e))
        have RCb := Aside0.mk (blk_grown RCa.out hgb (fun e => XN.out e))
        refine hK.out _ _ (Ga.out.trans hgb) (fun hHeld2 => ?_)
        clear hK K hHeld
        have hHeld := hHeld2
        clear hHeld2 CXa Ka RCa Ga HTa hrb hgb hatb Ba hfr
        try simp only [Act.put, List.setIfInBounds_toArray, List.set_cons_zero, List.set_cons_succ]
        refine wpAnyH_take (i := 9) (oi := { dst := some 12, op := _, type := _, pos := _, after := _, guard := _ }) (v := ?_) rfl (by kernel_rfl) (by kernel_rfl) (by kernel_rfl) (fun _ _ _ h => h) (Or.inl ⟨by rfl, ?_⟩) hHeld ?_
        rotate_left
        · (intro w hSw; go_simp) <;> (with_reducible rfl)
        try simp only [Act.put, List.setIfInBounds_toArray, List.set_cons_zero, List.set_cons_succ]
        refine wpAnyH_done (by kernel_rfl) ?_ _
        refine NoPanic.normal ?_
        clear hHeld X0 Y0 Y1 Y2 XN YN HSa HS9
        obtain ⟨Ab, cb, hub, _, _⟩ := Kd.R_reads CXb.out.all
        rw [List.length_append, List.length_singleton] at hub
        subst hub
        by_cases hcut : 4 < ((was.length + 1 : Nat) : Int)
        · have hw4 : was.length = 4 := by have := HWL.out; omega
          obtain ⟨x1, x2, x3, x4, hx4⟩ : ∃ x1 x2 x3 x4, was = [x1, x2, x3, x4] := by
            match was, hw4 with
            | [a, b, c, d], _ => exact ⟨a, b, c, d, rfl⟩
          subst hx4
          have CX := CXb
          clear CXb
          go_wp2_with fail
          refine (Delete_calls x1 [x2, x3, x4, ⟨vn, true, vt⟩] _ b0 (fun _ => True) wb CX.out.all).mono ?_
          rintro e wc ⟨uc, rfl, hrc, hgc, hatc⟩
          have CXc := Aside0.mk (CX.out.step hgc hrc (.inl hatc))
          have Bc := Aside0.mk (pw_below_grown Bb.out _ Bb.out.size hgc (fun k hk => by have := Kd.R_base CX.out.all k hk; have := HB0.out; omega))
          clear hgc hatc hrc CX Bb Kb RCb
          obtain ⟨Ac, cc, huc, hlc, hCc⟩ := Kd.R_reads CXc.out.all
          have huc' : uc = .slice Ac 4 cc := huc
          subst huc'
          clear huc
          obtain ⟨ac, A9, c9, eac, hx0, hx1, hx2, _, _⟩ := at_T25 hCc 0 (by omega) (by simp)
          subst eac
          rw [show rd_T25 [x2, x3, x4, ⟨vn, true, vt⟩] 0 = x2 from rfl] at hx1
          have hx1' : wc.cell? ⟨ac.block, ac.off + 1, none⟩ = some (.bool x2.f1) := by
            have := hx1
            simpa [Addr.add] using this
          clear hx0 hx1 hx2 hCc hlc
          cases hg2 : x2.f1 with
          | false =>
            rw [hg2] at hx1'
            have HFX := Aside0.mk (show cutV ([x1, x2, x3, x4] ++ [⟨vn, true, vt⟩]) = [x2, x3, x4, ⟨vn, true, vt⟩] from cut_there (by simp) hg2)
            rw [HFX.out] at HFIN
            have CX := CXc
            clear CXc
            obtain ⟨rcx, hrcx⟩ := own_typed (Kd.R_own CX.out.row).choose_spec g rfl
            have hrs : rcx.size = c8 * 2 ∧ i * 2 + 1 < rcx.size := by
              obtain ⟨_, inner, ⟨_, hcase⟩, _⟩ := CX.out.row
              rcases hcase with ⟨hnil, _⟩ | ⟨g', cap, cur, hv0, _, hh, hn, _, hsz, _⟩
              · cases hnil
              · injection hv0 with h1 h2 h3
                injection h1 with h1
                injection h1 with h1
                subst h1 h3
                rw [hrcx] at hh
                injection hh with hh
                injection hh with hh
                subst hh
                exact ⟨hsz, by rw [show rcx.size = c8 * 2 from hsz]; omega⟩
            have q0 : wc.cell? ⟨g, i * 2 + 1, none⟩ = some (rcx[i * 2 + 1]'hrs.2) := (blk_cell hrcx _).trans (Array.getElem?_eq_getElem hrs.2)
            have q1 := blk_frozen hrcx (i * 2 + 1)
            have HFINAL := Aside0.mk ((Cx.store (hd := (some ac, 4, cc)) CX.out hqi).lower (Nat.le_of_lt HB0.out))
            have HGB := Aside0.mk (Nat.le_trans (Nat.le_of_lt HB0.out) (Kd.R_base CX.out.row g rfl))
            have BF := Aside0.mk (below_set (j := i * 2 + 1) (v := (.slice (some ac) 4 cc)) Bc.out HGB.out)
            generalize rcx[i * 2 + 1]'hrs.2 = old at q0
            clear hrs CX hrcx
            go_wp2_with fail
            go_ret2
            exact ⟨⟨_, 0, _, _, rfl, HOK.out, HFIN.out (some ac, 4, cc), HFINAL.out⟩, BF.out⟩
          | true =>
            rw [hg2] at hx1'
            have HFX := Aside0.mk (show cutV ([x1, x2, x3, x4] ++ [⟨vn, true, vt⟩]) = [x3, x4, ⟨vn, true, vt⟩] from cut_gone (by simp) hg2)
            rw [HFX.out] at HFIN
            go_wp2_with fail
            refine (Delete_calls x2 [x3, x4, ⟨vn, true, vt⟩] _ b0 (fun _ => True) wc CXc.out.all).mono ?_
            rintro e wd ⟨ud, rfl, hrd, hgd, hatd⟩
            have CXd := Aside0.mk (CXc.out.step hgd hrd (.inl hatd))
            have Bd := Aside0.mk (pw_below_grown Bc.out _ Bc.out.size hgd (fun k hk => by have := Kd.R_base CXc.out.all k hk; have := HB0.out; omega))
            clear hgd hatd hrd CXc Bc hx1'
            obtain ⟨Ad, cd, hud, _, _⟩ := Kd.R_reads CXd.out.all
            have hud' : ud = .slice Ad 3 cd := hud
            subst hud'
            clear hud
            have CX := CXd
            clear CXd
            obtain ⟨rcx, hrcx⟩ := own_typed (Kd.R_own CX.out.row).choose_spec g rfl
            have hrs : rcx.size = c8 * 2 ∧ i * 2 + 1 < rcx.size := by
              obtain ⟨_, inner, ⟨_, hcase⟩, _⟩ := CX.out.row
              rcases hcase with ⟨hnil, _⟩ | ⟨g', cap, cur, hv0, _, hh, hn, _, hsz, _⟩
              · cases hnil
              · injection hv0 with h1 h2 h3
                injection h1 with h1
                injection h1 with h1
                subst h1 h3
                rw [hrcx] at hh
                injection hh with hh
                injection hh with hh
                subst hh
                exact ⟨hsz, by rw [show rcx.size = c8 * 2 from hsz]; omega⟩
            have q0 : wd.cell? ⟨g, i * 2 + 1, none⟩ = some (rcx[i * 2 + 1]'hrs.2) := (blk_cell hrcx _).trans (Array.getElem?_eq_getElem hrs.2)
            have q1 := blk_frozen hrcx (i * 2 + 1)
            have HFINAL := Aside0.mk ((Cx.store (hd := (Ad, 3, cd)) CX.out hqi).lower (Nat.le_of_lt HB0.out))
            have HGB := Aside0.mk (Nat.le_trans (Nat.le_of_lt HB0.out) (Kd.R_base CX.out.row g rfl))
            have BF := Aside0.mk (below_set (j := i * 2 + 1) (v := (.slice Ad 3 cd)) Bd.out HGB.out)
            generalize rcx[i * 2 + 1]'hrs.2 = old at q0
            clear hrs CX hrcx
            go_wp2_with fail
            go_ret2
            exact ⟨⟨_, 0, _, _, rfl, HOK.out, HFIN.out (Ad, 3, cd), HFINAL.out⟩, BF.out⟩
        · have HFX := Aside0.mk (show cutV (was ++ [⟨vn, true, vt⟩]) = was ++ [⟨vn, true, vt⟩] from cut_short (by rw [List.length_append, List.length_singleton]; omega))
          rw [HFX.out] at HFIN
          have CX := CXb
          clear CXb
          obtain ⟨rcx, hrcx⟩ := own_typed (Kd.R_own CX.out.row).choose_spec g rfl
          have hrs : rcx.size = c8 * 2 ∧ i * 2 + 1 < rcx.size := by
            obtain ⟨_, inner, ⟨_, hcase⟩, _⟩ := CX.out.row
            rcases hcase with ⟨hnil, _⟩ | ⟨g', cap, cur, hv0, _, hh, hn, _, hsz, _⟩
            · cases hnil
            · injection hv0 with h1 h2 h3
              injection h1 with h1
              injection h1 with h1
              subst h1 h3
              rw [hrcx] at hh
              injection hh with hh
              injection hh with hh
              subst hh
              exact ⟨hsz, by rw [show rcx.size = c8 * 2 from hsz]; omega⟩
          have q0 : wb.cell? ⟨g, i * 2 + 1, none⟩ = some (rcx[i * 2 + 1]'hrs.2) := (blk_cell hrcx _).trans (Array.getElem?_eq_getElem hrs.2)
          have q1 := blk_frozen hrcx (i * 2 + 1)
          have HFINAL := Aside0.mk ((Cx.store (hd := (Ab, was.length + 1, cb)) CX.out hqi).lower (Nat.le_of_lt HB0.out))
          have HGB := Aside0.mk (Nat.le_trans (Nat.le_of_lt HB0.out) (Kd.R_base CX.out.row g rfl))
          have BF := Aside0.mk (below_set (j := i * 2 + 1) (v := (.slice Ab (was.length + 1) cb)) Bb.out HGB.out)
          generalize rcx[i * 2 + 1]'hrs.2 = old at q0
          clear hrs CX hrcx
          go_wp2_with fail
          go_ret2
          exact ⟨⟨_, 0, _, _, rfl, HOK.out, HFIN.out (Ab, was.length + 1, cb), HFINAL.out⟩, BF.out⟩
    | false =>
      have HLA := Aside0.mk (show gone0 = lastV (wasV l i false) from rfl)
      have B7 := B5
      have K7 := K5
      have S7 := S5
      have G7 : Aside0 ((w4.alloc (.cells #[.int .i64 0, .bool true, .slice none 0 0] 25)).heap[w4.heap.size]? = some (.cells #[.int .i64 gone0.f0, .bool gone0.f1, .slice none 0 0] 25 (0, 0))) := G5
      generalize gone0 = la at HLA G7
      have y0 : (w4.alloc (.cells #[.int .i64 0, .bool true, .slice none 0 0] 25)).cell? ⟨w.heap.size, 0, none⟩ = some (.int .i64 vn) := (blk_cell K7.out 0).trans rfl
      have y1 : (w4.alloc (.cells #[.int .i64 0, .bool true, .slice none 0 0] 25)).cell? ⟨w.heap.size, 1, none⟩ = some (.bool vg) := (blk_cell K7.out 1).trans rfl
      have y2 : (w4.alloc (.cells #[.int .i64 0, .bool true, .slice none 0 0] 25)).cell? ⟨w.heap.size, 2, none⟩ = some (.slice A2 vt.length c2) := (blk_cell K7.out 2).trans rfl
      have z0 : (w4.alloc (.cells #[.int .i64 0, .bool true, .slice none 0 0] 25)).cell? ⟨w4.heap.size, 0, none⟩ = some (.int .i64 la.f0) := (blk_cell G7.out 0).trans rfl
      have z1 : (w4.alloc (.cells #[.int .i64 0, .bool true, .slice none 0 0] 25)).cell? ⟨w4.heap.size, 1, none⟩ = some (.bool la.f1) := (blk_cell G7.out 1).trans rfl
      obtain ⟨ln, lg, lt⟩ := la
      dsimp only at z0 z1 HLA
      by_cases m1 : vn ≤ ln
      · go_wp2_with fail
        go_ret2
        exact ⟨.nil (.old i false HRN.out HR.out (by dsimp only; omega) (by dsimp only; omega) HF.out (by rw [← HLA.out]; exact m1)), B7.out⟩
      by_cases m2 : 1000 < (vt.length : Int)
      · go_wp2_with fail
        go_ret2
        exact ⟨.nil (.long i false HRN.out HR.out (by dsimp only; omega) (by dsimp only; omega) HF.out (by rw [← HLA.out]; dsimp only; omega) (by dsimp only; omega)), B7.out⟩
      by_cases m3 : vg = true ∧ lg = true
      · obtain ⟨rfl, rfl⟩ := m3
        go_wp2_with fail
        go_ret2
        exact ⟨.nil (.none i false HRN.out HR.out (by dsimp only; omega) (by dsimp only; omega) HF.out (by rw [← HLA.out]; dsimp only; omega) (by dsimp only; omega) rfl (by rw [← HLA.out])), B7.out⟩
      have HM3 := Aside0.mk (show vg = true → (lastV (wasV l i false)).f1 = false by rw [← HLA.out]; intro h; dsimp only; cases lg with | false => rfl | true => exact absurd ⟨h, rfl⟩ m3)
      have hgg : (vg && lg) = false := by cases vg <;> cases lg <;> simp_all
      clear m3
      by_cases m4 : 24 ≤ (l.length : Int)
      · cases vg with
        | false =>
          go_wp2_with fail
          go_ret2
          exact ⟨.nil (.full i HRN.out HR.out (by dsimp only; omega) (by dsimp only; omega) HF.out (by rw [← HLA.out]; dsimp only; omega) (by dsimp only; omega) HM3.out (by omega)), B7.out⟩
        | true =>
          have hlg : lg = false := by simpa using hgg
          subst hlg
          go_wp2_with fail
          go_ret2
          exact ⟨.nil (.full i HRN.out HR.out (by dsimp only; omega) (by dsimp only; omega) HF.out (by rw [← HLA.out]; dsimp only; omega) (by dsimp only; omega) (fun _ => HM3.out trivial) (by omega)), B7.out⟩
      have HOK := Aside0.mk (WithP.ok (v := ⟨vn, vg, vt⟩) i false HRN.out HR.out (by dsimp only; omega) (by dsimp only; omega) HF.out (by rw [← HLA.out]; dsimp only; omega) (by dsimp only; omega) HM3.out (fun _ => by omega))
      clear HM3
      cases vg with
      | false =>
        go_wp2_with fail
        generalize (w4.alloc (.cells #[.int .i64 0, .bool true, .slice none 0 0] 25)) = w7 at B7 K7 S7 G7 ⊢
        clear y0 y1 y2 z0 z1
        refine (Copy_calls l A c w7 (Kd.C_below HC.out B7.out) hc (by omega) (fun x hx => ⟨(HX.out x hx).2.1, (HX.out x hx).2.2⟩)).mono ?_
        rintro e w8 ⟨u8, rfl, ps, hps, hcp, hb8⟩
        have B8 := Aside0.mk (B7.out.trans (hb8.mono B7.out.size))
        have K8 := Aside0.mk (blk_below K7.out hb8)
        have CP := Aside0.mk hcp
        have HPS := Aside0.mk hps
        have HB0 := Aside0.mk S7.out
        have HS8 := Aside0.mk hb8.size
        have HPL := Aside0.mk (show ps.length = l.length by rw [← hps, List.length_map])
        clear hb8 hcp hps K7 B7 S7 G7
        generalize w7.heap.size = b0 at CP HB0 HS8
        have V9 := Aside0.mk (blk_new w8 (.cells #[.string name, .slice none 0 0] 39))
        have CP9 := Aside0.mk (CP.out.below (below_alloc (Below.refl _ _) (.cells #[.string name, .slice none 0 0] 39)))
        have HVN := Aside0.mk (show u8.ownBlock ≠ some w8.heap.size from fun e => Nat.lt_irrefl _ (Kd.R_lt CP.out.row _ e))
        have B9 := Aside0.mk (below_alloc B8.out (.cells #[.string name, .slice none 0 0] 39))
        have K9 := Aside0.mk (blk_alloc K8.out (.cells #[.string name, .slice none 0 0] 39))
        have HS9 := Aside0.mk (show b0 ≤ (w8.alloc (.cells #[.string name, .slice none 0 0] 39)).heap.size by rw [alloc_size]; have := HS8.out; omega)
        clear CP B8 K8 HS8
        go_wp2_with fail
        generalize w8.alloc (.cells #[.string name, .slice none 0 0] 39) = w9 at V9 CP9 B9 K9 HS9 ⊢
        refine (Insert_calls ps i (⟨name, []⟩, (none, 0, 0)) u8 b0 w8.heap.size w9 CP9.out.row V9.out HVN.out (by rw [HPL.out]; exact HF.out.le) (by rw [HPL.out]; omega) HS9.out).mono ?_
        rintro e wA ⟨uA, rfl, hrA, hgA, hatA⟩
        have CP := Aside0.mk (CP9.out.insert i name hrA hgA)
        have hfar : ∀ k, u8.ownBlock = some k → w.heap.size ≤ k := fun k hk => Nat.le_trans (Nat.le_of_lt HB0.out) (Kd.R_base CP9.out.row k hk)
        have B8 := Aside0.mk (pw_below_grown B9.out _ B9.out.size hgA hfar)
        have K8 := Aside0.mk (blk_grown K9.out hgA (fun e => by have := Kd.R_base CP9.out.row _ e.symm; have := HB0.out; omega))
        have HS8 := Aside0.mk (Nat.le_trans HS9.out hgA.size)
        clear hrA hgA hatA hfar V9 CP9 HVN B9 K9 HS9
        have HPS2 := Aside0.mk (show (ps.take i ++ (⟨name, []⟩, (none, 0, 0)) :: ps.drop i).map Prod.fst = l.take i ++ ⟨name, []⟩ :: l.drop i by rw [List.map_append, List.map_cons, List.map_take, List.map_drop, HPS.out])
        have hli : i ≤ l.length := HF.out.le
        have hti : (ps.take i).length = i := by rw [List.length_take, HPL.out]; omega
        have HQI := Aside0.mk (show i < (ps.take i ++ ((⟨name, []⟩, (none, 0, 0)) : Sc × Hdr) :: ps.drop i).length by rw [List.length_append, List.length_cons, hti]; omega)
        have hget : (ps.take i ++ ((⟨name, []⟩, (none, 0, 0)) : Sc × Hdr) :: ps.drop i)[i]'HQI.out = (⟨name, []⟩, (none, 0, 0)) := by rw [List.getElem_append_right (by omega)]; simp [hti]
        have hlq : (ps.take i ++ ((⟨name, []⟩, (none, 0, 0)) : Sc × Hdr) :: ps.drop i).length = l.length + 1 := by rw [← List.length_map (f := Prod.fst), HPS2.out, List.length_append, List.length_cons, List.length_take, List.length_drop]; omega
        generalize (ps.take i ++ ((⟨name, []⟩, (none, 0, 0)) : Sc × Hdr) :: ps.drop i) = qs at CP HPS2 HQI hget hlq
        have HFIN := Aside0.mk (show ∀ hd : Hdr, (qs.set i (⟨(qs[i]'HQI.out).1.f0, cutV ((qs[i]'HQI.out).1.f1 ++ [⟨vn, false, vt⟩])⟩, hd)).map Prod.fst = moreL l name ⟨vn, false, vt⟩ i false from fun hd => by
          rw [List.map_set, HPS2.out, hget]
          unfold moreL
          rw [if_neg (by simp), List.set_append_right _ _ (by rw [List.length_take]; omega), List.length_take, Nat.min_eq_left hli, Nat.sub_self]
          rfl)
        have HWL := Aside0.mk (show (qs[i]'HQI.out).1.f1.length ≤ 4 by rw [hget]; simp)
        have CX := Aside0.mk (CP.out.cx i HQI.out)
        obtain ⟨A8, c8, hu8, hc8, _⟩ := Kd.R_reads CP.out.row
        obtain ⟨g, rfl⟩ : ∃ g, A8 = some ⟨g, 0, none⟩ := by
          obtain ⟨g, cap, hg, _⟩ := Kd.R_form CP.out.row (Nat.lt_of_le_of_lt (Nat.zero_le _) HQI.out)
          rw [hg] at hu8
          injection hu8 with h1 h2 h3
          exact ⟨g, h1.symm⟩
        subst hu8
        have hqi : i < qs.length := HQI.out
        clear CP HPS HPL hget hlq hti
        generalize wA = w8 at *
        have KH := Aside0.mk (show kK.R 25 w8 b0 (fun _ => True) (hv (qs[i]'hqi).2) (qs[i]'hqi).1.f1 from CX.out.all)
        generalize hwas : (qs[i]'hqi).1.f1 = was at CX HFIN HWL KH
        clear hwas
        generalize hhd : (qs[i]'hqi).2 = hd0 at CX KH
        have hcr : w8.cell? ⟨g, i * 2 + 1, none⟩ = some (hv hd0) := by
          obtain ⟨_, inner, ho, hreps⟩ := CX.out.row
          have h2 := kR_cells (hreps.2 i _ (List.getElem?_eq_getElem hqi))
          refine (show w8.cell? ⟨g, i * 2 + 1, none⟩ = w8.cell? ((⟨g, 0, none⟩ : Addr).add (i * 2 + 1)) by rw [add_plain]).trans (ho.cells (g := g) rfl (i * 2 + 1) _ ?_)
          have h3 : ((inner.drop (i * 2)).take 2)[1]? = some (hv (qs[i]'hqi).2) := by rw [show (inner.drop (i * 2)).take 2 = _ from h2]; rfl
          rw [List.getElem?_take, if_pos (by omega), List.getElem?_drop] at h3
          rw [h3, hhd]
        clear hhd
        have hrb : ∃ cells, w8.heap[g]? = some (.cells cells 39 (0, 0)) := by
          obtain ⟨_, inner, ho, _⟩ := CX.out.row
          exact own_typed ho g rfl
        obtain ⟨rc, hrc⟩ := hrb
        have XN := Aside0.mk (show some g ≠ (hv hd0).ownBlock from fun e => Kd.R_ne KH.out hrc (by decide) e)
        have YN := Aside0.mk (show some w.heap.size ≠ (hv hd0).ownBlock from fun e => by have := Kd.R_base KH.out _ e.symm; have := HB0.out; omega)
        obtain ⟨A0, n0, c0⟩ := hd0
        obtain ⟨rfl, hl0, _⟩ := Kd.R_reads' (A := A0) (n := n0) (c := c0) KH.out
        have hin : (i : Int) < (qs.length : Int) := by omega
        have hi0 : (0 : Int) ≤ (i : Int) := by omega
        go_wp2_with fail
        have hg9 := World.grownBy.trans (show w8.grownBy w8.drew none from ⟨rfl, rfl, rfl, Nat.le_refl _, fun _ _ _ => rfl⟩) (show w8.drew.grownBy w8.drew none from ⟨rfl, rfl, rfl, Nat.le_refl _, fun _ _ _ => rfl⟩)
        clear hg9
        have CX9 := Aside0.mk (CX.out.below (below_drew (Below.refl _ _)))
        have B9 := Aside0.mk (below_drew B8.out)
        have K9 := Aside0.mk (blk_drew K8.out)
        have HS9 := Aside0.mk (show b0 ≤ w8.drew.heap.size from HS8.out)
        have X0 := Aside0.mk (show w8.drew.cell? ⟨g, i * 2 + 1, none⟩ = some (.slice A0 was.length c0) from hcr)
        have RC9 := Aside0.mk (blk_drew hrc)
        clear CX KH hcr hrc B8 K8 HS8
        have Y0 := Aside0.mk ((blk_cell K9.out 0).trans (show _ = some (Value.int .i64 vn) from rfl))
        have Y1 := Aside0.mk ((blk_cell K9.out 1).trans (show _ = some (Value.bool false) from rfl))
        have Y2 := Aside0.mk ((blk_cell K9.out 2).trans (show _ = some (Value.slice A2 vt.length c2) from rfl))
        refine wp_region_noPanic ?_
        refine wp_region_held_drew (S := fun W => w8.drew.grownBy W (Value.slice A0 was.length c0).ownBlock) (by kernel_rfl) (⟨rfl, rfl, rfl, Nat.le_refl _, fun _ _ _ => rfl⟩) (fun hHeld => ?_)
        generalize w8.drew = w9 at CX9 B9 K9 HS9 X0 RC9 Y0 Y1 Y2 hHeld ⊢
        refine wpAnyH_take (i := 0) (oi := { dst := some 89, op := _, type := _, pos := _, after := _, guard := _ }) (v := ?_) rfl (by kernel_rfl) (by kernel_rfl) (by kernel_rfl) (fun _ _ _ h => h) (Or.inl ⟨by rfl, ?_⟩) hHeld ?_
        rotate_left
        · (intro w hSw; go_simp) <;> (with_reducible rfl)
        try simp only [Act.put, List.setIfInBounds_toArray, List.set_cons_zero, List.set_cons_succ]
        refine wpAnyH_take (i := 1) (oi := { dst := some 90, op := _, type := _, pos := _, after := _, guard := _ }) (v := ?_) rfl (by kernel_rfl) (by kernel_rfl) (by kernel_rfl) (fun _ _ _ h => h) (Or.inl ⟨by rfl, ?_⟩) hHeld ?_
        rotate_left
        · (intro w hSw; go_simp) <;> (with_reducible rfl)
        try simp only [Act.put, List.setIfInBounds_toArray, List.set_cons_zero, List.set_cons_succ]
        refine wpAnyH_take (i := 2) (oi := { dst := some 91, op := _, type := _, pos := _, after := _, guard := _ }) (v := ?_) rfl (by kernel_rfl) (by kernel_rfl) (by kernel_rfl) (fun _ _ _ h => h) (Or.inl ⟨by rfl, ?_⟩) hHeld ?_
        rotate_left
        · (intro w hSw; go_simp) <;> (with_reducible rfl)
        try simp only [Act.put, List.setIfInBounds_toArray, List.set_cons_zero, List.set_cons_succ]
        refine wpAnyH_take (i := 3) (oi := { dst := some 92, op := _, type := _, pos := _, after := _, guard := _ }) (v := ?_) rfl (by kernel_rfl) (by kernel_rfl) (by kernel_rfl) (fun _ _ _ h => h) (Or.inl ⟨by rfl, ?_⟩) hHeld ?_
        rotate_left
        · (intro w hSw; go_simp) <;> (with_reducible rfl)
        try simp only [Act.put, List.setIfInBounds_toArray, List.set_cons_zero, List.set_cons_succ]
        refine wpAnyH_take (i := 4) (oi := { dst := some 93, op := _, type := _, pos := _, after := _, guard := _ }) (v := ?_) rfl (by kernel_rfl) (by kernel_rfl) (by kernel_rfl) (fun _ _ _ h => h) (Or.inl ⟨by rfl, ?_⟩) hHeld ?_
        rotate_left
        · (intro w hSw; have s0 := hSw.cell X0.out XN.out; go_simp) <;> (with_reducible rfl)
        try simp only [Act.put, List.setIfInBounds_toArray, List.set_cons_zero, List.set_cons_succ]
        refine wpAnyH_take (i := 5) (oi := { dst := some 94, op := _, type := _, pos := _, after := _, guard := _ }) (v := ?_) rfl (by kernel_rfl) (by kernel_rfl) (by kernel_rfl) (fun _ _ _ h => h) (Or.inl ⟨by rfl, ?_⟩) hHeld ?_
        rotate_left
        · (intro w hSw; have s1 := hSw.cell Y0.out YN.out; have s2 := hSw.cell Y1.out YN.out; have s3 := hSw.cell Y2.out YN.out; go_simp) <;> (with_reducible rfl)
        try simp only [Act.put, List.setIfInBounds_toArray, List.set_cons_zero, List.set_cons_succ]
        refine wpAnyH_ready (rs := [6]) (by kernel_rfl) (by simp) (AllReadyH.cons (o := { dst := some 95, op := _, type := _, pos := _, after := _, guard := _ }) rfl (fun K hK => ?_) AllReadyH.nil)
        go_simp
        refine (own_calls ⟨vn, false, vt⟩ A2 c2 w9 (Kd.C_below HV.out B9.out) hvc (Nat.le_trans hvl (by decide))).mono ?_
        rintro e wa ⟨tv, rfl, hta, hba⟩
        have Ba := Aside0.mk (B9.out.trans (hba.mono B9.out.size))
        have CXa := Aside0.mk (CX9.out.below hba)
        have Ka := Aside0.mk (blk_below K9.out hba)
        have RCa := Aside0.mk (blk_below RC9.out hba)
        have HSa := Aside0.mk (Nat.le_trans HS9.out hba.size)
        have Ga := Aside0.mk (grown_of_below hba (Value.slice A0 was.length c0).ownBlock)
        have hfr : ∀ k, w9.heap.size ≤ k → some k ≠ (Value.slice A0 was.length c0).ownBlock := fun k hk e => by have := Kd.R_lt CX9.out.all k e.symm; omega
        have HTa := Aside0.mk (Kd.R_lower (Kd.R_mono (ok' := fun k => w9.heap.size ≤ k) (Kd.R_bound hta) (fun k hk => hk.2.1)) HS9.out)
        obtain ⟨At, ct, rfl, _, _⟩ := Kd.R_reads hta
        clear hta hba CX9 K9 RC9 B9
        refine hK.out _ _ (Ga.out) (fun hHeld2 => ?_)
        clear hK K hHeld
        have hHeld := hHeld2
        clear hHeld2
        try simp only [Act.put, List.setIfInBounds_toArray, List.set_cons_zero, List.set_cons_succ]
        refine wpAnyH_ready (rs := [7]) (by kernel_rfl) (by simp) (AllReadyH.cons (o := { dst := some 96, op := _, type := _, pos := _, after := _, guard := _ }) rfl (fun K hK => ?_) AllReadyH.nil)
        go_simp
        refine hK.out _ _ (Ga.out.trans (World.grownBy_alloc _ _ _)) (fun hHeld2 => ?_)
        clear hK K hHeld
        have hHeld := hHeld2
        clear hHeld2
        try simp only [Act.put, List.setIfInBounds_toArray, List.set_cons_zero, List.set_cons_succ]
        refine wpAnyH_ready (rs := [8]) (by kernel_rfl) (by simp) (AllReadyH.cons (o := { dst := some 97, op := _, type := _, pos := _, after := _, guard := _ }) rfl (fun K hK => ?_) AllReadyH.nil)
        refine Kd.R_append_step kK (w0 := wa) b0 ?aW (.tmp 93) (.tmp 96) 37 25 (.agg #[.int .i64 0, .bool false, .slice none 0 0]) 40 rfl Tryd.underlying37 info25 rfl (by decide) (by omega) (.slice A0 was.length c0) was ⟨vn, false, vt⟩ [.int .i64 vn, .bool false, .slice At vt.length ct] (fun _ => True) (fun k => w9.heap.size ≤ k) rfl ?aX ?aP ?aQ ?aF ?aO ?aB ?aS ?aL ?_
        (case aW => rfl)
        (case aX => rfl)
        (case aP => exact k25_mkM _ _ _ ⟨vn, false, vt⟩ HTa.out)
        (case aQ => exact fun k hk => ⟨trivial, hfr k hk⟩)
        (case aF => exact fun _ _ => trivial)
        (case aO => exact CXa.out.all)
        (case aB => exact Below.refl _ _)
        (case aS => exact HSa.out)
        (case aL => have := HWL.out; omega)
        intro ub wb hrb hbb hgb hatb
        have CXb := Aside0.mk (CXa.out.step hgb hrb hatb)
        have Bb := Aside0.mk (pw_below_grown Ba.out _ Ba.out.size hgb (fun k hk => by have := Kd.R_base CXa.out.all k hk; have := HB0.out; omega))
        have Kb := Aside0.mk (blk_grown Ka.out hgb (fun e => YN.out e))
        have RCb := Aside0.mk (blk_grown RCa.out hgb (fun e => XN.out e))
        refine hK.out _ _ (Ga.out.trans hgb) (fun hHeld2 => ?_)
        clear hK K hHeld
        have hHeld := hHeld2
        clear hHeld2 CXa Ka RCa Ga HTa hrb hgb hatb Ba hfr
        try simp only [Act.put, List.setIfInBounds_toArray, List.set_cons_zero, List.set_cons_succ]
        refine wpAnyH_take (i := 9) (oi := { dst := some 12, op := _, type := _, pos := _, after := _, guard := _ }) (v := ?_) rfl (by kernel_rfl) (by kernel_rfl) (by kernel_rfl) (fun _ _ _ h => h) (Or.inl ⟨by rfl, ?_⟩) hHeld ?_
        rotate_left
        · (intro w hSw; go_simp) <;> (with_reducible rfl)
        try simp only [Act.put, List.setIfInBounds_toArray, List.set_cons_zero, List.set_cons_succ]
        refine wpAnyH_done (by kernel_rfl) ?_ _
        refine NoPanic.normal ?_
        clear hHeld X0 Y0 Y1 Y2 XN YN HSa HS9
        obtain ⟨Ab, cb, hub, _, _⟩ := Kd.R_reads CXb.out.all
        rw [List.length_append, List.length_singleton] at hub
        subst hub
        by_cases hcut : 4 < ((was.length + 1 : Nat) : Int)
        · have hw4 : was.length = 4 := by have := HWL.out; omega
          obtain ⟨x1, x2, x3, x4, hx4⟩ : ∃ x1 x2 x3 x4, was = [x1, x2, x3, x4] := by
            match was, hw4 with
            | [a, b, c, d], _ => exact ⟨a, b, c, d, rfl⟩
          subst hx4
          have CX := CXb
          clear CXb
          go_wp2_with fail
          refine (Delete_calls x1 [x2, x3, x4, ⟨vn, false, vt⟩] _ b0 (fun _ => True) wb CX.out.all).mono ?_
          rintro e wc ⟨uc, rfl, hrc, hgc, hatc⟩
          have CXc := Aside0.mk (CX.out.step hgc hrc (.inl hatc))
          have Bc := Aside0.mk (pw_below_grown Bb.out _ Bb.out.size hgc (fun k hk => by have := Kd.R_base CX.out.all k hk; have := HB0.out; omega))
          clear hgc hatc hrc CX Bb Kb RCb
          obtain ⟨Ac, cc, huc, hlc, hCc⟩ := Kd.R_reads CXc.out.all
          have huc' : uc = .slice Ac 4 cc := huc
          subst huc'
          clear huc
          obtain ⟨ac, A9, c9, eac, hx0, hx1, hx2, _, _⟩ := at_T25 hCc 0 (by omega) (by simp)
          subst eac
          rw [show rd_T25 [x2, x3, x4, ⟨vn, false, vt⟩] 0 = x2 from rfl] at hx1
          have hx1' : wc.cell? ⟨ac.block, ac.off + 1, none⟩ = some (.bool x2.f1) := by
            have := hx1
            simpa [Addr.add] using this
          clear hx0 hx1 hx2 hCc hlc
          cases hg2 : x2.f1 with
          | false =>
            rw [hg2] at hx1'
            have HFX := Aside0.mk (show cutV ([x1, x2, x3, x4] ++ [⟨vn, false, vt⟩]) = [x2, x3, x4, ⟨vn, false, vt⟩] from cut_there (by simp) hg2)
            rw [HFX.out] at HFIN
            have CX := CXc
            clear CXc
            obtain ⟨rcx, hrcx⟩ := own_typed (Kd.R_own CX.out.row).choose_spec g rfl
            have hrs : rcx.size = c8 * 2 ∧ i * 2 + 1 < rcx.size := by
              obtain ⟨_, inner, ⟨_, hcase⟩, _⟩ := CX.out.row
              rcases hcase with ⟨hnil, _⟩ | ⟨g', cap, cur, hv0, _, hh, hn, _, hsz, _⟩
              · cases hnil
              · injection hv0 with h1 h2 h3
                injection h1 with h1
                injection h1 with h1
                subst h1 h3
                rw [hrcx] at hh
                injection hh with hh
                injection hh with hh
                subst hh
                exact ⟨hsz, by rw [show rcx.size = c8 * 2 from hsz]; omega⟩
            have q0 : wc.cell? ⟨g, i * 2 + 1, none⟩ = some (rcx[i * 2 + 1]'hrs.2) := (blk_cell hrcx _).trans (Array.getElem?_eq_getElem hrs.2)
            have q1 := blk_frozen hrcx (i * 2 + 1)
            have HFINAL := Aside0.mk ((Cx.store (hd := (some ac, 4, cc)) CX.out hqi).lower (Nat.le_of_lt HB0.out))
            have HGB := Aside0.mk (Nat.le_trans (Nat.le_of_lt HB0.out) (Kd.R_base CX.out.row g rfl))
            have BF := Aside0.mk (below_set (j := i * 2 + 1) (v := (.slice (some ac) 4 cc)) Bc.out HGB.out)
            generalize rcx[i * 2 + 1]'hrs.2 = old at q0
            clear hrs CX hrcx
            go_wp2_with fail
            go_ret2
            exact ⟨⟨_, 0, _, _, rfl, HOK.out, HFIN.out (some ac, 4, cc), HFINAL.out⟩, BF.out⟩
          | true =>
            rw [hg2] at hx1'
            have HFX := Aside0.mk (show cutV ([x1, x2, x3, x4] ++ [⟨vn, false, vt⟩]) = [x3, x4, ⟨vn, false, vt⟩] from cut_gone (by simp) hg2)
            rw [HFX.out] at HFIN
            go_wp2_with fail
            refine (Delete_calls x2 [x3, x4, ⟨vn, false, vt⟩] _ b0 (fun _ => True) wc CXc.out.all).mono ?_
            rintro e wd ⟨ud, rfl, hrd, hgd, hatd⟩
            have CXd := Aside0.mk (CXc.out.step hgd hrd (.inl hatd))
            have Bd := Aside0.mk (pw_below_grown Bc.out _ Bc.out.size hgd (fun k hk => by have := Kd.R_base CXc.out.all k hk; have := HB0.out; omega))
            clear hgd hatd hrd CXc Bc hx1'
            obtain ⟨Ad, cd, hud, _, _⟩ := Kd.R_reads CXd.out.all
            have hud' : ud = .slice Ad 3 cd := hud
            subst hud'
            clear hud
            have CX := CXd
            clear CXd
            obtain ⟨rcx, hrcx⟩ := own_typed (Kd.R_own CX.out.row).choose_spec g rfl
            have hrs : rcx.size = c8 * 2 ∧ i * 2 + 1 < rcx.size := by
              obtain ⟨_, inner, ⟨_, hcase⟩, _⟩ := CX.out.row
              rcases hcase with ⟨hnil, _⟩ | ⟨g', cap, cur, hv0, _, hh, hn, _, hsz, _⟩
              · cases hnil
              · injection hv0 with h1 h2 h3
                injection h1 with h1
                injection h1 with h1
                subst h1 h3
                rw [hrcx] at hh
                injection hh with hh
                injection hh with hh
                subst hh
                exact ⟨hsz, by rw [show rcx.size = c8 * 2 from hsz]; omega⟩
            have q0 : wd.cell? ⟨g, i * 2 + 1, none⟩ = some (rcx[i * 2 + 1]'hrs.2) := (blk_cell hrcx _).trans (Array.getElem?_eq_getElem hrs.2)
            have q1 := blk_frozen hrcx (i * 2 + 1)
            have HFINAL := Aside0.mk ((Cx.store (hd := (Ad, 3, cd)) CX.out hqi).lower (Nat.le_of_lt HB0.out))
            have HGB := Aside0.mk (Nat.le_trans (Nat.le_of_lt HB0.out) (Kd.R_base CX.out.row g rfl))
            have BF := Aside0.mk (below_set (j := i * 2 + 1) (v := (.slice Ad 3 cd)) Bd.out HGB.out)
            generalize rcx[i * 2 + 1]'hrs.2 = old at q0
            clear hrs CX hrcx
            go_wp2_with fail
            go_ret2
            exact ⟨⟨_, 0, _, _, rfl, HOK.out, HFIN.out (Ad, 3, cd), HFINAL.out⟩, BF.out⟩
        · have HFX := Aside0.mk (show cutV (was ++ [⟨vn, false, vt⟩]) = was ++ [⟨vn, false, vt⟩] from cut_short (by rw [List.length_append, List.length_singleton]; omega))
          rw [HFX.out] at HFIN
          have CX := CXb
          clear CXb
          obtain ⟨rcx, hrcx⟩ := own_typed (Kd.R_own CX.out.row).choose_spec g rfl
          have hrs : rcx.size = c8 * 2 ∧ i * 2 + 1 < rcx.size := by
            obtain ⟨_, inner, ⟨_, hcase⟩, _⟩ := CX.out.row
            rcases hcase with ⟨hnil, _⟩ | ⟨g', cap, cur, hv0, _, hh, hn, _, hsz, _⟩
            · cases hnil
            · injection hv0 with h1 h2 h3
              injection h1 with h1
              injection h1 with h1
              subst h1 h3
              rw [hrcx] at hh
              injection hh with hh
              injection hh with hh
              subst hh
              exact ⟨hsz, by rw [show rcx.size = c8 * 2 from hsz]; omega⟩
          have q0 : wb.cell? ⟨g, i * 2 + 1, none⟩ = some (rcx[i * 2 + 1]'hrs.2) := (blk_cell hrcx _).trans (Array.getElem?_eq_getElem hrs.2)
          have q1 := blk_frozen hrcx (i * 2 + 1)
          have HFINAL := Aside0.mk ((Cx.store (hd := (Ab, was.length + 1, cb)) CX.out hqi).lower (Nat.le_of_lt HB0.out))
          have HGB := Aside0.mk (Nat.le_trans (Nat.le_of_lt HB0.out) (Kd.R_base CX.out.row g rfl))
          have BF := Aside0.mk (below_set (j := i * 2 + 1) (v := (.slice Ab (was.length + 1) cb)) Bb.out HGB.out)
          generalize rcx[i * 2 + 1]'hrs.2 = old at q0
          clear hrs CX hrcx
          go_wp2_with fail
          go_ret2
          exact ⟨⟨_, 0, _, _, rfl, HOK.out, HFIN.out (Ab, was.length + 1, cb), HFINAL.out⟩, BF.out⟩
      | true =>
        have hlg : lg = false := by simpa using hgg
        subst hlg
        go_wp2_with fail
        generalize (w4.alloc (.cells #[.int .i64 0, .bool true, .slice none 0 0] 25)) = w7 at B7 K7 S7 G7 ⊢
        clear y0 y1 y2 z0 z1
        refine (Copy_calls l A c w7 (Kd.C_below HC.out B7.out) hc (by omega) (fun x hx => ⟨(HX.out x hx).2.1, (HX.out x hx).2.2⟩)).mono ?_
        rintro e w8 ⟨u8, rfl, ps, hps, hcp, hb8⟩
        have B8 := Aside0.mk (B7.out.trans (hb8.mono B7.out.size))
        have K8 := Aside0.mk (blk_below K7.out hb8)
        have CP := Aside0.mk hcp
        have HPS := Aside0.mk hps
        have HB0 := Aside0.mk S7.out
        have HS8 := Aside0.mk hb8.size
        have HPL := Aside0.mk (show ps.length = l.length by rw [← hps, List.length_map])
        clear hb8 hcp hps K7 B7 S7 G7
        generalize w7.heap.size = b0 at CP HB0 HS8
        have V9 := Aside0.mk (blk_new w8 (.cells #[.string name, .slice none 0 0] 39))
        have CP9 := Aside0.mk (CP.out.below (below_alloc (Below.refl _ _) (.cells #[.string name, .slice none 0 0] 39)))
        have HVN := Aside0.mk (show u8.ownBlock ≠ some w8.heap.size from fun e => Nat.lt_irrefl _ (Kd.R_lt CP.out.row _ e))
        have B9 := Aside0.mk (below_alloc B8.out (.cells #[.string name, .slice none 0 0] 39))
        have K9 := Aside0.mk (blk_alloc K8.out (.cells #[.string name, .slice none 0 0] 39))
        have HS9 := Aside0.mk (show b0 ≤ (w8.alloc (.cells #[.string name, .slice none 0 0] 39)).heap.size by rw [alloc_size]; have := HS8.out; omega)
        clear CP B8 K8 HS8
        go_wp2_with fail
        generalize w8.alloc (.cells #[.string name, .slice none 0 0] 39) = w9 at V9 CP9 B9 K9 HS9 ⊢
        refine (Insert_calls ps i (⟨name, []⟩, (none, 0, 0)) u8 b0 w8.heap.size w9 CP9.out.row V9.out HVN.out (by rw [HPL.out]; exact HF.out.le) (by rw [HPL.out]; omega) HS9.out).mono ?_
        rintro e wA ⟨uA, rfl, hrA, hgA, hatA⟩
        have CP := Aside0.mk (CP9.out.insert i name hrA hgA)
        have hfar : ∀ k, u8.ownBlock = some k → w.heap.size ≤ k := fun k hk => Nat.le_trans (Nat.le_of_lt HB0.out) (Kd.R_base CP9.out.row k hk)
        have B8 := Aside0.mk (pw_below_grown B9.out _ B9.out.size hgA hfar)
        have K8 := Aside0.mk (blk_grown K9.out hgA (fun e => by have := Kd.R_base CP9.out.row _ e.symm; have := HB0.out; omega))
        have HS8 := Aside0.mk (Nat.le_trans HS9.out hgA.size)
        clear hrA hgA hatA hfar V9 CP9 HVN B9 K9 HS9
        have HPS2 := Aside0.mk (show (ps.take i ++ (⟨name, []⟩, (none, 0, 0)) :: ps.drop i).map Prod.fst = l.take i ++ ⟨name, []⟩ :: l.drop i by rw [List.map_append, List.map_cons, List.map_take, List.map_drop, HPS.out])
        have hli : i ≤ l.length := HF.out.le
        have hti : (ps.take i).length = i := by rw [List.length_take, HPL.out]; omega
        have HQI := Aside0.mk (show i < (ps.take i ++ ((⟨name, []⟩, (none, 0, 0)) : Sc × Hdr) :: ps.drop i).length by rw [List.length_append, List.length_cons, hti]; omega)
        have hget : (ps.take i ++ ((⟨name, []⟩, (none, 0, 0)) : Sc × Hdr) :: ps.drop i)[i]'HQI.out = (⟨name, []⟩, (none, 0, 0)) := by rw [List.getElem_append_right (by omega)]; simp [hti]
        have hlq : (ps.take i ++ ((⟨name, []⟩, (none, 0, 0)) : Sc × Hdr) :: ps.drop i).length = l.length + 1 := by rw [← List.length_map (f := Prod.fst), HPS2.out, List.length_append, List.length_cons, List.length_take, List.length_drop]; omega
        generalize (ps.take i ++ ((⟨name, []⟩, (none, 0, 0)) : Sc × Hdr) :: ps.drop i) = qs at CP HPS2 HQI hget hlq
        have HFIN := Aside0.mk (show ∀ hd : Hdr, (qs.set i (⟨(qs[i]'HQI.out).1.f0, cutV ((qs[i]'HQI.out).1.f1 ++ [⟨vn, true, vt⟩])⟩, hd)).map Prod.fst = moreL l name ⟨vn, true, vt⟩ i false from fun hd => by
          rw [List.map_set, HPS2.out, hget]
          unfold moreL
          rw [if_neg (by simp), List.set_append_right _ _ (by rw [List.length_take]; omega), List.length_take, Nat.min_eq_left hli, Nat.sub_self]
          rfl)
        have HWL := Aside0.mk (show (qs[i]'HQI.out).1.f1.length ≤ 4 by rw [hget]; simp)
        have CX := Aside0.mk (CP.out.cx i HQI.out)
        obtain ⟨A8, c8, hu8, hc8, _⟩ := Kd.R_reads CP.out.row
        obtain ⟨g, rfl⟩ : ∃ g, A8 = some ⟨g, 0, none⟩ := by
          obtain ⟨g, cap, hg, _⟩ := Kd.R_form CP.out.row (Nat.lt_of_le_of_lt (Nat.zero_le _) HQI.out)
          rw [hg] at hu8
          injection hu8 with h1 h2 h3
          exact ⟨g, h1.symm⟩
        subst hu8
        have hqi : i < qs.length := HQI.out
        clear CP HPS HPL hget hlq hti
        generalize wA = w8 at *
        have KH := Aside0.mk (show kK.R 25 w8 b0 (fun _ => True) (hv (qs[i]'hqi).2) (qs[i]'hqi).1.f1 from CX.out.all)
        generalize hwas : (qs[i]'hqi).1.f1 = was at CX HFIN HWL KH
        clear hwas
        generalize hhd : (qs[i]'hqi).2 = hd0 at CX KH
        have hcr : w8.cell? ⟨g, i * 2 + 1, none⟩ = some (hv hd0) := by
          obtain ⟨_, inner, ho, hreps⟩ := CX.out.row
          have h2 := kR_cells (hreps.2 i _ (List.getElem?_eq_getElem hqi))
          refine (show w8.cell? ⟨g, i * 2 + 1, none⟩ = w8.cell? ((⟨g, 0, none⟩ : Addr).add (i * 2 + 1)) by rw [add_plain]).trans (ho.cells (g := g) rfl (i * 2 + 1) _ ?_)
          have h3 : ((inner.drop (i * 2)).take 2)[1]? = some (hv (qs[i]'hqi).2) := by rw [show (inner.drop (i * 2)).take 2 = _ from h2]; rfl
          rw [List.getElem?_take, if_pos (by omega), List.getElem?_drop] at h3
          rw [h3, hhd]
        clear hhd
        have hrb : ∃ cells, w8.heap[g]? = some (.cells cells 39 (0, 0)) := by
          obtain ⟨_, inner, ho, _⟩ := CX.out.row
          exact own_typed ho g rfl
        obtain ⟨rc, hrc⟩ := hrb
        have XN := Aside0.mk (show some g ≠ (hv hd0).ownBlock from fun e => Kd.R_ne KH.out hrc (by decide) e)
        have YN := Aside0.mk (show some w.heap.size ≠ (hv hd0).ownBlock from fun e => by have := Kd.R_base KH.out _ e.symm; have := HB0.out; omega)
        obtain ⟨A0, n0, c0⟩ := hd0
        obtain ⟨rfl, hl0, _⟩ := Kd.R_reads' (A := A0) (n := n0) (c := c0) KH.out
        have hin : (i : Int) < (qs.length : Int) := by omega
        have hi0 : (0 : Int) ≤ (i : Int) := by omega
        go_wp2_with fail
        have hg9 := World.grownBy.trans (show w8.grownBy w8.drew none from ⟨rfl, rfl, rfl, Nat.le_refl _, fun _ _ _ => rfl⟩) (show w8.drew.grownBy w8.drew none from ⟨rfl, rfl, rfl, Nat.le_refl _, fun _ _ _ => rfl⟩)
        clear hg9
        have CX9 := Aside0.mk (CX.out.below (below_drew (Below.refl _ _)))
        have B9 := Aside0.mk (below_drew B8.out)
        have K9 := Aside0.mk (blk_drew K8.out)
        have HS9 := Aside0.mk (show b0 ≤ w8.drew.heap.size from HS8.out)
        have X0 := Aside0.mk (show w8.drew.cell? ⟨g, i * 2 + 1, none⟩ = some (.slice A0 was.length c0) from hcr)
        have RC9 := Aside0.mk (blk_drew hrc)
        clear CX KH hcr hrc B8 K8 HS8
        have Y0 := Aside0.mk ((blk_cell K9.out 0).trans (show _ = some (Value.int .i64 vn) from rfl))
        have Y1 := Aside0.mk ((blk_cell K9.out 1).trans (show _ = some (Value.bool true) from rfl))
        have Y2 := Aside0.mk ((blk_cell K9.out 2).trans (show _ = some (Value.slice A2 vt.length c2) from rfl))
        refine wp_region_noPanic ?_
        refine wp_region_held_drew (S := fun W => w8.drew.grownBy W (Value.slice A0 was.length c0).ownBlock) (by kernel_rfl) (⟨rfl, rfl, rfl, Nat.le_refl _, fun _ _ _ => rfl⟩) (fun hHeld => ?_)
        generalize w8.drew = w9 at CX9 B9 K9 HS9 X0 RC9 Y0 Y1 Y2 hHeld ⊢
        refine wpAnyH_take (i := 0) (oi := { dst := some 89, op := _, type := _, pos := _, after := _, guard := _ }) (v := ?_) rfl (by kernel_rfl) (by kernel_rfl) (by kernel_rfl) (fun _ _ _ h => h) (Or.inl ⟨by rfl, ?_⟩) hHeld ?_
        rotate_left
        · (intro w hSw; go_simp) <;> (with_reducible rfl)
        try simp only [Act.put, List.setIfInBounds_toArray, List.set_cons_zero, List.set_cons_succ]
        refine wpAnyH_take (i := 1) (oi := { dst := some 90, op := _, type := _, pos := _, after := _, guard := _ }) (v := ?_) rfl (by kernel_rfl) (by kernel_rfl) (by kernel_rfl) (fun _ _ _ h => h) (Or.inl ⟨by rfl, ?_⟩) hHeld ?_
        rotate_left
        · (intro w hSw; go_simp) <;> (with_reducible rfl)
        try simp only [Act.put, List.setIfInBounds_toArray, List.set_cons_zero, List.set_cons_succ]
        refine wpAnyH_take (i := 2) (oi := { dst := some 91, op := _, type := _, pos := _, after := _, guard := _ }) (v := ?_) rfl (by kernel_rfl) (by kernel_rfl) (by kernel_rfl) (fun _ _ _ h => h) (Or.inl ⟨by rfl, ?_⟩) hHeld ?_
        rotate_left
        · (intro w hSw; go_simp) <;> (with_reducible rfl)
        try simp only [Act.put, List.setIfInBounds_toArray, List.set_cons_zero, List.set_cons_succ]
        refine wpAnyH_take (i := 3) (oi := { dst := some 92, op := _, type := _, pos := _, after := _, guard := _ }) (v := ?_) rfl (by kernel_rfl) (by kernel_rfl) (by kernel_rfl) (fun _ _ _ h => h) (Or.inl ⟨by rfl, ?_⟩) hHeld ?_
        rotate_left
        · (intro w hSw; go_simp) <;> (with_reducible rfl)
        try simp only [Act.put, List.setIfInBounds_toArray, List.set_cons_zero, List.set_cons_succ]
        refine wpAnyH_take (i := 4) (oi := { dst := some 93, op := _, type := _, pos := _, after := _, guard := _ }) (v := ?_) rfl (by kernel_rfl) (by kernel_rfl) (by kernel_rfl) (fun _ _ _ h => h) (Or.inl ⟨by rfl, ?_⟩) hHeld ?_
        rotate_left
        · (intro w hSw; have s0 := hSw.cell X0.out XN.out; go_simp) <;> (with_reducible rfl)
        try simp only [Act.put, List.setIfInBounds_toArray, List.set_cons_zero, List.set_cons_succ]
        refine wpAnyH_take (i := 5) (oi := { dst := some 94, op := _, type := _, pos := _, after := _, guard := _ }) (v := ?_) rfl (by kernel_rfl) (by kernel_rfl) (by kernel_rfl) (fun _ _ _ h => h) (Or.inl ⟨by rfl, ?_⟩) hHeld ?_
        rotate_left
        · (intro w hSw; have s1 := hSw.cell Y0.out YN.out; have s2 := hSw.cell Y1.out YN.out; have s3 := hSw.cell Y2.out YN.out; go_simp) <;> (with_reducible rfl)
        try simp only [Act.put, List.setIfInBounds_toArray, List.set_cons_zero, List.set_cons_succ]
        refine wpAnyH_ready (rs := [6]) (by kernel_rfl) (by simp) (AllReadyH.cons (o := { dst := some 95, op := _, type := _, pos := _, after := _, guard := _ }) rfl (fun K hK => ?_) AllReadyH.nil)
        go_simp
        refine (own_calls ⟨vn, true, vt⟩ A2 c2 w9 (Kd.C_below HV.out B9.out) hvc (Nat.le_trans hvl (by decide))).mono ?_
        rintro e wa ⟨tv, rfl, hta, hba⟩
        have Ba := Aside0.mk (B9.out.trans (hba.mono B9.out.size))
        have CXa := Aside0.mk (CX9.out.below hba)
        have Ka := Aside0.mk (blk_below K9.out hba)
        have RCa := Aside0.mk (blk_below RC9.out hba)
        have HSa := Aside0.mk (Nat.le_trans HS9.out hba.size)
        have Ga := Aside0.mk (grown_of_below hba (Value.slice A0 was.length c0).ownBlock)
        have hfr : ∀ k, w9.heap.size ≤ k → some k ≠ (Value.slice A0 was.length c0).ownBlock := fun k hk e => by have := Kd.R_lt CX9.out.all k e.symm; omega
        have HTa := Aside0.mk (Kd.R_lower (Kd.R_mono (ok' := fun k => w9.heap.size ≤ k) (Kd.R_bound hta) (fun k hk => hk.2.1)) HS9.out)
        obtain ⟨At, ct, rfl, _, _⟩ := Kd.R_reads hta
        clear hta hba CX9 K9 RC9 B9
        refine hK.out _ _ (Ga.out) (fun hHeld2 => ?_)
        clear hK K hHeld
        have hHeld := hHeld2
        clear hHeld2
        try simp only [Act.put, List.setIfInBounds_toArray, List.set_cons_zero, List.set_cons_succ]
        refine wpAnyH_ready (rs := [7]) (by kernel_rfl) (by simp) (AllReadyH.cons (o := { dst := some 96, op := _, type := _, pos := _, after := _, guard := _ }) rfl (fun K hK => ?_) AllReadyH.nil)
        go_simp
        refine hK.out _ _ (Ga.out.trans (World.grownBy_alloc _ _ _)) (fun hHeld2 => ?_)
        clear hK K hHeld
        have hHeld := hHeld2
        clear hHeld2
        try simp only [Act.put, List.setIfInBounds_toArray, List.set_cons_zero, List.set_cons_succ]
        refine wpAnyH_ready (rs := [8]) (by kernel_rfl) (by simp) (AllReadyH.cons (o := { dst := some 97, op := _, type := _, pos := _, after := _, guard := _ }) rfl (fun K hK => ?_) AllReadyH.nil)
        refine Kd.R_append_step kK (w0 := wa) b0 ?aW (.tmp 93) (.tmp 96) 37 25 (.agg #[.int .i64 0, .bool false, .slice none 0 0]) 40 rfl Tryd.underlying37 info25 rfl (by decide) (by omega) (.slice A0 was.length c0) was ⟨vn, true, vt⟩ [.int .i64 vn, .bool true, .slice At vt.length ct] (fun _ => True) (fun k => w9.heap.size ≤ k) rfl ?aX ?aP ?aQ ?aF ?aO ?aB ?aS ?aL ?_
        (case aW => rfl)
        (case aX => rfl)
        (case aP => exact k25_mkM _ _ _ ⟨vn, true, vt⟩ HTa.out)
        (case aQ => exact fun k hk => ⟨trivial, hfr k hk⟩)
        (case aF => exact fun _ _ => trivial)
        (case aO => exact CXa.out.all)
        (case aB => exact Below.refl _ _)
        (case aS => exact HSa.out)
        (case aL => have := HWL.out; omega)
        intro ub wb hrb hbb hgb hatb
        have CXb := Aside0.mk (CXa.out.step hgb hrb hatb)
        have Bb := Aside0.mk (pw_below_grown Ba.out _ Ba.out.size hgb (fun k hk => by have := Kd.R_base CXa.out.all k hk; have := HB0.out; omega))
        have Kb := Aside0.mk (blk_grown Ka.out hgb (fun e => YN.out e))
        have RCb := Aside0.mk (blk_grown RCa.out hgb (fun e => XN.out e))
        refine hK.out _ _ (Ga.out.trans hgb) (fun hHeld2 => ?_)
        clear hK K hHeld
        have hHeld := hHeld2
        clear hHeld2 CXa Ka RCa Ga HTa hrb hgb hatb Ba hfr
        try simp only [Act.put, List.setIfInBounds_toArray, List.set_cons_zero, List.set_cons_succ]
        refine wpAnyH_take (i := 9) (oi := { dst := some 12, op := _, type := _, pos := _, after := _, guard := _ }) (v := ?_) rfl (by kernel_rfl) (by kernel_rfl) (by kernel_rfl) (fun _ _ _ h => h) (Or.inl ⟨by rfl, ?_⟩) hHeld ?_
        rotate_left
        · (intro w hSw; go_simp) <;> (with_reducible rfl)
        try simp only [Act.put, List.setIfInBounds_toArray, List.set_cons_zero, List.set_cons_succ]
        refine wpAnyH_done (by kernel_rfl) ?_ _
        refine NoPanic.normal ?_
        clear hHeld X0 Y0 Y1 Y2 XN YN HSa HS9
        obtain ⟨Ab, cb, hub, _, _⟩ := Kd.R_reads CXb.out.all
        rw [List.length_append, List.length_singleton] at hub
        subst hub
        by_cases hcut : 4 < ((was.length + 1 : Nat) : Int)
        · have hw4 : was.length = 4 := by have := HWL.out; omega
          obtain ⟨x1, x2, x3, x4, hx4⟩ : ∃ x1 x2 x3 x4, was = [x1, x2, x3, x4] := by
            match was, hw4 with
            | [a, b, c, d], _ => exact ⟨a, b, c, d, rfl⟩
          subst hx4
          have CX := CXb
          clear CXb
          go_wp2_with fail
          refine (Delete_calls x1 [x2, x3, x4, ⟨vn, true, vt⟩] _ b0 (fun _ => True) wb CX.out.all).mono ?_
          rintro e wc ⟨uc, rfl, hrc, hgc, hatc⟩
          have CXc := Aside0.mk (CX.out.step hgc hrc (.inl hatc))
          have Bc := Aside0.mk (pw_below_grown Bb.out _ Bb.out.size hgc (fun k hk => by have := Kd.R_base CX.out.all k hk; have := HB0.out; omega))
          clear hgc hatc hrc CX Bb Kb RCb
          obtain ⟨Ac, cc, huc, hlc, hCc⟩ := Kd.R_reads CXc.out.all
          have huc' : uc = .slice Ac 4 cc := huc
          subst huc'
          clear huc
          obtain ⟨ac, A9, c9, eac, hx0, hx1, hx2, _, _⟩ := at_T25 hCc 0 (by omega) (by simp)
          subst eac
          rw [show rd_T25 [x2, x3, x4, ⟨vn, true, vt⟩] 0 = x2 from rfl] at hx1
          have hx1' : wc.cell? ⟨ac.block, ac.off + 1, none⟩ = some (.bool x2.f1) := by
            have := hx1
            simpa [Addr.add] using this
          clear hx0 hx1 hx2 hCc hlc
          cases hg2 : x2.f1 with
          | false =>
            rw [hg2] at hx1'
            have HFX := Aside0.mk (show cutV ([x1, x2, x3, x4] ++ [⟨vn, true, vt⟩]) = [x2, x3, x4, ⟨vn, true, vt⟩] from cut_there (by simp) hg2)
            rw [HFX.out] at HFIN
            have CX := CXc
            clear CXc
            obtain ⟨rcx, hrcx⟩ := own_typed (Kd.R_own CX.out.row).choose_spec g rfl
            have hrs : rcx.size = c8 * 2 ∧ i * 2 + 1 < rcx.size := by
              obtain ⟨_, inner, ⟨_, hcase⟩, _⟩ := CX.out.row
              rcases hcase with ⟨hnil, _⟩ | ⟨g', cap, cur, hv0, _, hh, hn, _, hsz, _⟩
              · cases hnil
              · injection hv0 with h1 h2 h3
                injection h1 with h1
                injection h1 with h1
                subst h1 h3
                rw [hrcx] at hh
                injection hh with hh
                injection hh with hh
                subst hh
                exact ⟨hsz, by rw [show rcx.size = c8 * 2 from hsz]; omega⟩
            have q0 : wc.cell? ⟨g, i * 2 + 1, none⟩ = some (rcx[i * 2 + 1]'hrs.2) := (blk_cell hrcx _).trans (Array.getElem?_eq_getElem hrs.2)
            have q1 := blk_frozen hrcx (i * 2 + 1)
            have HFINAL := Aside0.mk ((Cx.store (hd := (some ac, 4, cc)) CX.out hqi).lower (Nat.le_of_lt HB0.out))
            have HGB := Aside0.mk (Nat.le_trans (Nat.le_of_lt HB0.out) (Kd.R_base CX.out.row g rfl))
            have BF := Aside0.mk (below_set (j := i * 2 + 1) (v := (.slice (some ac) 4 cc)) Bc.out HGB.out)
            generalize rcx[i * 2 + 1]'hrs.2 = old at q0
            clear hrs CX hrcx
            go_wp2_with fail
            go_ret2
            exact ⟨⟨_, 0, _, _, rfl, HOK.out, HFIN.out (some ac, 4, cc), HFINAL.out⟩, BF.out⟩
          | true =>
            rw [hg2] at hx1'
            have HFX := Aside0.mk (show cutV ([x1, x2, x3, x4] ++ [⟨vn, true, vt⟩]) = [x3, x4, ⟨vn, true, vt⟩] from cut_gone (by simp) hg2)
            rw [HFX.out] at HFIN
            go_wp2_with fail
            refine (Delete_calls x2 [x3, x4, ⟨vn, true, vt⟩] _ b0 (fun _ => True) wc CXc.out.all).mono ?_
            rintro e wd ⟨ud, rfl, hrd, hgd, hatd⟩
            have CXd := Aside0.mk (CXc.out.step hgd hrd (.inl hatd))
            have Bd := Aside0.mk (pw_below_grown Bc.out _ Bc.out.size hgd (fun k hk => by have := Kd.R_base CXc.out.all k hk; have := HB0.out; omega))
            clear hgd hatd hrd CXc Bc hx1'
            obtain ⟨Ad, cd, hud, _, _⟩ := Kd.R_reads CXd.out.all
            have hud' : ud = .slice Ad 3 cd := hud
            subst hud'
            clear hud
            have CX := CXd
            clear CXd
            obtain ⟨rcx, hrcx⟩ := own_typed (Kd.R_own CX.out.row).choose_spec g rfl
            have hrs : rcx.size = c8 * 2 ∧ i * 2 + 1 < rcx.size := by
              obtain ⟨_, inner, ⟨_, hcase⟩, _⟩ := CX.out.row
              rcases hcase with ⟨hnil, _⟩ | ⟨g', cap, cur, hv0, _, hh, hn, _, hsz, _⟩
              · cases hnil
              · injection hv0 with h1 h2 h3
                injection h1 with h1
                injection h1 with h1
                subst h1 h3
                rw [hrcx] at hh
                injection hh with hh
                injection hh with hh
                subst hh
                exact ⟨hsz, by rw [show rcx.size = c8 * 2 from hsz]; omega⟩
            have q0 : wd.cell? ⟨g, i * 2 + 1, none⟩ = some (rcx[i * 2 + 1]'hrs.2) := (blk_cell hrcx _).trans (Array.getElem?_eq_getElem hrs.2)
            have q1 := blk_frozen hrcx (i * 2 + 1)
            have HFINAL := Aside0.mk ((Cx.store (hd := (Ad, 3, cd)) CX.out hqi).lower (Nat.le_of_lt HB0.out))
            have HGB := Aside0.mk (Nat.le_trans (Nat.le_of_lt HB0.out) (Kd.R_base CX.out.row g rfl))
            have BF := Aside0.mk (below_set (j := i * 2 + 1) (v := (.slice Ad 3 cd)) Bd.out HGB.out)
            generalize rcx[i * 2 + 1]'hrs.2 = old at q0
            clear hrs CX hrcx
            go_wp2_with fail
            go_ret2
            exact ⟨⟨_, 0, _, _, rfl, HOK.out, HFIN.out (Ad, 3, cd), HFINAL.out⟩, BF.out⟩
        · have HFX := Aside0.mk (show cutV (was ++ [⟨vn, true, vt⟩]) = was ++ [⟨vn, true, vt⟩] from cut_short (by rw [List.length_append, List.length_singleton]; omega))
          rw [HFX.out] at HFIN
          have CX := CXb
          clear CXb
          obtain ⟨rcx, hrcx⟩ := own_typed (Kd.R_own CX.out.row).choose_spec g rfl
          have hrs : rcx.size = c8 * 2 ∧ i * 2 + 1 < rcx.size := by
            obtain ⟨_, inner, ⟨_, hcase⟩, _⟩ := CX.out.row
            rcases hcase with ⟨hnil, _⟩ | ⟨g', cap, cur, hv0, _, hh, hn, _, hsz, _⟩
            · cases hnil
            · injection hv0 with h1 h2 h3
              injection h1 with h1
              injection h1 with h1
              subst h1 h3
              rw [hrcx] at hh
              injection hh with hh
              injection hh with hh
              subst hh
              exact ⟨hsz, by rw [show rcx.size = c8 * 2 from hsz]; omega⟩
          have q0 : wb.cell? ⟨g, i * 2 + 1, none⟩ = some (rcx[i * 2 + 1]'hrs.2) := (blk_cell hrcx _).trans (Array.getElem?_eq_getElem hrs.2)
          have q1 := blk_frozen hrcx (i * 2 + 1)
          have HFINAL := Aside0.mk ((Cx.store (hd := (Ab, was.length + 1, cb)) CX.out hqi).lower (Nat.le_of_lt HB0.out))
          have HGB := Aside0.mk (Nat.le_trans (Nat.le_of_lt HB0.out) (Kd.R_base CX.out.row g rfl))
          have BF := Aside0.mk (below_set (j := i * 2 + 1) (v := (.slice Ab (was.length + 1) cb)) Bb.out HGB.out)
          generalize rcx[i * 2 + 1]'hrs.2 = old at q0
          clear hrs CX hrcx
          go_wp2_with fail
          go_ret2
          exact ⟨⟨_, 0, _, _, rfl, HOK.out, HFIN.out (Ab, was.length + 1, cb), HFINAL.out⟩, BF.out⟩
  · obtain rfl := he.is_no hR
    go_wp2_with fail
    go_ret2
    exact ⟨.nil (.arg HRN.out (fun h => hR h.1)), B3.out⟩
end Go.Proofs.YtkabjbkefoipnaaDoor.Md
