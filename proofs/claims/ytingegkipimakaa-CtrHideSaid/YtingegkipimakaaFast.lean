/- ctr: the walk of the reference's Fast. -/
import Derived.Test.YtingegkipimakaaHide
import Derived.Test.YtingegkipimakaaAp2
namespace Go.Proofs.Ytingegkipimakaa.Ae
open Go.RowKit Go.Proofs.YtingegkipimakaaW.PrintWords Go.Proofs.YtingegkipimakaaW.PrintLast Go.Proofs.YtingegkipimakaaW.PrintMore Go.Proofs.Ytingegkipimakaa.PA
set_option linter.unusedVariables false
set_option linter.unusedSimpArgs false

theorem step_store {P : Program} {ops : Array Oper} {o : Oper} {a : Act} {w : World} {K : Act → World → Prop} {Q : Exit → Act → World → Prop} {n : Nat} (hw : Region.wanted o (yielded ops a.tmps) = true) (ty : TypeId) (x y : Operand) (ho : o.op = .store ty x y)
    (g : Nat) (t : TypeId) (l l' : List Int) (hx : a.eval x = .pointer (some ⟨g, 0, none⟩)) (hy : a.eval y = .agg (u8s l')) (hA : ArrT P ty n) (hg : Bk w g t l) (hl : l.length = n) (hl' : l'.length = n)
    (h : K (a.put o.dst undef) (w.setRow g (u8s l'))) : if Region.wanted o (yielded ops a.tmps) = true then Oper.wp P o a w K Q else K (a.put o.dst undef) w := by
  rw [if_pos hw]
  exact wp_store_row ty x y ho g (u8s l') hx hy t (u8s l) hg (by rw [hA.info, u8s_size, hl']) (by rw [u8s_size, u8s_size, hl, hl']) (u8s_one l') h
theorem Hs.rowX {bs : List (Nat × TypeId × List Int)} {w W : World} (h : Hs bs w W) (g : Nat) (hg : w.heap.size ≤ g) (hn : ∀ p ∈ bs, p.1 ≠ g) (cs : Array Value) : Hs bs w (W.setRow g cs) :=
  ⟨below_setRow h.below hg _, fun p hp => (h.bk p hp).rowOther g _ (hn p hp)⟩
def yb (key fr : List Int) (i : Nat) : List Int := if i = 0 then zs else pad key fr ((i - 1) / 16)
theorem yb_zero (key fr : List Int) : yb key fr 0 = zs := rfl
theorem yb_length (key fr : List Int) (i : Nat) : (yb key fr i).length = 16 := by
  unfold yb
  split
  · rfl
  · rw [pad, blockL_length]
theorem yb_succ (key fr : List Int) (i : Nat) : yb key fr (i + 1) = pad key fr (i / 16) := by
  unfold yb
  rw [if_neg (by omega), Nat.add_sub_cancel]
theorem yb_in (key fr : List Int) (i : Nat) (h : ¬ i % 16 = 0) : yb key fr i = pad key fr (i / 16) := by
  unfold yb
  rw [if_neg (by omega), show (i - 1) / 16 = i / 16 by omega]

attribute [local irreducible] blockL boxL cntL hideL tabL wordsL rnd yb pad in
set_option maxHeartbeats 2000000 in
set_option maxRecDepth 20000 in
theorem fast_calls (w : World) (key fr text : List Int) (A : Option Addr) (c : Nat) (hk : key.length = 32) (hkb : By key) (hf : fr.length = 16) (hfb : By fr) (hC : (Kd.int .u8).C w A text.length text) (hc : text.length ≤ c) (ht : text.length ≤ 1000) :
    Calls Try.prog 20 #[.agg (u8s tabL), .agg (u8s key), .agg (u8s fr), .slice A text.length c] w fun e w' => ∃ A' c', e = .returned (.slice A' text.length c') ∧ text.length ≤ c' ∧ (Kd.int .u8).C w' A' text.length (hideL key fr text text.length) ∧ Below w.heap.size w w' := by
  obtain ⟨len, hlen⟩ : ∃ n, text.length = n := ⟨_, rfl⟩
  rw [hlen] at hC hc ht ⊢
  have HLEN := Aside0.mk hlen
  have HC := Aside0.mk hC
  have HK := Aside0.mk hk
  have HF := Aside0.mk hf
  have HKB := Aside0.mk hkb
  have HFB := Aside0.mk hfb
  have hl0 : (len : Int) ≤ 1000 := by omega
  have HZ16 := Aside0.mk zs_length
  have HWL := Aside0.mk (wordsL_length tabL key)
  clear hk hkb hf hfb hC hlen
  have S1 := ((Hs.start w).new 26 tabL).new 23 key
  rw [alloc_size] at S1
  have S1' := S1.new 24 fr
  rw [alloc_size, alloc_size] at S1'
  have S1 := Aside0.mk S1'
  clear S1'
  go_enter Try.func20, Try.ntmps20
  go_wp2_with (first | ((with_reducible refine load_bk (o := { dst := some _, op := .load 26 (.tmp 4), type := _, pos := _, after := _, guard := _ }) 26 (.tmp 4) rfl rfl w.heap.size 26 tabL ?_ arr256 ?_ ?_ ?_); (rfl); (exact (S1.out.at w.heap.size 26 tabL (by simp))); (exact tabL_length)) | ((with_reducible refine load_bk (o := { dst := some _, op := .load 23 (.tmp 5), type := _, pos := _, after := _, guard := _ }) 23 (.tmp 5) rfl rfl (w.heap.size + 1) 23 key ?_ arrKey ?_ ?_ ?_); (rfl); (exact (S1.out.at (w.heap.size + 1) 23 key (by simp))); (exact HK.out)))
  refine (words_calls _ tabL key tabL_length tab_by HK.out HKB.out).mono ?_
  rintro e w3 ⟨gw, rfl, hgw, hbk, hb3⟩
  have hsz := hb3.size
  rw [alloc_size, alloc_size, alloc_size] at hgw hsz
  have S5 := Aside0.mk ((S1.out.call hb3).with hbk)
  have HLT := Aside0.mk (show ∀ p ∈ [(gw, 5, wordsL tabL key), (w.heap.size + 1 + 1, 24, fr), (w.heap.size + 1, 23, key), (w.heap.size, 26, tabL)], p.1 < w3.heap.size by
    intro p hp
    exact (S5.out.bk p hp).lt)
  have HGE := Aside0.mk (show w.heap.size ≤ w3.heap.size by omega)
  have HGW := Aside0.mk (show w.heap.size + 1 + 1 < gw by omega)
  clear S1 hb3 hbk hgw hsz
  go_wp2_with fail
  have S6 := Aside0.mk (S5.out.alloc (.cells (u8s zs) 24))
  have B6 := Aside0.mk (Bk.new w3 24 zs)
  have O6 := Aside0.mk (Kd.R_nil (Kd.int .u8) 5 (w3.alloc (.cells (u8s zs) 24)) w3.heap.size (fun _ => True))
  obtain ⟨gy, hgy⟩ : ∃ gy, gy = w3.heap.size := ⟨_, rfl⟩
  rw [← hgy] at B6 O6 HLT HGE
  rw [← hgy]
  clear hgy S5
  go_loopg [10, 12] len (fun kq v10 v12 w' => ∃ (i : Nat), v12 = .int .i64 (i : Int) ∧ Aside0 (i + kq = len) ∧ Aside0 (Own w' gy v10 (hideL key fr text i)) ∧ Aside0 (Bk w' gy 24 (yb key fr i)) ∧ Aside0 (Hs [(gw, 5, wordsL tabL key), (w.heap.size + 1 + 1, 24, fr), (w.heap.size + 1, 23, key), (w.heap.size, 26, tabL)] w w'))
  case atStart => exact ⟨0, rfl, ⟨by omega⟩, ⟨by rw [hideL_zero]; exact O6.out⟩, ⟨by rw [yb_zero]; exact B6.out⟩, S6⟩
  case round =>
    clear O6 B6 S6
    obtain ⟨i, rfl, HQ, HO, HB, HS⟩ := hrel
    have hq := HQ.out
    cases gk with
    | zero =>
      obtain rfl : i = len := by omega
      clear hq HQ
      go_wp2_with fail
      obtain ⟨A', c', hv, hc', hC'⟩ := Kd.R_reads HO.out
      rw [hideL_length] at hv hC'
      rw [hideL_length] at hc'
      go_ret
      exact ⟨A', c', by rw [← hv]; rfl, hc', hC', HS.out.below⟩
    | succ k1 =>
      have hlt : i < len := by omega
      have hlt2 : (i : Int) < (len : Int) := by omega
      obtain ⟨q, hqq⟩ : ∃ q, q = i / 16 := ⟨_, rfl⟩
      obtain ⟨r, hr⟩ : ∃ r, r = i % 16 := ⟨_, rfl⟩
      have hr16 : r < 16 := by omega
      have hr3 : (r : Int) < 16 := by omega
      have E1 : IntKind.i64.wrap ((i : Int) / 16) = (q : Int) := by rw [IntWalk.i64_in _ (by omega)]; omega
      have E2 : IntKind.u64.wrap (q : Int) = (q : Int) := by clear E1; simp [IntKind.wrap, IntKind.bits, IntKind.signed]; omega
      have E3 : (i : Int).tmod 16 = (r : Int) := by clear E1 E2; rw [Int.tmod_eq_emod_of_nonneg (by omega)]; omega
      have HE3 := Aside0.mk E3
      obtain ⟨y, hy⟩ : ∃ y, y = pad key fr q := ⟨_, rfl⟩
      have HYL := Aside0.mk (show y.length = 16 by rw [hy, pad, blockL_length])
      have HCB := Aside0.mk (cntL_by HFB.out (q : Int))
      have HCL := Aside0.mk ((cntL_length fr (q : Int)).trans HF.out)
      have HRY := Aside0.mk (show rnd tabL (wordsL tabL key) 14 (cntL fr q) = y by rw [block_is key _ (boxL_by HKB.out) HCL.out HCB.out, hy, pad])
      have HYS := Aside0.mk (show y = yb key fr (i + 1) by rw [yb_succ, ← hqq, hy])
      have q0 : (q : Int) < 100 := by clear E1 E2 E3; omega
      have HQI := Aside0.mk hqq
      have HRI := Aside0.mk hr
      obtain ⟨ad, had, hcell⟩ := Kd.at_int HC.out (i : Int) (by clear E1 E2 E3; omega) hlt2
      subst had
      rw [rd_getD, Int.toNat_natCast] at hcell
      obtain ⟨tx, htx⟩ : ∃ v, text.getD i 0 = v := ⟨_, rfl⟩
      obtain ⟨yx, hyx⟩ : ∃ v, y.getD r 0 = v := ⟨_, rfl⟩
      rw [htx] at hcell
      have HTX := Aside0.mk htx
      have HYX := Aside0.mk hyx
      have HX := Aside0.mk (show hb1 key fr text i = Go.bits .xor .u8 tx yx by unfold hb1; rw [← hqq, ← hr, ← hy, htx, hyx])
      have HCE := Aside0.mk hcell
      have HYP := Aside0.mk hy
      clear hq hcell htx hyx hy hqq hr
      by_cases m0 : i % 16 = 0
      · have m1 : ((i : Int) % 16 == 0) = true := by rw [beq_iff_eq]; clear E1 E2 E3; omega
        clear E3
        go_wp2_with fail
        have hS := HS.out.drew
        have HO1 := Aside0.mk (Kd.R_drew HO.out)
        have HB1 := Aside0.mk HB.out.drew
        clear HS HO HB
        refine wp_region_noPanic ?_
        refine wp_region_held_drew (S := fun W => Hs [(gw, 5, wordsL tabL key), (w.heap.size + 1 + 1, 24, fr), (w.heap.size + 1, 23, key), (w.heap.size, 26, tabL)] w W) (by kernel_rfl) (hS) (fun hHeld => ?_)
        clear hS
        refine take_load 0 (oi := { dst := some 26, op := _, type := _, pos := _, after := _, guard := _ }) rfl (by kernel_rfl) (by kernel_rfl) (by kernel_rfl) (fun _ _ _ _ h => h) 26 (.tmp 4) rfl (by rfl) w.heap.size 26 tabL (by rfl) arr256 tabL_length (fun W h => h.at _ _ _ (by simp)) hHeld ?_
        try simp only [Act.put, List.setIfInBounds_toArray, List.set_cons_zero, List.set_cons_succ]
        refine wpAnyH_take (i := 1) (oi := { dst := some 27, op := _, type := _, pos := _, after := _, guard := _ }) (v := ?_) rfl (by kernel_rfl) (by kernel_rfl) (by kernel_rfl) (fun _ _ _ h => h) (Or.inl ⟨by rfl, ?_⟩) hHeld ?_
        rotate_left
        · (intro w hSw; go_simp) <;> (with_reducible rfl)
        try simp only [Act.put, List.setIfInBounds_toArray, List.set_cons_zero, List.set_cons_succ]
        refine take_load 2 (oi := { dst := some 28, op := _, type := _, pos := _, after := _, guard := _ }) rfl (by kernel_rfl) (by kernel_rfl) (by kernel_rfl) (fun _ _ _ _ h => h) 24 (.tmp 6) rfl (by rfl) (w.heap.size + 1 + 1) 24 fr (by rfl) arr16 HF.out (fun W h => h.at _ _ _ (by simp)) hHeld ?_
        try simp only [Act.put, List.setIfInBounds_toArray, List.set_cons_zero, List.set_cons_succ]
        refine wpAnyH_take (i := 3) (oi := { dst := some 29, op := _, type := _, pos := _, after := _, guard := _ }) (v := ?_) rfl (by kernel_rfl) (by kernel_rfl) (by kernel_rfl) (fun _ _ _ h => h) (Or.inl ⟨by rfl, ?_⟩) hHeld ?_
        rotate_left
        · (intro w hSw; go_simp) <;> (with_reducible rfl)
        try simp only [Act.put, List.setIfInBounds_toArray, List.set_cons_zero, List.set_cons_succ]
        refine wpAnyH_take (i := 4) (oi := { dst := some 30, op := _, type := _, pos := _, after := _, guard := _ }) (v := ?_) rfl (by kernel_rfl) (by kernel_rfl) (by kernel_rfl) (fun _ _ _ h => h) (Or.inl ⟨by rfl, ?_⟩) hHeld ?_
        rotate_left
        · (intro w hSw; go_simp) <;> (with_reducible rfl)
        try simp only [Act.put, List.setIfInBounds_toArray, List.set_cons_zero, List.set_cons_succ]
        refine wpAnyH_take (i := 5) (oi := { dst := some 31, op := _, type := _, pos := _, after := _, guard := _ }) (v := ?_) rfl (by kernel_rfl) (by kernel_rfl) (by kernel_rfl) (fun _ _ _ h => h) (Or.inl ⟨by rfl, ?_⟩) hHeld ?_
        rotate_left
        · (intro w hSw; go_simp) <;> (with_reducible rfl)
        try simp only [Act.put, List.setIfInBounds_toArray, List.set_cons_zero, List.set_cons_succ]
        clear E1 E2
        refine wpAnyH_ready (rs := [6]) (by kernel_rfl) (by simp) (AllReadyH.cons (o := { dst := some 32, op := _, type := _, pos := _, after := _, guard := _ }) rfl (fun K hK => ?_) AllReadyH.nil)
        go_simp
        refine (refcount_calls _ fr (q : Int) HF.out HFB.out (by omega) (by omega)).mono ?_
        rintro e w6 ⟨rfl, hb6⟩
        refine hK.out _ _ (hHeld.call hb6) (fun hHeld2 => ?_)
        clear hK K hHeld
        have hHeld := hHeld2
        clear hHeld2
        try simp only [Act.put, List.setIfInBounds_toArray, List.set_cons_zero, List.set_cons_succ]
        have HO3 := Aside0.mk (Kd.R_below HO1.out hb6)
        have HB3 := Aside0.mk (HB1.out.below hb6 HB1.out.lt)
        clear HO1 HB1
        refine wpAnyH_ready (rs := [7]) (by kernel_rfl) (by simp) (AllReadyH.cons (o := { dst := some 33, op := _, type := _, pos := _, after := _, guard := _ }) rfl (fun K hK => ?_) AllReadyH.nil)
        go_simp
        refine (refblock_calls _ gw tabL (wordsL tabL key) (cntL fr q) tabL_length tab_by (hHeld.at gw 5 (wordsL tabL key) (by simp)) HWL.out HCL.out HCB.out).mono ?_
        rintro e w7 ⟨rfl, hb7⟩
        rw [HRY.out]
        refine hK.out _ _ (hHeld.call hb7) (fun hHeld2 => ?_)
        clear hK K hHeld
        have hHeld := hHeld2
        clear hHeld2
        try simp only [Act.put, List.setIfInBounds_toArray, List.set_cons_zero, List.set_cons_succ]
        have HO4 := Aside0.mk (Kd.R_below HO3.out hb7)
        have HB4 := Aside0.mk (HB3.out.below hb7 HB3.out.lt)
        have HYL2 := Aside0.mk (yb_length key fr i)
        clear HO3 HB3
        refine wpAnyH_ready (rs := [8]) (by kernel_rfl) (by simp) (AllReadyH.cons (o := { dst := none, op := _, type := _, pos := _, after := _, guard := _ }) rfl (fun K hK => ?_) AllReadyH.nil)
        refine step_store ?_ 24 (.tmp 11) (.tmp 33) rfl gy 24 (yb key fr i) y ?_ ?_ arr16 HB4.out HYL2.out HYL.out ?_
        · rfl
        · rfl
        · rfl
        refine hK.out _ _ (hHeld.rowX gy HGE.out (fun p hp => Nat.ne_of_lt (HLT.out p hp)) _) (fun hHeld2 => ?_)
        clear hK K hHeld
        have hHeld := hHeld2
        clear hHeld2
        try simp only [Act.put, List.setIfInBounds_toArray, List.set_cons_zero, List.set_cons_succ]
        have HO2 := Aside0.mk (own_row HO4.out HB4.out (by decide) (u8s y))
        have HB2 := Aside0.mk (HB4.out.setRow y)
        clear HO4 HB4
        refine wpAnyH_done (by kernel_rfl) ?_ _
        refine NoPanic.normal ?_
        generalize w7.setRow gy (u8s y) = wF at hHeld HO2 HB2 ⊢
        have E3 := HE3.out
        go_wp2_with fail
        have HHD := hHeld
        have hS := hHeld.drew
        clear hHeld
        have OD := Aside0.mk (Kd.R_drew HO2.out)
        have HBD := Aside0.mk HB2.out.drew
        have HS0 := Aside0.mk hS
        have HNE := Aside0.mk (show ∀ p ∈ [(gw, 5, wordsL tabL key), (w.heap.size + 1 + 1, 24, fr), (w.heap.size + 1, 23, key), (w.heap.size, 26, tabL)], some p.1 ≠ u10.ownBlock from fun p hp e => by
          have h1 := Kd.R_base OD.out p.1 e.symm
          have h2 := HLT.out p hp
          omega)
        have HNY := Aside0.mk (own_ne OD.out HBD.out (by decide))
        clear HHD HO2 HB2
        refine wp_region_noPanic ?_
        refine wp_region_held_drew (S := fun W => Hs [(gw, 5, wordsL tabL key), (w.heap.size + 1 + 1, 24, fr), (w.heap.size + 1, 23, key), (w.heap.size, 26, tabL)] w W ∧ Bk W gy 24 y) (by kernel_rfl) (⟨hS, HBD.out⟩) (fun hHeld => ?_)
        clear hS
        refine wpAnyH_take (i := 0) (oi := { dst := some 34, op := _, type := _, pos := _, after := _, guard := _ }) (v := ?_) rfl (by kernel_rfl) (by kernel_rfl) (by kernel_rfl) (fun _ _ _ h => h) (Or.inl ⟨by rfl, ?_⟩) hHeld ?_
        rotate_left
        · (intro w hSw; go_simp) <;> (with_reducible rfl)
        try simp only [Act.put, List.setIfInBounds_toArray, List.set_cons_zero, List.set_cons_succ]
        refine wpAnyH_take (i := 1) (oi := { dst := some 35, op := _, type := _, pos := _, after := _, guard := _ }) (v := ?_) rfl (by kernel_rfl) (by kernel_rfl) (by kernel_rfl) (fun _ _ _ h => h) (Or.inl ⟨by rfl, ?_⟩) hHeld ?_
        rotate_left
        · (intro w hSw; go_simp) <;> (with_reducible rfl)
        try simp only [Act.put, List.setIfInBounds_toArray, List.set_cons_zero, List.set_cons_succ]
        refine wpAnyH_take (i := 2) (oi := { dst := some 36, op := _, type := _, pos := _, after := _, guard := _ }) (v := ?_) rfl (by kernel_rfl) (by kernel_rfl) (by kernel_rfl) (fun _ _ _ h => h) (Or.inl ⟨by rfl, ?_⟩) hHeld ?_
        rotate_left
        · (intro w hSw; go_simp) <;> (with_reducible rfl)
        try simp only [Act.put, List.setIfInBounds_toArray, List.set_cons_zero, List.set_cons_succ]
        refine wpAnyH_take (i := 3) (oi := { dst := some 37, op := _, type := _, pos := _, after := _, guard := _ }) (v := ?_) rfl (by kernel_rfl) (by kernel_rfl) (by kernel_rfl) (fun _ _ _ h => h) (Or.inl ⟨by rfl, ?_⟩) hHeld ?_
        rotate_left
        · (intro w hSw; go_simp) <;> (with_reducible rfl)
        try simp only [Act.put, List.setIfInBounds_toArray, List.set_cons_zero, List.set_cons_succ]
        refine wpAnyH_take (i := 4) (oi := { dst := some 38, op := _, type := _, pos := _, after := _, guard := _ }) (v := ?_) rfl (by kernel_rfl) (by kernel_rfl) (by kernel_rfl) (fun _ _ _ h => h) (Or.inl ⟨by rfl, ?_⟩) hHeld ?_
        rotate_left
        · (intro w hSw; have cc := (hSw.1.below.cell (World.block_lt_of_cell? _ _ HCE.out)).trans HCE.out; go_simp) <;> (with_reducible rfl)
        try simp only [Act.put, List.setIfInBounds_toArray, List.set_cons_zero, List.set_cons_succ]
        refine wpAnyH_take (i := 5) (oi := { dst := some 39, op := _, type := _, pos := _, after := _, guard := _ }) (v := ?_) rfl (by kernel_rfl) (by kernel_rfl) (by kernel_rfl) (fun _ _ _ h => h) (Or.inl ⟨by rfl, ?_⟩) hHeld ?_
        rotate_left
        · (intro w hSw; go_simp) <;> (with_reducible rfl)
        try simp only [Act.put, List.setIfInBounds_toArray, List.set_cons_zero, List.set_cons_succ]
        refine wpAnyH_take (i := 6) (oi := { dst := some 40, op := _, type := _, pos := _, after := _, guard := _ }) (v := ?_) rfl (by kernel_rfl) (by kernel_rfl) (by kernel_rfl) (fun _ _ _ h => h) (Or.inl ⟨by rfl, ?_⟩) hHeld ?_
        rotate_left
        · (intro w hSw; go_simp) <;> (with_reducible rfl)
        try simp only [Act.put, List.setIfInBounds_toArray, List.set_cons_zero, List.set_cons_succ]
        refine wpAnyH_take (i := 7) (oi := { dst := some 41, op := _, type := _, pos := _, after := _, guard := _ }) (v := ?_) rfl (by kernel_rfl) (by kernel_rfl) (by kernel_rfl) (fun _ _ _ h => h) (Or.inl ⟨by rfl, ?_⟩) hHeld ?_
        rotate_left
        · (intro w hSw; go_simp) <;> (with_reducible rfl)
        try simp only [Act.put, List.setIfInBounds_toArray, List.set_cons_zero, List.set_cons_succ]
        refine wpAnyH_take (i := 8) (oi := { dst := some 42, op := _, type := _, pos := _, after := _, guard := _ }) (v := ?_) rfl (by kernel_rfl) (by kernel_rfl) (by kernel_rfl) (fun _ _ _ h => h) (Or.inl ⟨by rfl, ?_⟩) hHeld ?_
        rotate_left
        · (intro w hSw; have cc := hSw.2.cell r (by rw [HYL.out]; exact hr16); rw [HYX.out] at cc; go_simp) <;> (with_reducible rfl)
        try simp only [Act.put, List.setIfInBounds_toArray, List.set_cons_zero, List.set_cons_succ]
        refine wpAnyH_take (i := 9) (oi := { dst := some 43, op := _, type := _, pos := _, after := _, guard := _ }) (v := ?_) rfl (by kernel_rfl) (by kernel_rfl) (by kernel_rfl) (fun _ _ _ h => h) (Or.inl ⟨by rfl, ?_⟩) hHeld ?_
        rotate_left
        · (intro w hSw; go_simp) <;> (with_reducible rfl)
        try simp only [Act.put, List.setIfInBounds_toArray, List.set_cons_zero, List.set_cons_succ]
        clear E3
        refine wpAnyH_ready (rs := [10]) (by kernel_rfl) (by simp) (AllReadyH.cons (o := { dst := some 44, op := _, type := _, pos := _, after := _, guard := _ }) rfl (fun K hK => ?_) AllReadyH.nil)
        go_simp
        refine hK.out _ _ (⟨hHeld.1.alloc _, hHeld.2.alloc _⟩) (fun hHeld2 => ?_)
        clear hK K hHeld
        have hHeld := hHeld2
        clear hHeld2
        try simp only [Act.put, List.setIfInBounds_toArray, List.set_cons_zero, List.set_cons_succ]
        refine wpAnyH_ready (rs := [11]) (by kernel_rfl) (by simp) (AllReadyH.cons (o := { dst := some 45, op := _, type := _, pos := _, after := _, guard := _ }) rfl (fun K hK => ?_) AllReadyH.nil)
        have HWD : ∀ o, (wF.alloc o).drew = wF.drew.alloc o := fun _ => rfl
        rw [HWD]
        refine Kd.R_append_step (Kd.int .u8) (w0 := wF.drew) gy ?_ (.tmp 34) (.tmp 44) 32 5 (.int .u8 0) 1 rfl Try.underlying32 (by kernel_rfl) rfl (by decide) (by decide) _ (hideL key fr text i) (Go.bits .xor .u8 tx yx) [.int .u8 (Go.bits .xor .u8 tx yx)] (fun _ => True) (fun _ => False) rfl ?_ ?_ ?_ ?_ OD.out ?_ ?_ ?_ ?_
        · rfl
        · rfl
        · rfl
        · exact fun k h => h.elim
        · exact fun _ _ => trivial
        · exact Below.refl _ _
        · exact Nat.le_of_lt HBD.out.lt
        · rw [hideL_length]; omega
        intro v1 w1 hr1 hb1 hg hat
        have HR1 := Aside0.mk hr1
        have hw1 : Below w.heap.size w w1 := HS0.out.below.trans (hb1.mono HGE.out)
        have HY1 := Aside0.mk (HBD.out.grown hg HNY.out)
        refine hK.out _ _ ⟨HS0.out.grown hg HNE.out hw1, HY1.out⟩ (fun hHeld2 => ?_)
        clear hK K hHeld HS0 OD HBD hr1 hb1 hg hat HWD hw1
        have hHeld := hHeld2
        clear hHeld2
        try simp only [Act.put, List.setIfInBounds_toArray, List.set_cons_zero, List.set_cons_succ]
        refine wpAnyH_take (i := 12) (oi := { dst := some 10, op := _, type := _, pos := _, after := _, guard := _ }) (v := ?_) rfl (by kernel_rfl) (by kernel_rfl) (by kernel_rfl) (fun _ _ _ h => h) (Or.inl ⟨by rfl, ?_⟩) hHeld ?_
        rotate_left
        · (intro w hSw; go_simp) <;> (with_reducible rfl)
        try simp only [Act.put, List.setIfInBounds_toArray, List.set_cons_zero, List.set_cons_succ]
        refine wpAnyH_done (by kernel_rfl) ?_ _
        refine NoPanic.normal ?_
        go_wp2_with fail
        go_roundg k1
        case measure => omega
        case rel =>
          refine ⟨i + 1, by simp, ⟨by have := HQ.out; omega⟩, ⟨?_⟩, ⟨?_⟩, ⟨hHeld.1⟩⟩
          · rw [hideL_succ, HX.out]
            exact HR1.out
          · rw [← HYS.out]
            exact HY1.out
      · have m1 : ((i : Int) % 16 == 0) = false := by rw [beq_eq_false_iff_ne]; clear E1 E2 E3; omega
        have m2 : ((r : Int) == 0) = false := by rw [beq_eq_false_iff_ne]; have := HRI.out; clear E1 E2 E3; omega
        have HO2 := HO
        have HB2 := Aside0.mk (show Bk wr gy 24 y from by rw [HYP.out, HQI.out, ← yb_in key fr i m0]; exact HB.out)
        have hHeld := HS.out
        clear HS HO HB E1 E2
        go_wp2_with fail
        have HHD := hHeld
        have hS := hHeld.drew
        clear hHeld
        have OD := Aside0.mk (Kd.R_drew HO2.out)
        have HBD := Aside0.mk HB2.out.drew
        have HS0 := Aside0.mk hS
        have HNE := Aside0.mk (show ∀ p ∈ [(gw, 5, wordsL tabL key), (w.heap.size + 1 + 1, 24, fr), (w.heap.size + 1, 23, key), (w.heap.size, 26, tabL)], some p.1 ≠ u10.ownBlock from fun p hp e => by
          have h1 := Kd.R_base OD.out p.1 e.symm
          have h2 := HLT.out p hp
          omega)
        have HNY := Aside0.mk (own_ne OD.out HBD.out (by decide))
        clear HHD HO2 HB2
        refine wp_region_noPanic ?_
        refine wp_region_held_drew (S := fun W => Hs [(gw, 5, wordsL tabL key), (w.heap.size + 1 + 1, 24, fr), (w.heap.size + 1, 23, key), (w.heap.size, 26, tabL)] w W ∧ Bk W gy 24 y) (by kernel_rfl) (⟨hS, HBD.out⟩) (fun hHeld => ?_)
        clear hS
        refine wpAnyH_take (i := 0) (oi := { dst := some 34, op := _, type := _, pos := _, after := _, guard := _ }) (v := ?_) rfl (by kernel_rfl) (by kernel_rfl) (by kernel_rfl) (fun _ _ _ h => h) (Or.inl ⟨by rfl, ?_⟩) hHeld ?_
        rotate_left
        · (intro w hSw; go_simp) <;> (with_reducible rfl)
        try simp only [Act.put, List.setIfInBounds_toArray, List.set_cons_zero, List.set_cons_succ]
        refine wpAnyH_take (i := 1) (oi := { dst := some 35, op := _, type := _, pos := _, after := _, guard := _ }) (v := ?_) rfl (by kernel_rfl) (by kernel_rfl) (by kernel_rfl) (fun _ _ _ h => h) (Or.inl ⟨by rfl, ?_⟩) hHeld ?_
        rotate_left
        · (intro w hSw; go_simp) <;> (with_reducible rfl)
        try simp only [Act.put, List.setIfInBounds_toArray, List.set_cons_zero, List.set_cons_succ]
        refine wpAnyH_take (i := 2) (oi := { dst := some 36, op := _, type := _, pos := _, after := _, guard := _ }) (v := ?_) rfl (by kernel_rfl) (by kernel_rfl) (by kernel_rfl) (fun _ _ _ h => h) (Or.inl ⟨by rfl, ?_⟩) hHeld ?_
        rotate_left
        · (intro w hSw; go_simp) <;> (with_reducible rfl)
        try simp only [Act.put, List.setIfInBounds_toArray, List.set_cons_zero, List.set_cons_succ]
        refine wpAnyH_take (i := 3) (oi := { dst := some 37, op := _, type := _, pos := _, after := _, guard := _ }) (v := ?_) rfl (by kernel_rfl) (by kernel_rfl) (by kernel_rfl) (fun _ _ _ h => h) (Or.inl ⟨by rfl, ?_⟩) hHeld ?_
        rotate_left
        · (intro w hSw; go_simp) <;> (with_reducible rfl)
        try simp only [Act.put, List.setIfInBounds_toArray, List.set_cons_zero, List.set_cons_succ]
        refine wpAnyH_take (i := 4) (oi := { dst := some 38, op := _, type := _, pos := _, after := _, guard := _ }) (v := ?_) rfl (by kernel_rfl) (by kernel_rfl) (by kernel_rfl) (fun _ _ _ h => h) (Or.inl ⟨by rfl, ?_⟩) hHeld ?_
        rotate_left
        · (intro w hSw; have cc := (hSw.1.below.cell (World.block_lt_of_cell? _ _ HCE.out)).trans HCE.out; go_simp) <;> (with_reducible rfl)
        try simp only [Act.put, List.setIfInBounds_toArray, List.set_cons_zero, List.set_cons_succ]
        refine wpAnyH_take (i := 5) (oi := { dst := some 39, op := _, type := _, pos := _, after := _, guard := _ }) (v := ?_) rfl (by kernel_rfl) (by kernel_rfl) (by kernel_rfl) (fun _ _ _ h => h) (Or.inl ⟨by rfl, ?_⟩) hHeld ?_
        rotate_left
        · (intro w hSw; go_simp) <;> (with_reducible rfl)
        try simp only [Act.put, List.setIfInBounds_toArray, List.set_cons_zero, List.set_cons_succ]
        refine wpAnyH_take (i := 6) (oi := { dst := some 40, op := _, type := _, pos := _, after := _, guard := _ }) (v := ?_) rfl (by kernel_rfl) (by kernel_rfl) (by kernel_rfl) (fun _ _ _ h => h) (Or.inl ⟨by rfl, ?_⟩) hHeld ?_
        rotate_left
        · (intro w hSw; go_simp) <;> (with_reducible rfl)
        try simp only [Act.put, List.setIfInBounds_toArray, List.set_cons_zero, List.set_cons_succ]
        refine wpAnyH_take (i := 7) (oi := { dst := some 41, op := _, type := _, pos := _, after := _, guard := _ }) (v := ?_) rfl (by kernel_rfl) (by kernel_rfl) (by kernel_rfl) (fun _ _ _ h => h) (Or.inl ⟨by rfl, ?_⟩) hHeld ?_
        rotate_left
        · (intro w hSw; go_simp) <;> (with_reducible rfl)
        try simp only [Act.put, List.setIfInBounds_toArray, List.set_cons_zero, List.set_cons_succ]
        refine wpAnyH_take (i := 8) (oi := { dst := some 42, op := _, type := _, pos := _, after := _, guard := _ }) (v := ?_) rfl (by kernel_rfl) (by kernel_rfl) (by kernel_rfl) (fun _ _ _ h => h) (Or.inl ⟨by rfl, ?_⟩) hHeld ?_
        rotate_left
        · (intro w hSw; have cc := hSw.2.cell r (by rw [HYL.out]; exact hr16); rw [HYX.out] at cc; go_simp) <;> (with_reducible rfl)
        try simp only [Act.put, List.setIfInBounds_toArray, List.set_cons_zero, List.set_cons_succ]
        refine wpAnyH_take (i := 9) (oi := { dst := some 43, op := _, type := _, pos := _, after := _, guard := _ }) (v := ?_) rfl (by kernel_rfl) (by kernel_rfl) (by kernel_rfl) (fun _ _ _ h => h) (Or.inl ⟨by rfl, ?_⟩) hHeld ?_
        rotate_left
        · (intro w hSw; go_simp) <;> (with_reducible rfl)
        try simp only [Act.put, List.setIfInBounds_toArray, List.set_cons_zero, List.set_cons_succ]
        clear E3
        refine wpAnyH_ready (rs := [10]) (by kernel_rfl) (by simp) (AllReadyH.cons (o := { dst := some 44, op := _, type := _, pos := _, after := _, guard := _ }) rfl (fun K hK => ?_) AllReadyH.nil)
        go_simp
        refine hK.out _ _ (⟨hHeld.1.alloc _, hHeld.2.alloc _⟩) (fun hHeld2 => ?_)
        clear hK K hHeld
        have hHeld := hHeld2
        clear hHeld2
        try simp only [Act.put, List.setIfInBounds_toArray, List.set_cons_zero, List.set_cons_succ]
        refine wpAnyH_ready (rs := [11]) (by kernel_rfl) (by simp) (AllReadyH.cons (o := { dst := some 45, op := _, type := _, pos := _, after := _, guard := _ }) rfl (fun K hK => ?_) AllReadyH.nil)
        have HWD : ∀ o, (wr.alloc o).drew = wr.drew.alloc o := fun _ => rfl
        rw [HWD]
        refine Kd.R_append_step (Kd.int .u8) (w0 := wr.drew) gy ?_ (.tmp 34) (.tmp 44) 32 5 (.int .u8 0) 1 rfl Try.underlying32 (by kernel_rfl) rfl (by decide) (by decide) _ (hideL key fr text i) (Go.bits .xor .u8 tx yx) [.int .u8 (Go.bits .xor .u8 tx yx)] (fun _ => True) (fun _ => False) rfl ?_ ?_ ?_ ?_ OD.out ?_ ?_ ?_ ?_
        · rfl
        · rfl
        · rfl
        · exact fun k h => h.elim
        · exact fun _ _ => trivial
        · exact Below.refl _ _
        · exact Nat.le_of_lt HBD.out.lt
        · rw [hideL_length]; omega
        intro v1 w1 hr1 hb1 hg hat
        have HR1 := Aside0.mk hr1
        have hw1 : Below w.heap.size w w1 := HS0.out.below.trans (hb1.mono HGE.out)
        have HY1 := Aside0.mk (HBD.out.grown hg HNY.out)
        refine hK.out _ _ ⟨HS0.out.grown hg HNE.out hw1, HY1.out⟩ (fun hHeld2 => ?_)
        clear hK K hHeld HS0 OD HBD hr1 hb1 hg hat HWD hw1
        have hHeld := hHeld2
        clear hHeld2
        try simp only [Act.put, List.setIfInBounds_toArray, List.set_cons_zero, List.set_cons_succ]
        refine wpAnyH_take (i := 12) (oi := { dst := some 10, op := _, type := _, pos := _, after := _, guard := _ }) (v := ?_) rfl (by kernel_rfl) (by kernel_rfl) (by kernel_rfl) (fun _ _ _ h => h) (Or.inl ⟨by rfl, ?_⟩) hHeld ?_
        rotate_left
        · (intro w hSw; go_simp) <;> (with_reducible rfl)
        try simp only [Act.put, List.setIfInBounds_toArray, List.set_cons_zero, List.set_cons_succ]
        refine wpAnyH_done (by kernel_rfl) ?_ _
        refine NoPanic.normal ?_
        go_wp2_with fail
        go_roundg k1
        case measure => omega
        case rel =>
          refine ⟨i + 1, by simp, ⟨by have := HQ.out; omega⟩, ⟨?_⟩, ⟨?_⟩, ⟨hHeld.1⟩⟩
          · rw [hideL_succ, HX.out]
            exact HR1.out
          · rw [← HYS.out]
            exact HY1.out

end Go.Proofs.Ytingegkipimakaa.Ae
