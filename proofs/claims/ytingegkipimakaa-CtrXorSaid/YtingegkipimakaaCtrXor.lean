/- CtrXor: the walk. -/
import Derived.Test.YtingegkipimakaaCts
namespace Go.Proofs.Ytingegkipimakaa.Ae
open Go.RowKit Go.Proofs.YtingegkipimakaaW.PrintWords Go.Proofs.YtingegkipimakaaW.PrintLast Go.Proofs.YtingegkipimakaaW.PrintMore Go.Proofs.Ytingegkipimakaa.PA
set_option linter.unusedVariables false
set_option linter.unusedSimpArgs false

def bothL (a b : List Int) (n : Nat) : List Int := (List.range n).map fun i => Go.bits .xor .u8 (a.getD i 0) (b.getD i 0)
theorem bothL_length (a b : List Int) (n : Nat) : (bothL a b n).length = n := by simp [bothL]
theorem bothL_zero (a b : List Int) : bothL a b 0 = [] := rfl
theorem bothL_succ (a b : List Int) (n : Nat) : bothL a b (n + 1) = bothL a b n ++ [Go.bits .xor .u8 (a.getD n 0) (b.getD n 0)] := by simp [bothL, List.range_succ]
theorem bothL_getD (a b : List Int) (n j : Nat) : (bothL a b n).getD j 0 = if j < n then Go.bits .xor .u8 (a.getD j 0) (b.getD j 0) else 0 := by
  unfold bothL
  rw [List.getD_eq_getElem?_getD, List.getElem?_map]
  by_cases h : j < n
  · rw [List.getElem?_range h]
    simp [h]
  · rw [List.getElem?_eq_none (by simp; omega)]
    simp [h]
theorem both_by (a b : List Int) (n : Nat) : By (bothL a b n) := by
  intro j
  rw [bothL_getD]
  split
  · exact bits_by _ _ _
  · decide
theorem xor_swap {a b p : Int} (ha : 0 ≤ a ∧ a < 256) (hb : 0 ≤ b ∧ b < 256) (hp : 0 ≤ p ∧ p < 256) : Go.bits .xor .u8 (Go.bits .xor .u8 a p) b = Go.bits .xor .u8 (Go.bits .xor .u8 a b) p := by
  refine B_inj (bits_by _ _ _) (bits_by _ _ _) ?_
  rw [B_xor (bits_by _ _ _) hb, B_xor ha hp, B_xor (bits_by _ _ _) hp, B_xor ha hb, BitVec.xor_assoc, BitVec.xor_assoc, BitVec.xor_comm (B p) (B b)]
theorem hide_both {key a b : List Int} (fr : List Int) (hk : By key) (ha : By a) (hb : By b) (n j : Nat) (hj : j < n) : Go.bits .xor .u8 ((hideL key fr a n).getD j 0) (b.getD j 0) = (hideL key fr (bothL a b n) n).getD j 0 := by
  rw [hideL_getD, if_pos hj, hideL_getD, if_pos hj]
  unfold hb1
  rw [bothL_getD, if_pos hj]
  exact xor_swap (ha j) (hb j) (pad_by hk _ _)
theorem C_beyond {w W W1 : World} {A : Option Addr} {n : Nat} {xs : List Int} (h : (Kd.int .u8).C W A n xs) (hb : Below W.heap.size W W1) : (Kd.int .u8).C W1 A n xs := Kd.C_below h hb

attribute [local irreducible] cntL hideL tabL blockL boxL bothL in
set_option maxHeartbeats 2000000 in
set_option maxRecDepth 20000 in
theorem ctrXor_calls (w : World) (key : List Int) (hk : key.length = 32) (hkw : ∀ z ∈ key, (Lit.int .u8 z).wf = true)
    (A : Option Addr) (n c : Nat) (a : List Int) (hl : a.length = n) (hC : (Kd.int .u8).C w A n a) (hc : n ≤ c) (hm : n ≤ maxLen) (haw : ∀ z ∈ a, (Lit.int .u8 z).wf = true)
    (B0 : Option Addr) (n2 c2 : Nat) (b : List Int) (hl2 : b.length = n2) (hC2 : (Kd.int .u8).C w B0 n2 b) (hc2 : n2 ≤ c2) (hm2 : n2 ≤ maxLen) (hbw : ∀ z ∈ b, (Lit.int .u8 z).wf = true) :
    Calls Try.prog 9 #[.agg (u8s key), .slice A n c, .slice B0 n2 c2] w fun e w' => e = .returned (.bool true) ∧ Below w.heap.size w w' := by
  have HK := Aside0.mk hk
  have HKB := Aside0.mk (By.ofMem hkw)
  have HAB := Aside0.mk (By.ofMem haw)
  have HBB := Aside0.mk (By.ofMem hbw)
  have HLN := Aside0.mk hl
  have HLN2 := Aside0.mk hl2
  have HC := Aside0.mk hC
  have HC2 := Aside0.mk hC2
  have HCC := Aside0.mk hc
  have S1 := Aside0.mk ((Hs.start w).new 23 key)
  clear hk hkw haw hbw hl hl2 hC hC2 hc hc2 hm hm2
  by_cases h3 : n ≤ 300
  · have h3i : ¬ (300 : Int) < (n : Int) := by omega
    have h1000 := Aside0.mk (show n ≤ 1000 by omega)
    clear h3
    by_cases h4 : n2 = n
    · subst h4
      go_enter Try.func9, Try.ntmps9
      go_wp2_with fail
      refine (wakes6_calls _).mono ?_
      rintro e w1 ⟨rfl, hb1⟩
      have S3 := Aside0.mk (S1.out.call hb1)
      clear S1 hb1
      go_wp2_with fail
      have O3 := Aside0.mk (Kd.R_nil (Kd.int .u8) 5 w1 w.heap.size (fun _ => True))
      go_loopg [7, 26] n2 (fun kq v7 v26 w' => ∃ (i : Nat), v26 = .int .i64 (i : Int) ∧ Aside0 (i + kq = n2) ∧ Aside0 (Own w' w.heap.size v7 (bothL a b i)) ∧ Aside0 (Hs [(w.heap.size, 23, key)] w w'))
      case atStart => exact ⟨0, rfl, ⟨by omega⟩, ⟨by rw [bothL_zero]; exact O3.out⟩, S3⟩
      case round =>
        clear O3 S3
        obtain ⟨i, rfl, HQ, HO, HS⟩ := hrel
        have hq := HQ.out
        cases gk with
        | succ k1 =>
          have hlt : i < n2 := by omega
          have hlt2 : (i : Int) < (n2 : Int) := by omega
          obtain ⟨ad, had, hcell⟩ := Kd.at_int HC.out (i : Int) (by omega) hlt2
          subst had
          rw [rd_getD, Int.toNat_natCast] at hcell
          obtain ⟨ad2, had2, hcell2⟩ := Kd.at_int HC2.out (i : Int) (by omega) hlt2
          subst had2
          rw [rd_getD, Int.toNat_natCast] at hcell2
          obtain ⟨tx, htx⟩ : ∃ v, a.getD i 0 = v := ⟨_, rfl⟩
          obtain ⟨yx, hyx⟩ : ∃ v, b.getD i 0 = v := ⟨_, rfl⟩
          rw [htx] at hcell
          rw [hyx] at hcell2
          have HX := Aside0.mk (show bothL a b (i + 1) = bothL a b i ++ [Go.bits .xor .u8 tx yx] by rw [bothL_succ, htx, hyx])
          have HCE := Aside0.mk hcell
          have HCE2 := Aside0.mk hcell2
          clear hq hcell hcell2 htx hyx
          go_wp2_with fail
          have hS := HS.out.drew
          have OD := Aside0.mk (Kd.R_drew HO.out)
          have HS0 := Aside0.mk hS
          have HNE := Aside0.mk (own_ne OD.out (hS.at w.heap.size 23 key (by simp)) (by decide))
          clear HS HO
          refine wp_region_noPanic ?_
          refine wp_region_held_drew (S := fun W => Hs [(w.heap.size, 23, key)] w W) (by kernel_rfl) (hS) (fun hHeld => ?_)
          clear hS
          refine wpAnyH_take (i := 0) (oi := { dst := some 29, op := _, type := _, pos := _, after := _, guard := _ }) (v := ?_) rfl (by kernel_rfl) (by kernel_rfl) (by kernel_rfl) (fun _ _ _ h => h) (Or.inl ⟨by rfl, ?_⟩) hHeld ?_
          rotate_left
          · (intro w hSw; go_simp) <;> (with_reducible rfl)
          try simp only [Act.put, List.setIfInBounds_toArray, List.set_cons_zero, List.set_cons_succ]
          refine wpAnyH_take (i := 1) (oi := { dst := some 30, op := _, type := _, pos := _, after := _, guard := _ }) (v := ?_) rfl (by kernel_rfl) (by kernel_rfl) (by kernel_rfl) (fun _ _ _ h => h) (Or.inl ⟨by rfl, ?_⟩) hHeld ?_
          rotate_left
          · (intro w hSw; go_simp) <;> (with_reducible rfl)
          try simp only [Act.put, List.setIfInBounds_toArray, List.set_cons_zero, List.set_cons_succ]
          refine wpAnyH_take (i := 2) (oi := { dst := some 31, op := _, type := _, pos := _, after := _, guard := _ }) (v := ?_) rfl (by kernel_rfl) (by kernel_rfl) (by kernel_rfl) (fun _ _ _ h => h) (Or.inl ⟨by rfl, ?_⟩) hHeld ?_
          rotate_left
          · (intro w hSw; go_simp) <;> (with_reducible rfl)
          try simp only [Act.put, List.setIfInBounds_toArray, List.set_cons_zero, List.set_cons_succ]
          refine wpAnyH_take (i := 3) (oi := { dst := some 32, op := _, type := _, pos := _, after := _, guard := _ }) (v := ?_) rfl (by kernel_rfl) (by kernel_rfl) (by kernel_rfl) (fun _ _ _ h => h) (Or.inl ⟨by rfl, ?_⟩) hHeld ?_
          rotate_left
          · (intro w hSw; go_simp) <;> (with_reducible rfl)
          try simp only [Act.put, List.setIfInBounds_toArray, List.set_cons_zero, List.set_cons_succ]
          refine wpAnyH_take (i := 4) (oi := { dst := some 33, op := _, type := _, pos := _, after := _, guard := _ }) (v := ?_) rfl (by kernel_rfl) (by kernel_rfl) (by kernel_rfl) (fun _ _ _ h => h) (Or.inl ⟨by rfl, ?_⟩) hHeld ?_
          rotate_left
          · (intro w hSw; have cc := (hSw.below.cell (World.block_lt_of_cell? _ _ HCE.out)).trans HCE.out; go_simp) <;> (with_reducible rfl)
          try simp only [Act.put, List.setIfInBounds_toArray, List.set_cons_zero, List.set_cons_succ]
          refine wpAnyH_take (i := 5) (oi := { dst := some 34, op := _, type := _, pos := _, after := _, guard := _ }) (v := ?_) rfl (by kernel_rfl) (by kernel_rfl) (by kernel_rfl) (fun _ _ _ h => h) (Or.inl ⟨by rfl, ?_⟩) hHeld ?_
          rotate_left
          · (intro w hSw; go_simp) <;> (with_reducible rfl)
          try simp only [Act.put, List.setIfInBounds_toArray, List.set_cons_zero, List.set_cons_succ]
          refine wpAnyH_take (i := 6) (oi := { dst := some 35, op := _, type := _, pos := _, after := _, guard := _ }) (v := ?_) rfl (by kernel_rfl) (by kernel_rfl) (by kernel_rfl) (fun _ _ _ h => h) (Or.inl ⟨by rfl, ?_⟩) hHeld ?_
          rotate_left
          · (intro w hSw; go_simp) <;> (with_reducible rfl)
          try simp only [Act.put, List.setIfInBounds_toArray, List.set_cons_zero, List.set_cons_succ]
          refine wpAnyH_take (i := 7) (oi := { dst := some 36, op := _, type := _, pos := _, after := _, guard := _ }) (v := ?_) rfl (by kernel_rfl) (by kernel_rfl) (by kernel_rfl) (fun _ _ _ h => h) (Or.inl ⟨by rfl, ?_⟩) hHeld ?_
          rotate_left
          · (intro w hSw; go_simp) <;> (with_reducible rfl)
          try simp only [Act.put, List.setIfInBounds_toArray, List.set_cons_zero, List.set_cons_succ]
          refine wpAnyH_take (i := 8) (oi := { dst := some 37, op := _, type := _, pos := _, after := _, guard := _ }) (v := ?_) rfl (by kernel_rfl) (by kernel_rfl) (by kernel_rfl) (fun _ _ _ h => h) (Or.inl ⟨by rfl, ?_⟩) hHeld ?_
          rotate_left
          · (intro w hSw; have cc := (hSw.below.cell (World.block_lt_of_cell? _ _ HCE2.out)).trans HCE2.out; go_simp) <;> (with_reducible rfl)
          try simp only [Act.put, List.setIfInBounds_toArray, List.set_cons_zero, List.set_cons_succ]
          refine wpAnyH_take (i := 9) (oi := { dst := some 38, op := _, type := _, pos := _, after := _, guard := _ }) (v := ?_) rfl (by kernel_rfl) (by kernel_rfl) (by kernel_rfl) (fun _ _ _ h => h) (Or.inl ⟨by rfl, ?_⟩) hHeld ?_
          rotate_left
          · (intro w hSw; go_simp) <;> (with_reducible rfl)
          try simp only [Act.put, List.setIfInBounds_toArray, List.set_cons_zero, List.set_cons_succ]
          refine wpAnyH_ready (rs := [10]) (by kernel_rfl) (by simp) (AllReadyH.cons (o := { dst := some 39, op := _, type := _, pos := _, after := _, guard := _ }) rfl (fun K hK => ?_) AllReadyH.nil)
          go_simp
          refine hK.out _ _ (hHeld.alloc _) (fun hHeld2 => ?_)
          clear hK K hHeld
          have hHeld := hHeld2
          clear hHeld2
          try simp only [Act.put, List.setIfInBounds_toArray, List.set_cons_zero, List.set_cons_succ]
          refine wpAnyH_ready (rs := [11]) (by kernel_rfl) (by simp) (AllReadyH.cons (o := { dst := some 40, op := _, type := _, pos := _, after := _, guard := _ }) rfl (fun K hK => ?_) AllReadyH.nil)
          have HWD : ∀ o, (wr.alloc o).drew = wr.drew.alloc o := fun _ => rfl
          rw [HWD]
          refine Kd.R_append_step (Kd.int .u8) (w0 := w) w.heap.size ?_ (.tmp 29) (.tmp 39) 32 5 (.int .u8 0) 1 rfl Try.underlying32 (by kernel_rfl) rfl (by decide) (by decide) _ (bothL a b i) (Go.bits .xor .u8 tx yx) [.int .u8 (Go.bits .xor .u8 tx yx)] (fun _ => True) (fun _ => False) rfl ?_ ?_ ?_ ?_ OD.out ?_ ?_ ?_ ?_
          · rfl
          · rfl
          · rfl
          · exact fun k h => h.elim
          · exact fun _ _ => trivial
          · exact HS0.out.below
          · exact HS0.out.below.size
          · rw [bothL_length]; have := h1000.out; omega
          intro v1 w1 hr1 hb1 hg hat
          have HR1 := Aside0.mk hr1
          refine hK.out _ _ (HS0.out.grown hg (by intro p hp; simp at hp; subst hp; exact HNE.out) hb1) (fun hHeld2 => ?_)
          clear hK K hHeld HS0 OD hr1 hb1 hg hat HWD
          have hHeld := hHeld2
          clear hHeld2
          try simp only [Act.put, List.setIfInBounds_toArray, List.set_cons_zero, List.set_cons_succ]
          refine wpAnyH_take (i := 12) (oi := { dst := some 7, op := _, type := _, pos := _, after := _, guard := _ }) (v := ?_) rfl (by kernel_rfl) (by kernel_rfl) (by kernel_rfl) (fun _ _ _ h => h) (Or.inl ⟨by rfl, ?_⟩) hHeld ?_
          rotate_left
          · (intro w hSw; go_simp) <;> (with_reducible rfl)
          try simp only [Act.put, List.setIfInBounds_toArray, List.set_cons_zero, List.set_cons_succ]
          refine wpAnyH_done (by kernel_rfl) ?_ _
          refine NoPanic.normal ?_
          go_wp2_with fail
          go_roundg k1
          case measure => omega
          case rel =>
            refine ⟨i + 1, by simp, ⟨by have := HQ.out; omega⟩, ⟨?_⟩, ⟨hHeld⟩⟩
            rw [HX.out]
            exact HR1.out
        | zero =>
          obtain rfl : i = n2 := by omega
          clear hq HQ
          go_wp2_with fail
          obtain ⟨A7, c7, hv7, hc7, hC7⟩ := Kd.R_reads HO.out
          rw [bothL_length] at hv7 hc7 hC7
          subst hv7
          have L7 := Aside0.mk hc7
          have hS : Hs [(w.heap.size, 23, key)] w wr.drew ∧ (Kd.int .u8).C wr.drew A7 i (bothL a b i) := ⟨HS.out.drew, Kd.C_drew hC7⟩
          clear HS HO hc7 hC7
          have HZ16 := Aside0.mk zs_length
          have HBL := Aside0.mk (bothL_length a b i)
          obtain ⟨hid, hh⟩ : ∃ h, h = hideL key zs a i := ⟨_, rfl⟩
          obtain ⟨gid, hg⟩ : ∃ h, h = hideL key zs (bothL a b i) i := ⟨_, rfl⟩
          have HHB := Aside0.mk (show ∀ j, j < i → Go.bits .xor .u8 (hid.getD j 0) (b.getD j 0) = gid.getD j 0 by intro j hj; rw [hh, hg]; exact hide_both zs HKB.out HAB.out HBB.out i j hj)
          have HH := Aside0.mk hh
          have HG := Aside0.mk hg
          clear hh hg
          refine wp_region_noPanic ?_
          refine wp_region_held_drew (S := fun W => Hs [(w.heap.size, 23, key)] w W ∧ (Kd.int .u8).C W A7 i (bothL a b i)) (by kernel_rfl) (hS) (fun hHeld => ?_)
          clear hS
          refine take_load 0 (oi := { dst := some 42, op := _, type := _, pos := _, after := _, guard := _ }) rfl (by kernel_rfl) (by kernel_rfl) (by kernel_rfl) (fun _ _ _ _ h => h) 23 (.tmp 3) rfl (by rfl) w.heap.size 23 key (by rfl) arrKey HK.out (fun W h => h.1.at _ _ _ (by simp)) hHeld ?_
          try simp only [Act.put, List.setIfInBounds_toArray, List.set_cons_zero, List.set_cons_succ]
          refine wpAnyH_take (i := 1) (oi := { dst := some 43, op := _, type := _, pos := _, after := _, guard := _ }) (v := ?_) rfl (by kernel_rfl) (by kernel_rfl) (by kernel_rfl) (fun _ _ _ h => h) (Or.inl ⟨by rfl, ?_⟩) hHeld ?_
          rotate_left
          · (intro w hSw; go_simp) <;> (with_reducible rfl)
          try simp only [Act.put, List.setIfInBounds_toArray, List.set_cons_zero, List.set_cons_succ]
          refine wpAnyH_take (i := 2) (oi := { dst := some 44, op := _, type := _, pos := _, after := _, guard := _ }) (v := ?_) rfl (by kernel_rfl) (by kernel_rfl) (by kernel_rfl) (fun _ _ _ h => h) (Or.inl ⟨by rfl, ?_⟩) hHeld ?_
          rotate_left
          · (intro w hSw; go_simp) <;> (with_reducible rfl)
          try simp only [Act.put, List.setIfInBounds_toArray, List.set_cons_zero, List.set_cons_succ]
          refine take_load 4 (oi := { dst := some 46, op := _, type := _, pos := _, after := _, guard := _ }) rfl (by kernel_rfl) (by kernel_rfl) (by kernel_rfl) (fun _ _ _ _ h => h) 23 (.tmp 3) rfl (by rfl) w.heap.size 23 key (by rfl) arrKey HK.out (fun W h => h.1.at _ _ _ (by simp)) hHeld ?_
          try simp only [Act.put, List.setIfInBounds_toArray, List.set_cons_zero, List.set_cons_succ]
          refine wpAnyH_take (i := 5) (oi := { dst := some 47, op := _, type := _, pos := _, after := _, guard := _ }) (v := ?_) rfl (by kernel_rfl) (by kernel_rfl) (by kernel_rfl) (fun _ _ _ h => h) (Or.inl ⟨by rfl, ?_⟩) hHeld ?_
          rotate_left
          · (intro w hSw; go_simp) <;> (with_reducible rfl)
          try simp only [Act.put, List.setIfInBounds_toArray, List.set_cons_zero, List.set_cons_succ]
          refine wpAnyH_take (i := 6) (oi := { dst := some 48, op := _, type := _, pos := _, after := _, guard := _ }) (v := ?_) rfl (by kernel_rfl) (by kernel_rfl) (by kernel_rfl) (fun _ _ _ h => h) (Or.inl ⟨by rfl, ?_⟩) hHeld ?_
          rotate_left
          · (intro w hSw; go_simp) <;> (with_reducible rfl)
          try simp only [Act.put, List.setIfInBounds_toArray, List.set_cons_zero, List.set_cons_succ]
          refine wpAnyH_ready (rs := [3]) (by kernel_rfl) (by simp) (AllReadyH.cons (o := { dst := some 45, op := _, type := _, pos := _, after := _, guard := _ }) rfl (fun K hK => ?_) AllReadyH.nil)
          go_simp
          refine (hide_reads _ key zs a A i c HK.out HKB.out HZ16.out zs_by HLN.out (Kd.C_below HC.out hHeld.1.below) HCC.out h1000.out).mono ?_
          rintro e w8 ⟨A8, c8, rfl, hc8, hC8, hb8⟩
          rw [← HH.out] at hC8
          have C8 := Aside0.mk hC8
          clear hC8
          refine hK.out _ _ (⟨hHeld.1.call hb8, Kd.C_below hHeld.2 hb8⟩) (fun hHeld2 => ?_)
          clear hK K hHeld
          have hHeld := hHeld2
          clear hHeld2
          try simp only [Act.put, List.setIfInBounds_toArray, List.set_cons_zero, List.set_cons_succ]
          refine wpAnyH_ready (rs := [7]) (by kernel_rfl) (by simp) (AllReadyH.cons (o := { dst := some 49, op := _, type := _, pos := _, after := _, guard := _ }) rfl (fun K hK => ?_) AllReadyH.nil)
          go_simp
          refine (hide_reads _ key zs (bothL a b i) A7 i c7 HK.out HKB.out HZ16.out zs_by HBL.out hHeld.2 L7.out h1000.out).mono ?_
          rintro e w9 ⟨A9, c9, rfl, hc9, hC9, hb9⟩
          rw [← HG.out] at hC9
          have C9 := Aside0.mk hC9
          have C89 := Aside0.mk (Kd.C_below C8.out hb9)
          clear hC9 C8
          refine hK.out _ _ (⟨hHeld.1.call hb9, Kd.C_below hHeld.2 hb9⟩) (fun hHeld2 => ?_)
          clear hK K hHeld
          have hHeld := hHeld2
          clear hHeld2
          try simp only [Act.put, List.setIfInBounds_toArray, List.set_cons_zero, List.set_cons_succ]
          refine wpAnyH_take (i := 8) (oi := { dst := some 9, op := _, type := _, pos := _, after := _, guard := _ }) (v := ?_) rfl (by kernel_rfl) (by kernel_rfl) (by kernel_rfl) (fun _ _ _ h => h) (Or.inl ⟨by rfl, ?_⟩) hHeld ?_
          rotate_left
          · (intro w hSw; go_simp) <;> (with_reducible rfl)
          try simp only [Act.put, List.setIfInBounds_toArray, List.set_cons_zero, List.set_cons_succ]
          refine wpAnyH_take (i := 9) (oi := { dst := some 10, op := _, type := _, pos := _, after := _, guard := _ }) (v := ?_) rfl (by kernel_rfl) (by kernel_rfl) (by kernel_rfl) (fun _ _ _ h => h) (Or.inl ⟨by rfl, ?_⟩) hHeld ?_
          rotate_left
          · (intro w hSw; go_simp) <;> (with_reducible rfl)
          try simp only [Act.put, List.setIfInBounds_toArray, List.set_cons_zero, List.set_cons_succ]
          refine wpAnyH_done (by kernel_rfl) ?_ _
          refine NoPanic.normal ?_
          have SF := Aside0.mk hHeld.1
          clear hHeld
          go_wp2_with fail
          go_loopg [52] i (fun kq v52 w' => ∃ (j : Nat), v52 = .int .i64 (j : Int) ∧ Aside0 (j + kq = i) ∧ Aside0 (Below w9.heap.size w9 w'))
          case atStart => exact ⟨0, rfl, ⟨by omega⟩, ⟨Below.refl _ _⟩⟩
          case round =>
            obtain ⟨j, rfl, HQ, HB9⟩ := hrel
            have hq := HQ.out
            cases gk with
            | zero =>
              obtain rfl : j = i := by omega
              clear hq HQ
              have hfin := below_then HB9.out SF.out.below
              go_wp2_with fail
              go_ret
              exact ⟨rfl, hfin⟩
            | succ k1 =>
              have hlt : j < i := by omega
              have hlt2 : (j : Int) < (i : Int) := by omega
              obtain ⟨ad, had, hcell⟩ := Kd.at_int C89.out (j : Int) (by omega) hlt2
              subst had
              rw [rd_getD, Int.toNat_natCast] at hcell
              obtain ⟨ad2, had2, hcell2⟩ := Kd.at_int HC2.out (j : Int) (by omega) hlt2
              subst had2
              rw [rd_getD, Int.toNat_natCast] at hcell2
              obtain ⟨ad3, had3, hcell3⟩ := Kd.at_int C9.out (j : Int) (by omega) hlt2
              subst had3
              rw [rd_getD, Int.toNat_natCast] at hcell3
              have hx := HHB.out j hlt
              obtain ⟨u1, hu1⟩ : ∃ v, hid.getD j 0 = v := ⟨_, rfl⟩
              obtain ⟨u2, hu2⟩ : ∃ v, b.getD j 0 = v := ⟨_, rfl⟩
              obtain ⟨u3, hu3⟩ : ∃ v, gid.getD j 0 = v := ⟨_, rfl⟩
              rw [hu1] at hcell hx
              rw [hu2] at hcell2 hx
              rw [hu3] at hcell3 hx
              have E1 := Aside0.mk hcell
              have E2 := Aside0.mk hcell2
              have E3 := Aside0.mk hcell3
              have W9 := Aside0.mk SF.out.below
              clear hq hcell hcell2 hcell3 hu1 hu2 hu3
              go_wp2_with fail
              have hS := HB9.out.drew
              clear HB9
              refine wp_region_noPanic ?_
              refine wp_region_held_drew (S := fun W => Below w9.heap.size w9 W) (by kernel_rfl) (hS) (fun hHeld => ?_)
              clear hS
              refine wpAnyH_take (i := 0) (oi := { dst := some 55, op := _, type := _, pos := _, after := _, guard := _ }) (v := ?_) rfl (by kernel_rfl) (by kernel_rfl) (by kernel_rfl) (fun _ _ _ h => h) (Or.inl ⟨by rfl, ?_⟩) hHeld ?_
              rotate_left
              · (intro w hSw; go_simp) <;> (with_reducible rfl)
              try simp only [Act.put, List.setIfInBounds_toArray, List.set_cons_zero, List.set_cons_succ]
              refine wpAnyH_take (i := 1) (oi := { dst := some 56, op := _, type := _, pos := _, after := _, guard := _ }) (v := ?_) rfl (by kernel_rfl) (by kernel_rfl) (by kernel_rfl) (fun _ _ _ h => h) (Or.inl ⟨by rfl, ?_⟩) hHeld ?_
              rotate_left
              · (intro w hSw; go_simp) <;> (with_reducible rfl)
              try simp only [Act.put, List.setIfInBounds_toArray, List.set_cons_zero, List.set_cons_succ]
              refine wpAnyH_take (i := 2) (oi := { dst := some 57, op := _, type := _, pos := _, after := _, guard := _ }) (v := ?_) rfl (by kernel_rfl) (by kernel_rfl) (by kernel_rfl) (fun _ _ _ h => h) (Or.inl ⟨by rfl, ?_⟩) hHeld ?_
              rotate_left
              · (intro w hSw; go_simp) <;> (with_reducible rfl)
              try simp only [Act.put, List.setIfInBounds_toArray, List.set_cons_zero, List.set_cons_succ]
              refine wpAnyH_take (i := 3) (oi := { dst := some 58, op := _, type := _, pos := _, after := _, guard := _ }) (v := ?_) rfl (by kernel_rfl) (by kernel_rfl) (by kernel_rfl) (fun _ _ _ h => h) (Or.inl ⟨by rfl, ?_⟩) hHeld ?_
              rotate_left
              · (intro w hSw; have cc := (hSw.cell (World.block_lt_of_cell? _ _ E1.out)).trans E1.out; go_simp) <;> (with_reducible rfl)
              try simp only [Act.put, List.setIfInBounds_toArray, List.set_cons_zero, List.set_cons_succ]
              refine wpAnyH_take (i := 4) (oi := { dst := some 59, op := _, type := _, pos := _, after := _, guard := _ }) (v := ?_) rfl (by kernel_rfl) (by kernel_rfl) (by kernel_rfl) (fun _ _ _ h => h) (Or.inl ⟨by rfl, ?_⟩) hHeld ?_
              rotate_left
              · (intro w hSw; go_simp) <;> (with_reducible rfl)
              try simp only [Act.put, List.setIfInBounds_toArray, List.set_cons_zero, List.set_cons_succ]
              refine wpAnyH_take (i := 5) (oi := { dst := some 60, op := _, type := _, pos := _, after := _, guard := _ }) (v := ?_) rfl (by kernel_rfl) (by kernel_rfl) (by kernel_rfl) (fun _ _ _ h => h) (Or.inl ⟨by rfl, ?_⟩) hHeld ?_
              rotate_left
              · (intro w hSw; go_simp) <;> (with_reducible rfl)
              try simp only [Act.put, List.setIfInBounds_toArray, List.set_cons_zero, List.set_cons_succ]
              refine wpAnyH_take (i := 6) (oi := { dst := some 61, op := _, type := _, pos := _, after := _, guard := _ }) (v := ?_) rfl (by kernel_rfl) (by kernel_rfl) (by kernel_rfl) (fun _ _ _ h => h) (Or.inl ⟨by rfl, ?_⟩) hHeld ?_
              rotate_left
              · (intro w hSw; go_simp) <;> (with_reducible rfl)
              try simp only [Act.put, List.setIfInBounds_toArray, List.set_cons_zero, List.set_cons_succ]
              refine wpAnyH_take (i := 7) (oi := { dst := some 62, op := _, type := _, pos := _, after := _, guard := _ }) (v := ?_) rfl (by kernel_rfl) (by kernel_rfl) (by kernel_rfl) (fun _ _ _ h => h) (Or.inl ⟨by rfl, ?_⟩) hHeld ?_
              rotate_left
              · (intro w hSw; have cc := ((below_then hSw W9.out).cell (World.block_lt_of_cell? _ _ E2.out)).trans E2.out; go_simp) <;> (with_reducible rfl)
              try simp only [Act.put, List.setIfInBounds_toArray, List.set_cons_zero, List.set_cons_succ]
              refine wpAnyH_take (i := 8) (oi := { dst := some 63, op := _, type := _, pos := _, after := _, guard := _ }) (v := ?_) rfl (by kernel_rfl) (by kernel_rfl) (by kernel_rfl) (fun _ _ _ h => h) (Or.inl ⟨by rfl, ?_⟩) hHeld ?_
              rotate_left
              · (intro w hSw; go_simp) <;> (with_reducible rfl)
              try simp only [Act.put, List.setIfInBounds_toArray, List.set_cons_zero, List.set_cons_succ]
              refine wpAnyH_take (i := 9) (oi := { dst := some 64, op := _, type := _, pos := _, after := _, guard := _ }) (v := ?_) rfl (by kernel_rfl) (by kernel_rfl) (by kernel_rfl) (fun _ _ _ h => h) (Or.inl ⟨by rfl, ?_⟩) hHeld ?_
              rotate_left
              · (intro w hSw; go_simp) <;> (with_reducible rfl)
              try simp only [Act.put, List.setIfInBounds_toArray, List.set_cons_zero, List.set_cons_succ]
              refine wpAnyH_take (i := 10) (oi := { dst := some 65, op := _, type := _, pos := _, after := _, guard := _ }) (v := ?_) rfl (by kernel_rfl) (by kernel_rfl) (by kernel_rfl) (fun _ _ _ h => h) (Or.inl ⟨by rfl, ?_⟩) hHeld ?_
              rotate_left
              · (intro w hSw; go_simp) <;> (with_reducible rfl)
              try simp only [Act.put, List.setIfInBounds_toArray, List.set_cons_zero, List.set_cons_succ]
              refine wpAnyH_take (i := 11) (oi := { dst := some 66, op := _, type := _, pos := _, after := _, guard := _ }) (v := ?_) rfl (by kernel_rfl) (by kernel_rfl) (by kernel_rfl) (fun _ _ _ h => h) (Or.inl ⟨by rfl, ?_⟩) hHeld ?_
              rotate_left
              · (intro w hSw; go_simp) <;> (with_reducible rfl)
              try simp only [Act.put, List.setIfInBounds_toArray, List.set_cons_zero, List.set_cons_succ]
              refine wpAnyH_take (i := 12) (oi := { dst := some 67, op := _, type := _, pos := _, after := _, guard := _ }) (v := ?_) rfl (by kernel_rfl) (by kernel_rfl) (by kernel_rfl) (fun _ _ _ h => h) (Or.inl ⟨by rfl, ?_⟩) hHeld ?_
              rotate_left
              · (intro w hSw; have cc := (hSw.cell (World.block_lt_of_cell? _ _ E3.out)).trans E3.out; go_simp) <;> (with_reducible rfl)
              try simp only [Act.put, List.setIfInBounds_toArray, List.set_cons_zero, List.set_cons_succ]
              refine wpAnyH_take (i := 13) (oi := { dst := some 68, op := _, type := _, pos := _, after := _, guard := _ }) (v := ?_) rfl (by kernel_rfl) (by kernel_rfl) (by kernel_rfl) (fun _ _ _ h => h) (Or.inl ⟨by rfl, ?_⟩) hHeld ?_
              rotate_left
              · (intro w hSw; go_simp) <;> (with_reducible rfl)
              try simp only [Act.put, List.setIfInBounds_toArray, List.set_cons_zero, List.set_cons_succ]
              refine wpAnyH_done (by kernel_rfl) ?_ _
              refine NoPanic.normal ?_
              go_wp2_with fail
              go_roundg k1
              case measure => omega
              case rel => exact ⟨j + 1, by simp, ⟨by have := HQ.out; omega⟩, ⟨hHeld⟩⟩
    · have h4b : ((n2 : Int) != (n : Int)) = true := by rw [bne_iff_ne]; omega
      have h4c : (n2 != n) = true := by rw [bne_iff_ne]; exact h4
      go_enter Try.func9, Try.ntmps9
      go_wp2_with fail
      refine (wakes6_calls _).mono ?_
      rintro e w1 ⟨rfl, hb1⟩
      have S2 := Aside0.mk (S1.out.call hb1)
      clear S1 hb1
      go_wp2_with fail
      go_ret
      exact ⟨rfl, S2.out.below⟩
  · have h3i : (300 : Int) < (n : Int) := by omega
    clear h3
    go_enter Try.func9, Try.ntmps9
    go_wp2_with fail
    refine (wakes6_calls _).mono ?_
    rintro e w1 ⟨rfl, hb1⟩
    have S2 := Aside0.mk (S1.out.call hb1)
    clear S1 hb1
    go_wp2_with fail
    go_ret
    exact ⟨rfl, S2.out.below⟩

end Go.Proofs.Ytingegkipimakaa.Ae
