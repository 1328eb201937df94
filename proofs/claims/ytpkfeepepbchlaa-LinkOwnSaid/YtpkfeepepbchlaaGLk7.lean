import Derived.Test.YtpkfeepepbchlaaGLk6
namespace Go.Proofs.Ytpkfeepepbchlaa.Bl
open Go.RowKit Go.Maps Go.Proofs.YtpkfeepepbchlaaW.PrintWords Go.Proofs.YtpkfeepepbchlaaW.PrintLast Go.Proofs.YtpkfeepepbchlaaW.PrintMore Go.Proofs.Ytpkfeepepbchlaa.PK
set_option linter.unusedVariables false
set_option linter.unusedSimpArgs false
theorem take_snoc' {α : Type} (L : List α) (i : Nat) (h : i < L.length) : L.take (i + 1) = L.take i ++ [L[i]] := by rw [List.take_add_one, List.getElem?_eq_getElem h]; rfl
theorem infoF : (Try.prog.info? 43).map (fun i => (i.zero, i.size, i.bytes)) = some (some (.agg #[.int .i64 0, .slice none 0 0]), 2, 32) := by kernel_rfl
theorem grown_row {w a b : World} {n : Nat} {o : Option Nat} (h : w.grownBy a (some n)) (hg : a.grownBy b o) (ho : ∀ k, o = some k → w.heap.size ≤ k) : w.grownBy b (some n) :=
  ⟨hg.os.trans h.os, hg.tape.trans h.tape, hg.output.trans h.output, Nat.le_trans h.size hg.size, fun k hk hne => (hg.block k (Nat.lt_of_lt_of_le hk h.size) (fun e => by have := ho k e.symm; omega)).trans (h.block k hk hne)⟩
theorem own_calls (kind : Int) (A : Option Addr) (c : Nat) (l : List Int) (w : World) (hr : Bs.C w A l.length l) (hc : l.length ≤ c) (hl : l.length ≤ 140737488355328) :
    Calls Try.prog 31 #[.agg #[.int .i64 kind, .slice A l.length c]] w fun e w' => ∃ v, e = .returned (.agg #[.int .i64 kind, v]) ∧ Bs.R 5 w' w.heap.size (fun _ => True) v l ∧ Below w.heap.size w w' := by
  have HR := Aside0.mk hr
  clear hr
  have K1 := Aside0.mk (blk_alloc (blk_new w (.cells #[.int .i64 kind, .slice A l.length c] 43)) (.cells #[.int .i64 0, .slice none 0 0] 43))
  have hs1 := alloc_size w (.cells #[.int .i64 kind, .slice A l.length c] 43)
  have K2 := Aside0.mk (hs1 ▸ blk_new (w.alloc (.cells #[.int .i64 kind, .slice A l.length c] 43)) (.cells #[.int .i64 0, .slice none 0 0] 43))
  have B1 := Aside0.mk (below_alloc (below_alloc (Below.refl w.heap.size w) (.cells #[.int .i64 kind, .slice A l.length c] 43)) (.cells #[.int .i64 0, .slice none 0 0] 43))
  clear hs1
  go_enter Try.func31, Try.ntmps31
  go_wp2_with fail
  generalize (w.alloc (.cells #[.int .i64 kind, .slice A l.length c] 43)).alloc (.cells #[.int .i64 0, .slice none 0 0] 43) = w1 at K1 K2 B1 ⊢
  refine (Sb.clone_calls A c l w1 (Kd.C_below HR.out B1.out) hc hl).mono ?_
  rintro e w2 ⟨v, rfl, hv, hb2⟩
  have B2 := Aside0.mk (B1.out.trans (hb2.mono B1.out.size))
  have K3 := Aside0.mk (blk_below K1.out hb2)
  have K4 := Aside0.mk (blk_below K2.out hb2)
  have HV := Aside0.mk (Kd.R_lower hv B1.out.size)
  obtain ⟨A2, c2, rfl, _, _⟩ := Kd.R_reads hv
  have a0 : w2.cell? ⟨w.heap.size, 0, none⟩ = some (.int .i64 kind) := (blk_cell K3.out 0).trans rfl
  have a1 : w2.cell? ⟨w.heap.size, 1, none⟩ = some (.slice A l.length c) := (blk_cell K3.out 1).trans rfl
  have z1 := blk_frozen K3.out 1
  have b0 : w2.cell? ⟨w.heap.size + 1, 0, none⟩ = some (.int .i64 0) := (blk_cell K4.out 0).trans rfl
  have b1 : w2.cell? ⟨w.heap.size + 1, 1, none⟩ = some (.slice none 0 0) := (blk_cell K4.out 1).trans rfl
  have y0 := blk_frozen K4.out 0
  have y1 := blk_frozen K4.out 1
  clear hv hb2 K1 K2 B1
  have K5 := Aside0.mk (blk_put K3.out 1 (.slice A2 l.length c2) rfl)
  have K6 := Aside0.mk (blk_far (p := ⟨w.heap.size, 1, none⟩) K4.out (show w.heap.size + 1 ≠ w.heap.size by omega) (.slice A2 l.length c2))
  have d0 : (w2.setCell ⟨w.heap.size, 1, none⟩ (.slice A2 l.length c2)).cell? ⟨w.heap.size, 0, none⟩ = some (.int .i64 kind) := (blk_cell K5.out 0).trans rfl
  have d1 : (w2.setCell ⟨w.heap.size, 1, none⟩ (.slice A2 l.length c2)).cell? ⟨w.heap.size, 1, none⟩ = some (.slice A2 l.length c2) := (blk_cell K5.out 1).trans rfl
  have e0 : (w2.setCell ⟨w.heap.size, 1, none⟩ (.slice A2 l.length c2)).cell? ⟨w.heap.size + 1, 0, none⟩ = some (.int .i64 0) := (blk_cell K6.out 0).trans rfl
  have e1 : (w2.setCell ⟨w.heap.size, 1, none⟩ (.slice A2 l.length c2)).cell? ⟨w.heap.size + 1, 1, none⟩ = some (.slice none 0 0) := (blk_cell K6.out 1).trans rfl
  have x0 := blk_frozen K6.out 0
  have x1 := blk_frozen K6.out 1
  go_wp2_with fail
  refine bodyPost_ret (results_cell_row rfl _ _ (w.heap.size + 1) 43 _ (0, 0) _ rfl (blk_put (blk_put K6.out 0 (.int .i64 kind) rfl) 1 (.slice A2 l.length c2) rfl) Try.underlying43 rfl (by kernel_rfl)) rfl ?_
  have R7 := Kd.R_set (Kd.R_set (Kd.R_set HV.out K3.out (by decide) 1 (.slice A2 l.length c2)) K6.out (by decide) 0 (.int .i64 kind)) (blk_put K6.out 0 (.int .i64 kind) rfl) (by decide) 1 (.slice A2 l.length c2)
  exact ⟨_, rfl, R7, below_set (below_set (below_set B2.out (Nat.le_refl _)) (by omega)) (by omega)⟩
set_option maxRecDepth 20000 in
set_option maxHeartbeats 16000000 in
theorem More_calls (w0 w : World) (n : Nat) (pv : Value) (A : Option Addr) (c : Nat) (fs : List Ft) (hB : Below w0.heap.size w0 w) (hn : w0.heap.size ≤ n) (hnet : w.heap[n]? = some (.cells #[pv, .slice none 0 0, .int .i64 0, .int .i64 0, .int .i64 0] 58 (0, 0))) (hC : Kd.C kF w0 A fs.length fs) (hc : fs.length ≤ c) (hl : fs.length ≤ 1000) (hfo : ∀ f ∈ fs, f.f1.length ≤ 3000) :
    Calls Try.prog 20 #[.pointer (some ⟨n, 0, none⟩), .slice A fs.length c] w fun e w' => ∃ v, e = .returned (.tuple #[]) ∧ w'.heap[n]? = some (.cells #[pv, v, .int .i64 0, .int .i64 0, .int .i64 0] 58 (0, 0)) ∧ Kd.R kF 43 w' w0.heap.size (fun k => w.heap.size ≤ k) v fs ∧ w.grownBy w' (some n) := by
  have HC := Aside0.mk hC
  have HN := Aside0.mk hnet
  have HB := Aside0.mk hB
  have hnl := blk_lt hnet
  have hs0 := hB.size
  clear hC hnet hB
  go_enter Try.func20, Try.ntmps20
  go_wp2_with fail
  go_loopg [10] fs.length (fun kq v10 w' => ∃ (i : Nat) (v : Value), v10 = .int .i64 i ∧ i ≤ fs.length ∧ Aside0 (kq + i = fs.length) ∧ Aside0 (w'.heap[n]? = some (.cells #[pv, v, .int .i64 0, .int .i64 0, .int .i64 0] 58 (0, 0))) ∧ Aside0 (Kd.R kF 43 w' w0.heap.size (fun k => w.heap.size ≤ k) v (fs.take i)) ∧ Aside0 (w.grownBy w' (some n)) ∧ Aside0 (Below w0.heap.size w0 w'))
  case atStart => exact ⟨0, _, rfl, Nat.zero_le _, ⟨rfl⟩, HN, ⟨Kd.R_nil _ _ _ _ _⟩, ⟨grown_of_below (Below.refl _ _) _⟩, HB⟩
  case round =>
    obtain ⟨i, v, rfl, hi, HK, HNW, HR, HG, HBW⟩ := hrel
    by_cases hlt : i < fs.length
    · have hci : (i : Int) < (fs.length : Int) := by omega
      obtain ⟨ad, A1, c1, e9, hx0, hx1, hl1, hC1⟩ := at_T43 HC.out i (Int.natCast_nonneg _) hci
      cases e9
      have hx0 := Kd.cell_heap (fun k hk => HBW.out.block k hk) hx0
      have hx1 := Kd.cell_heap (fun k hk => HBW.out.block k hk) hx1
      have hfe : rd_T43 fs i = fs[i] := by unfold rd_T43; rw [Int.toNat_natCast, List.getD_eq_getElem?_getD, List.getElem?_eq_getElem hlt]; rfl
      rw [hfe] at hx0 hx1 hl1 hC1
      have hf3 := hfo fs[i] (List.getElem_mem hlt)
      have HSN := Aside0.mk (take_snoc' fs i hlt)
      generalize fs[i] = f at hx0 hx1 hl1 hC1 hf3 HSN
      rw [Int.toNat_natCast] at hx0 hx1
      have HC1 := Aside0.mk hC1
      obtain ⟨Av, cv, rfl, _, _⟩ := Kd.R_reads HR.out
      have htl : (fs.take i).length = i := by rw [List.length_take]; omega
      rw [htl] at HNW HR
      clear hfe hC1
      go_wp2_with fail
      have hb4 := below_alloc (Below.refl wr.heap.size wr) (.cells #[.int .i64 f.f0, .slice A1 f.f1.length c1] 43)
      have KP := blk_new wr (.cells #[.int .i64 f.f0, .slice A1 f.f1.length c1] 43)
      have HN4 := blk_below HNW.out hb4
      have HR4 := Kd.R_below HR.out hb4
      have HG4 := gx_below HG.out hb4
      have HB4 := HBW.out.trans (hb4.mono HBW.out.size)
      have hlp : wr.heap.size < (wr.alloc (.cells #[.int .i64 f.f0, .slice A1 f.f1.length c1] 43)).heap.size := blk_lt KP
      have HR4x := HR
      generalize hpf : wr.heap.size = pf at KP hlp ⊢
      generalize wr.alloc (.cells #[.int .i64 f.f0, .slice A1 f.f1.length c1] 43) = w4 at KP HN4 HR4 HG4 HB4 hlp ⊢
      clear hb4 hx0 hx1 HNW HR HG HBW
      refine wp_region_noPanic ?_
      refine wp_region_held_drew (S := fun W => Below w0.heap.size w0 W ∧ W.heap[pf]? = some (.cells #[.int .i64 f.f0, .slice A1 f.f1.length c1] 43 (0, 0))) (by kernel_rfl) (⟨below_drew HB4, blk_drew KP⟩) (fun hHeld => ?_)
      have HN5 := Aside0.mk (blk_drew HN4)
      have HR5 := Aside0.mk (Kd.R_drew HR4)
      have HG5 := Aside0.mk (gx_below HG4 (below_drew (Below.refl _ _)))
      have hl5 : pf < w4.drew.heap.size := hlp
      have hpne : some pf ≠ (Value.slice Av i cv).ownBlock := fun e => by have := Kd.R_lt HR4x.out pf e.symm; omega
      generalize w4.drew = w5 at HN5 HR5 HG5 hHeld hl5 ⊢
      clear HN4 HR4 HG4 HB4 KP hlp HR4x hpf
      refine wpAnyH_take (i := 0) (oi := { dst := some 14, op := _, type := _, pos := _, after := _, guard := _ }) (v := ?_) rfl (by kernel_rfl) (by kernel_rfl) (by kernel_rfl) (fun _ _ _ h => h) (Or.inl ⟨by rfl, ?_⟩) hHeld ?_
      rotate_left
      · (intro w hSw; go_simp) <;> (with_reducible rfl)
      try simp only [Act.put, List.setIfInBounds_toArray, List.set_cons_zero, List.set_cons_succ]
      refine wpAnyH_take (i := 1) (oi := { dst := some 15, op := _, type := _, pos := _, after := _, guard := _ }) (v := ?_) rfl (by kernel_rfl) (by kernel_rfl) (by kernel_rfl) (fun _ _ _ h => h) (Or.inl ⟨by rfl, ?_⟩) hHeld ?_
      rotate_left
      · (intro w hSw; go_simp) <;> (with_reducible rfl)
      try simp only [Act.put, List.setIfInBounds_toArray, List.set_cons_zero, List.set_cons_succ]
      refine wpAnyH_take (i := 2) (oi := { dst := some 16, op := _, type := _, pos := _, after := _, guard := _ }) (v := ?_) rfl (by kernel_rfl) (by kernel_rfl) (by kernel_rfl) (fun _ _ _ h => h) (Or.inl ⟨by rfl, ?_⟩) hHeld ?_
      rotate_left
      · (intro w hSw; go_simp) <;> (with_reducible rfl)
      try simp only [Act.put, List.setIfInBounds_toArray, List.set_cons_zero, List.set_cons_succ]
      refine wpAnyH_take (i := 3) (oi := { dst := some 17, op := _, type := _, pos := _, after := _, guard := _ }) (v := ?_) rfl (by kernel_rfl) (by kernel_rfl) (by kernel_rfl) (fun _ _ _ h => h) (Or.inl ⟨by rfl, ?_⟩) hHeld ?_
      rotate_left
      · (intro w hSw; go_simp) <;> (with_reducible rfl)
      try simp only [Act.put, List.setIfInBounds_toArray, List.set_cons_zero, List.set_cons_succ]
      refine wpAnyH_take (i := 5) (oi := { dst := some 19, op := _, type := _, pos := _, after := _, guard := _ }) (v := ?_) rfl (by kernel_rfl) (by kernel_rfl) (by kernel_rfl) (fun _ _ _ h => h) (Or.inl ⟨by rfl, ?_⟩) hHeld ?_
      rotate_left
      · (intro w hSw; have h0 : w.cell? ⟨pf, 0, none⟩ = some (.int .i64 f.f0) := (blk_cell hSw.2 0).trans rfl; have h1 : w.cell? ⟨pf, 1, none⟩ = some (.slice A1 f.f1.length c1) := (blk_cell hSw.2 1).trans rfl; go_simp) <;> (with_reducible rfl)
      try simp only [Act.put, List.setIfInBounds_toArray, List.set_cons_zero, List.set_cons_succ]
      refine wpAnyH_ready (rs := [4, 6]) (by kernel_rfl) (by simp) (AllReadyH.cons (o := { dst := some 18, op := _, type := _, pos := _, after := _, guard := _ }) rfl (fun K hK => ?_) (AllReadyH.cons (o := { dst := some 20, op := _, type := _, pos := _, after := _, guard := _ }) rfl (fun K hK => ?_) AllReadyH.nil))
      · have gn : w5.cell? ⟨n, 1, none⟩ = some (.slice Av i cv) := (blk_cell HN5.out 1).trans rfl
        go_simp
        clear gn
        refine hK.out _ _ (hHeld) (fun hHeld2 => ?_)
        clear hK K hHeld
        have hHeld := hHeld2
        clear hHeld2
        try simp only [Act.put, List.setIfInBounds_toArray, List.set_cons_zero, List.set_cons_succ]
        refine wpAnyH_ready (rs := [6]) (by kernel_rfl) (by simp) (AllReadyH.cons (o := { dst := some 20, op := _, type := _, pos := _, after := _, guard := _ }) rfl (fun K hK => ?_) AllReadyH.nil)
        go_simp
        refine (own_calls f.f0 A1 c1 f.f1 w5 (Kd.C_below HC1.out hHeld.1) hl1 (by omega)).mono ?_
        rintro e w6 ⟨u, rfl, hu, hb6⟩
        have hs6 := hb6.size
        have HN6 := Aside0.mk (blk_below HN5.out hb6)
        have HR6 := Aside0.mk (Kd.R_below HR5.out hb6)
        have HG6 := Aside0.mk (gx_below HG5.out hb6)
        have hbl6 := Kd.R_lt HR5.out
        have hwl6 := HG5.out.size
        have HU6 := Aside0.mk (Kd.R_lower (Kd.R_mono (ok' := fun k => w5.heap.size ≤ k) (Kd.R_bound hu) (fun k hk => hk.2.1)) (Nat.le_trans hHeld.1.size (Nat.le_refl _)))
        obtain ⟨Au, cu, rfl, _, _⟩ := Kd.R_reads hu
        have hS6 : Below w0.heap.size w0 w6 ∧ w6.heap[pf]? = some (.cells #[.int .i64 f.f0, .slice A1 f.f1.length c1] 43 (0, 0)) := ⟨hHeld.1.trans (hb6.mono hHeld.1.size), blk_below hHeld.2 hb6⟩
        clear hu hb6 HN5 HR5 HG5
        refine hK.out _ _ hS6 (fun hHeld2 => ?_)
        clear hK K hHeld
        have hHeld := hHeld2
        clear hHeld2 hS6
        try simp only [Act.put, List.setIfInBounds_toArray, List.set_cons_zero, List.set_cons_succ]
        refine wpAnyH_ready (rs := [7]) (by kernel_rfl) (by simp) (AllReadyH.cons (o := { dst := some 21, op := _, type := _, pos := _, after := _, guard := _ }) rfl (fun K hK => ?_) AllReadyH.nil)
        go_simp
        refine hK.out _ _ (⟨hHeld.1.trans ((below_alloc (Below.refl _ _) _).mono hHeld.1.size), blk_alloc hHeld.2 _⟩) (fun hHeld2 => ?_)
        clear hK K
        have hHeldA := hHeld2
        clear hHeld2
        try simp only [Act.put, List.setIfInBounds_toArray, List.set_cons_zero, List.set_cons_succ]
        refine wpAnyH_ready (rs := [8]) (by kernel_rfl) (by simp) (AllReadyH.cons (o := { dst := some 22, op := _, type := _, pos := _, after := _, guard := _ }) rfl (fun K hK => ?_) AllReadyH.nil)
        refine Kd.R_append_step kF (w0 := w0) w0.heap.size ?gAW (.tmp 18) (.tmp 21) 22 43 (.agg #[.int .i64 0, .slice none 0 0]) 32 rfl Try.underlying22 infoF rfl (by decide) (by omega) _ (fs.take i) f [.int .i64 f.f0, .slice Au f.f1.length cu] (fun k => w.heap.size ≤ k) (fun k => w5.heap.size ≤ k) rfl ?gAX ?gAP ?gAQ ?gAF ?gAO ?gAB ?gAS ?gAL ?_
        (case gAW => rfl)
        (case gAX => rfl)
        (case gAP => exact k43_mkM _ _ _ f HU6.out)
        (case gAQ => exact fun k hk => ⟨by omega, fun e => by have := hbl6 k e.symm; omega⟩)
        (case gAF => exact fun k hk => by have := hs6; omega)
        (case gAO => exact HR6.out)
        (case gAB => exact hHeld.1)
        (case gAS => exact hHeld.1.size)
        (case gAL => rw [htl]; omega)
        intro v7 w7 hr7 hb7 hg7 hat7
        rw [← HSN.out] at hr7
        obtain ⟨A7, c7, hv7, _, _⟩ := Kd.R_reads hr7
        rw [show (fs.take (i + 1)).length = i + 1 from by rw [List.length_take]; omega] at hv7
        subst hv7
        have HN7 := blk_grown HN6.out hg7 (Kd.R_ne HR6.out HN6.out (by decide))
        have HG7 := Aside0.mk (grown_row HG6.out hg7 (fun k hk => HR6.out.1 k hk))
        have hS7 : Below w0.heap.size w0 w7 ∧ w7.heap[pf]? = some (.cells #[.int .i64 f.f0, .slice A1 f.f1.length c1] 43 (0, 0)) := ⟨hb7, blk_grown hHeld.2 hg7 (fun e => hpne e)⟩
        refine hK.out _ _ hS7 (fun hHeld2 => ?_)
        clear hK K hHeldA hHeld hg7 hat7 hS7 hb7
        have hHeld := hHeld2
        clear hHeld2
        try simp only [Act.put, List.setIfInBounds_toArray, List.set_cons_zero, List.set_cons_succ]
        have gn : w7.cell? ⟨n, 1, none⟩ = some (.slice Av i cv) := (blk_cell HN7 1).trans rfl
        have gz := blk_frozen HN7 1
        have HN8 := blk_put HN7 1 (.slice A7 (i + 1) c7) rfl
        have HR8 := Aside0.mk (Kd.R_set hr7 HN7 (by decide) 1 (.slice A7 (i + 1) c7))
        have hpn : pf ≠ n := by rintro rfl; have h1 := hHeld.2; rw [HN7] at h1; injection h1 with h1; injection h1 with _ h1; exact absurd h1 (by decide)
        refine wpAnyH_take (i := 9) (oi := { dst := some 23, op := _, type := _, pos := _, after := _, guard := _ }) (v := ?_) rfl (by kernel_rfl) (by kernel_rfl) (by kernel_rfl) (fun _ _ _ h => h) (Or.inl ⟨by rfl, ?_⟩) hHeld ?_
        rotate_left
        · (intro w hSw; go_simp) <;> (with_reducible rfl)
        try simp only [Act.put, List.setIfInBounds_toArray, List.set_cons_zero, List.set_cons_succ]
        refine wpAnyH_take (i := 10) (oi := { dst := some 24, op := _, type := _, pos := _, after := _, guard := _ }) (v := ?_) rfl (by kernel_rfl) (by kernel_rfl) (by kernel_rfl) (fun _ _ _ h => h) (Or.inl ⟨by rfl, ?_⟩) hHeld ?_
        rotate_left
        · (intro w hSw; go_simp) <;> (with_reducible rfl)
        try simp only [Act.put, List.setIfInBounds_toArray, List.set_cons_zero, List.set_cons_succ]
        refine wpAnyH_ready (rs := [11]) (by kernel_rfl) (by simp) (AllReadyH.cons (o := { dst := none, op := _, type := _, pos := _, after := _, guard := _ }) rfl (fun K hK => ?_) AllReadyH.nil)
        go_simp
        refine hK.out _ _ (⟨below_set hHeld.1 hn, blk_far (p := ⟨n, 1, none⟩) hHeld.2 hpn _⟩) (fun hHeld2 => ?_)
        clear hK K hHeld
        have hHeld := hHeld2
        clear hHeld2
        try simp only [Act.put, List.setIfInBounds_toArray, List.set_cons_zero, List.set_cons_succ]
        refine wpAnyH_done (by kernel_rfl) ?_ _
        refine NoPanic.normal ?_
        have HN9 := Aside0.mk HN8
        have HG9 := Aside0.mk (gx_set HG7.out 1 (.slice A7 (i + 1) c7))
        have HB9 := Aside0.mk hHeld.1
        generalize w7.setCell ⟨n, 1, none⟩ (.slice A7 (i + 1) c7) = w9 at HN9 HR8 HG9 HB9 ⊢
        clear gn gz HN7 HN8 hr7 HG7 hHeld
        go_wp2_with fail
        go_roundg (fs.length - (i + 1))
        case measure => have := HK.out; omega
        case rel => exact ⟨i + 1, _, by first | rfl | simp, by omega, ⟨by have := HK.out; omega⟩, HN9, HR8, HG9, HB9⟩
      · go_simp
        refine (own_calls f.f0 A1 c1 f.f1 w5 (Kd.C_below HC1.out hHeld.1) hl1 (by omega)).mono ?_
        rintro e w6 ⟨u, rfl, hu, hb6⟩
        have hs6 := hb6.size
        have HN6 := Aside0.mk (blk_below HN5.out hb6)
        have HR6 := Aside0.mk (Kd.R_below HR5.out hb6)
        have HG6 := Aside0.mk (gx_below HG5.out hb6)
        have hbl6 := Kd.R_lt HR5.out
        have hwl6 := HG5.out.size
        have HU6 := Aside0.mk (Kd.R_lower (Kd.R_mono (ok' := fun k => w5.heap.size ≤ k) (Kd.R_bound hu) (fun k hk => hk.2.1)) (Nat.le_trans hHeld.1.size (Nat.le_refl _)))
        obtain ⟨Au, cu, rfl, _, _⟩ := Kd.R_reads hu
        have hS6 : Below w0.heap.size w0 w6 ∧ w6.heap[pf]? = some (.cells #[.int .i64 f.f0, .slice A1 f.f1.length c1] 43 (0, 0)) := ⟨hHeld.1.trans (hb6.mono hHeld.1.size), blk_below hHeld.2 hb6⟩
        clear hu hb6 HN5 HR5 HG5
        refine hK.out _ _ hS6 (fun hHeld2 => ?_)
        clear hK K hHeld
        have hHeld := hHeld2
        clear hHeld2 hS6
        try simp only [Act.put, List.setIfInBounds_toArray, List.set_cons_zero, List.set_cons_succ]
        refine wpAnyH_ready (rs := [4, 7]) (by kernel_rfl) (by simp) (AllReadyH.cons (o := { dst := some 18, op := _, type := _, pos := _, after := _, guard := _ }) rfl (fun K hK => ?_) (AllReadyH.cons (o := { dst := some 21, op := _, type := _, pos := _, after := _, guard := _ }) rfl (fun K hK => ?_) AllReadyH.nil))
        · have gn : w6.cell? ⟨n, 1, none⟩ = some (.slice Av i cv) := (blk_cell HN6.out 1).trans rfl
          go_simp
          clear gn
          refine hK.out _ _ (hHeld) (fun hHeld2 => ?_)
          clear hK K hHeld
          have hHeld := hHeld2
          clear hHeld2
          try simp only [Act.put, List.setIfInBounds_toArray, List.set_cons_zero, List.set_cons_succ]
          refine wpAnyH_ready (rs := [7]) (by kernel_rfl) (by simp) (AllReadyH.cons (o := { dst := some 21, op := _, type := _, pos := _, after := _, guard := _ }) rfl (fun K hK => ?_) AllReadyH.nil)
          go_simp
          refine hK.out _ _ (⟨hHeld.1.trans ((below_alloc (Below.refl _ _) _).mono hHeld.1.size), blk_alloc hHeld.2 _⟩) (fun hHeld2 => ?_)
          clear hK K
          have hHeldA := hHeld2
          clear hHeld2
          try simp only [Act.put, List.setIfInBounds_toArray, List.set_cons_zero, List.set_cons_succ]
          refine wpAnyH_ready (rs := [8]) (by kernel_rfl) (by simp) (AllReadyH.cons (o := { dst := some 22, op := _, type := _, pos := _, after := _, guard := _ }) rfl (fun K hK => ?_) AllReadyH.nil)
          refine Kd.R_append_step kF (w0 := w0) w0.heap.size ?gBW (.tmp 18) (.tmp 21) 22 43 (.agg #[.int .i64 0, .slice none 0 0]) 32 rfl Try.underlying22 infoF rfl (by decide) (by omega) _ (fs.take i) f [.int .i64 f.f0, .slice Au f.f1.length cu] (fun k => w.heap.size ≤ k) (fun k => w5.heap.size ≤ k) rfl ?gBX ?gBP ?gBQ ?gBF ?gBO ?gBB ?gBS ?gBL ?_
          (case gBW => rfl)
          (case gBX => rfl)
          (case gBP => exact k43_mkM _ _ _ f HU6.out)
          (case gBQ => exact fun k hk => ⟨by omega, fun e => by have := hbl6 k e.symm; omega⟩)
          (case gBF => exact fun k hk => by have := hs6; omega)
          (case gBO => exact HR6.out)
          (case gBB => exact hHeld.1)
          (case gBS => exact hHeld.1.size)
          (case gBL => rw [htl]; omega)
          intro v7 w7 hr7 hb7 hg7 hat7
          rw [← HSN.out] at hr7
          obtain ⟨A7, c7, hv7, _, _⟩ := Kd.R_reads hr7
          rw [show (fs.take (i + 1)).length = i + 1 from by rw [List.length_take]; omega] at hv7
          subst hv7
          have HN7 := blk_grown HN6.out hg7 (Kd.R_ne HR6.out HN6.out (by decide))
          have HG7 := Aside0.mk (grown_row HG6.out hg7 (fun k hk => HR6.out.1 k hk))
          have hS7 : Below w0.heap.size w0 w7 ∧ w7.heap[pf]? = some (.cells #[.int .i64 f.f0, .slice A1 f.f1.length c1] 43 (0, 0)) := ⟨hb7, blk_grown hHeld.2 hg7 (fun e => hpne e)⟩
          refine hK.out _ _ hS7 (fun hHeld2 => ?_)
          clear hK K hHeldA hHeld hg7 hat7 hS7 hb7
          have hHeld := hHeld2
          clear hHeld2
          try simp only [Act.put, List.setIfInBounds_toArray, List.set_cons_zero, List.set_cons_succ]
          have gn : w7.cell? ⟨n, 1, none⟩ = some (.slice Av i cv) := (blk_cell HN7 1).trans rfl
          have gz := blk_frozen HN7 1
          have HN8 := blk_put HN7 1 (.slice A7 (i + 1) c7) rfl
          have HR8 := Aside0.mk (Kd.R_set hr7 HN7 (by decide) 1 (.slice A7 (i + 1) c7))
          have hpn : pf ≠ n := by rintro rfl; have h1 := hHeld.2; rw [HN7] at h1; injection h1 with h1; injection h1 with _ h1; exact absurd h1 (by decide)
          refine wpAnyH_take (i := 9) (oi := { dst := some 23, op := _, type := _, pos := _, after := _, guard := _ }) (v := ?_) rfl (by kernel_rfl) (by kernel_rfl) (by kernel_rfl) (fun _ _ _ h => h) (Or.inl ⟨by rfl, ?_⟩) hHeld ?_
          rotate_left
          · (intro w hSw; go_simp) <;> (with_reducible rfl)
          try simp only [Act.put, List.setIfInBounds_toArray, List.set_cons_zero, List.set_cons_succ]
          refine wpAnyH_take (i := 10) (oi := { dst := some 24, op := _, type := _, pos := _, after := _, guard := _ }) (v := ?_) rfl (by kernel_rfl) (by kernel_rfl) (by kernel_rfl) (fun _ _ _ h => h) (Or.inl ⟨by rfl, ?_⟩) hHeld ?_
          rotate_left
          · (intro w hSw; go_simp) <;> (with_reducible rfl)
          try simp only [Act.put, List.setIfInBounds_toArray, List.set_cons_zero, List.set_cons_succ]
          refine wpAnyH_ready (rs := [11]) (by kernel_rfl) (by simp) (AllReadyH.cons (o := { dst := none, op := _, type := _, pos := _, after := _, guard := _ }) rfl (fun K hK => ?_) AllReadyH.nil)
          go_simp
          refine hK.out _ _ (⟨below_set hHeld.1 hn, blk_far (p := ⟨n, 1, none⟩) hHeld.2 hpn _⟩) (fun hHeld2 => ?_)
          clear hK K hHeld
          have hHeld := hHeld2
          clear hHeld2
          try simp only [Act.put, List.setIfInBounds_toArray, List.set_cons_zero, List.set_cons_succ]
          refine wpAnyH_done (by kernel_rfl) ?_ _
          refine NoPanic.normal ?_
          have HN9 := Aside0.mk HN8
          have HG9 := Aside0.mk (gx_set HG7.out 1 (.slice A7 (i + 1) c7))
          have HB9 := Aside0.mk hHeld.1
          generalize w7.setCell ⟨n, 1, none⟩ (.slice A7 (i + 1) c7) = w9 at HN9 HR8 HG9 HB9 ⊢
          clear gn gz HN7 HN8 hr7 HG7 hHeld
          go_wp2_with fail
          go_roundg (fs.length - (i + 1))
          case measure => have := HK.out; omega
          case rel => exact ⟨i + 1, _, by first | rfl | simp, by omega, ⟨by have := HK.out; omega⟩, HN9, HR8, HG9, HB9⟩
        · go_simp
          refine hK.out _ _ (⟨hHeld.1.trans ((below_alloc (Below.refl _ _) _).mono hHeld.1.size), blk_alloc hHeld.2 _⟩) (fun hHeld2 => ?_)
          clear hK K
          have hHeldA := hHeld2
          clear hHeld2
          try simp only [Act.put, List.setIfInBounds_toArray, List.set_cons_zero, List.set_cons_succ]
          have HN6a := Aside0.mk (blk_alloc HN6.out (.cells #[.int .i64 f.f0, .slice Au f.f1.length cu] 43))
          refine wpAnyH_ready (rs := [4]) (by kernel_rfl) (by simp) (AllReadyH.cons (o := { dst := some 18, op := _, type := _, pos := _, after := _, guard := _ }) rfl (fun K hK => ?_) AllReadyH.nil)
          have gn : (w6.alloc (.cells #[.int .i64 f.f0, .slice Au f.f1.length cu] 43)).cell? ⟨n, 1, none⟩ = some (.slice Av i cv) := (blk_cell HN6a.out 1).trans rfl
          go_simp
          clear gn
          refine hK.out _ _ (hHeldA) (fun hHeld2 => ?_)
          clear hK K hHeldA
          have hHeldA := hHeld2
          clear hHeld2
          try simp only [Act.put, List.setIfInBounds_toArray, List.set_cons_zero, List.set_cons_succ]
          clear HN6a
          refine wpAnyH_ready (rs := [8]) (by kernel_rfl) (by simp) (AllReadyH.cons (o := { dst := some 22, op := _, type := _, pos := _, after := _, guard := _ }) rfl (fun K hK => ?_) AllReadyH.nil)
          refine Kd.R_append_step kF (w0 := w0) w0.heap.size ?gCW (.tmp 18) (.tmp 21) 22 43 (.agg #[.int .i64 0, .slice none 0 0]) 32 rfl Try.underlying22 infoF rfl (by decide) (by omega) _ (fs.take i) f [.int .i64 f.f0, .slice Au f.f1.length cu] (fun k => w.heap.size ≤ k) (fun k => w5.heap.size ≤ k) rfl ?gCX ?gCP ?gCQ ?gCF ?gCO ?gCB ?gCS ?gCL ?_
          (case gCW => rfl)
          (case gCX => rfl)
          (case gCP => exact k43_mkM _ _ _ f HU6.out)
          (case gCQ => exact fun k hk => ⟨by omega, fun e => by have := hbl6 k e.symm; omega⟩)
          (case gCF => exact fun k hk => by have := hs6; omega)
          (case gCO => exact HR6.out)
          (case gCB => exact hHeld.1)
          (case gCS => exact hHeld.1.size)
          (case gCL => rw [htl]; omega)
          intro v7 w7 hr7 hb7 hg7 hat7
          rw [← HSN.out] at hr7
          obtain ⟨A7, c7, hv7, _, _⟩ := Kd.R_reads hr7
          rw [show (fs.take (i + 1)).length = i + 1 from by rw [List.length_take]; omega] at hv7
          subst hv7
          have HN7 := blk_grown HN6.out hg7 (Kd.R_ne HR6.out HN6.out (by decide))
          have HG7 := Aside0.mk (grown_row HG6.out hg7 (fun k hk => HR6.out.1 k hk))
          have hS7 : Below w0.heap.size w0 w7 ∧ w7.heap[pf]? = some (.cells #[.int .i64 f.f0, .slice A1 f.f1.length c1] 43 (0, 0)) := ⟨hb7, blk_grown hHeld.2 hg7 (fun e => hpne e)⟩
          refine hK.out _ _ hS7 (fun hHeld2 => ?_)
          clear hK K hHeldA hHeld hg7 hat7 hS7 hb7
          have hHeld := hHeld2
          clear hHeld2
          try simp only [Act.put, List.setIfInBounds_toArray, List.set_cons_zero, List.set_cons_succ]
          have gn : w7.cell? ⟨n, 1, none⟩ = some (.slice Av i cv) := (blk_cell HN7 1).trans rfl
          have gz := blk_frozen HN7 1
          have HN8 := blk_put HN7 1 (.slice A7 (i + 1) c7) rfl
          have HR8 := Aside0.mk (Kd.R_set hr7 HN7 (by decide) 1 (.slice A7 (i + 1) c7))
          have hpn : pf ≠ n := by rintro rfl; have h1 := hHeld.2; rw [HN7] at h1; injection h1 with h1; injection h1 with _ h1; exact absurd h1 (by decide)
          refine wpAnyH_take (i := 9) (oi := { dst := some 23, op := _, type := _, pos := _, after := _, guard := _ }) (v := ?_) rfl (by kernel_rfl) (by kernel_rfl) (by kernel_rfl) (fun _ _ _ h => h) (Or.inl ⟨by rfl, ?_⟩) hHeld ?_
          rotate_left
          · (intro w hSw; go_simp) <;> (with_reducible rfl)
          try simp only [Act.put, List.setIfInBounds_toArray, List.set_cons_zero, List.set_cons_succ]
          refine wpAnyH_take (i := 10) (oi := { dst := some 24, op := _, type := _, pos := _, after := _, guard := _ }) (v := ?_) rfl (by kernel_rfl) (by kernel_rfl) (by kernel_rfl) (fun _ _ _ h => h) (Or.inl ⟨by rfl, ?_⟩) hHeld ?_
          rotate_left
          · (intro w hSw; go_simp) <;> (with_reducible rfl)
          try simp only [Act.put, List.setIfInBounds_toArray, List.set_cons_zero, List.set_cons_succ]
          refine wpAnyH_ready (rs := [11]) (by kernel_rfl) (by simp) (AllReadyH.cons (o := { dst := none, op := _, type := _, pos := _, after := _, guard := _ }) rfl (fun K hK => ?_) AllReadyH.nil)
          go_simp
          refine hK.out _ _ (⟨below_set hHeld.1 hn, blk_far (p := ⟨n, 1, none⟩) hHeld.2 hpn _⟩) (fun hHeld2 => ?_)
          clear hK K hHeld
          have hHeld := hHeld2
          clear hHeld2
          try simp only [Act.put, List.setIfInBounds_toArray, List.set_cons_zero, List.set_cons_succ]
          refine wpAnyH_done (by kernel_rfl) ?_ _
          refine NoPanic.normal ?_
          have HN9 := Aside0.mk HN8
          have HG9 := Aside0.mk (gx_set HG7.out 1 (.slice A7 (i + 1) c7))
          have HB9 := Aside0.mk hHeld.1
          generalize w7.setCell ⟨n, 1, none⟩ (.slice A7 (i + 1) c7) = w9 at HN9 HR8 HG9 HB9 ⊢
          clear gn gz HN7 HN8 hr7 HG7 hHeld
          go_wp2_with fail
          go_roundg (fs.length - (i + 1))
          case measure => have := HK.out; omega
          case rel => exact ⟨i + 1, _, by first | rfl | simp, by omega, ⟨by have := HK.out; omega⟩, HN9, HR8, HG9, HB9⟩
    · have hci : ¬ ((i : Int) < (fs.length : Int)) := by omega
      go_wp2_with fail
      go_end0
      have hie : i = fs.length := by omega
      subst hie
      have h9 := HR.out
      rw [List.take_length] at h9
      exact ⟨rfl, _, HNW.out, h9, HG.out⟩
end Go.Proofs.Ytpkfeepepbchlaa.Bl
