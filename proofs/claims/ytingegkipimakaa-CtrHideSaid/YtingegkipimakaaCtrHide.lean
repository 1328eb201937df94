/- CtrHide: the walk. -/
import Derived.Test.YtingegkipimakaaCts
import Derived.Test.YtingegkipimakaaFast
namespace Go.Proofs.Ytingegkipimakaa.Ae
open Go.RowKit Go.Proofs.YtingegkipimakaaW.PrintWords Go.Proofs.YtingegkipimakaaW.PrintLast Go.Proofs.YtingegkipimakaaW.PrintMore Go.Proofs.Ytingegkipimakaa.PA
set_option linter.unusedVariables false
set_option linter.unusedSimpArgs false

theorem fast_reads (w : World) (key fr text : List Int) (A : Option Addr) (n c : Nat) (hk : key.length = 32) (hkb : By key) (hf : fr.length = 16) (hfb : By fr) (hn : text.length = n) (hC : (Kd.int .u8).C w A n text) (hc : n ≤ c) (ht : n ≤ 1000) :
    Calls Try.prog 20 #[.agg (u8s tabL), .agg (u8s key), .agg (u8s fr), .slice A n c] w fun e w' => ∃ A' c', e = .returned (.slice A' n c') ∧ n ≤ c' ∧ (Kd.int .u8).C w' A' n (hideL key fr text n) ∧ Below w.heap.size w w' := by
  subst hn
  exact fast_calls w key fr text A c hk hkb hf hfb hC hc ht

attribute [local irreducible] cntL hideL tabL blockL boxL in
set_option maxHeartbeats 2000000 in
set_option maxRecDepth 20000 in
theorem ctrHide_calls (w : World) (key : List Int) (hk : key.length = 32) (hkw : ∀ z ∈ key, (Lit.int .u8 z).wf = true) (fr : List Int) (hf : fr.length = 16) (hfw : ∀ z ∈ fr, (Lit.int .u8 z).wf = true)
    (A : Option Addr) (n c : Nat) (text : List Int) (hl : text.length = n) (hC : (Kd.int .u8).C w A n text) (hc : n ≤ c) (hm : n ≤ maxLen) (htw : ∀ z ∈ text, (Lit.int .u8 z).wf = true) :
    Calls Try.prog 6 #[.agg (u8s key), .agg (u8s fr), .slice A n c] w fun e w' => e = .returned (.bool true) ∧ Below w.heap.size w w' := by
  have HK := Aside0.mk hk
  have HKB := Aside0.mk (By.ofMem hkw)
  have HF := Aside0.mk hf
  have HFB := Aside0.mk (By.ofMem hfw)
  have HTB := Aside0.mk (By.ofMem htw)
  have HLN := Aside0.mk hl
  have HC := Aside0.mk hC
  have HCC := Aside0.mk hc
  obtain ⟨hid, hh⟩ : ∃ h, h = hideL key fr text n := ⟨_, rfl⟩
  have HHL := Aside0.mk (show hid.length = n by rw [hh, hideL_length])
  have HH := Aside0.mk hh
  have HH2 := Aside0.mk (show hideL key fr hid n = text by rw [hh, ← hl]; exact hideL_twice fr (By.ofMem hkw) (By.ofMem htw))
  have S1 := ((Hs.start w).new 23 key).new 24 fr
  rw [alloc_size] at S1
  have S1 := Aside0.mk S1
  have hmi : (n : Int) ≤ 9223372036854775807 := by unfold maxLen at hm; omega
  have HMI := Aside0.mk hmi
  clear hk hkw hf hfw htw hl hC hc hm hh hmi
  by_cases h3 : n ≤ 300
  · have h3i : ¬ (300 : Int) < (n : Int) := by omega
    have h1000 := Aside0.mk (show n ≤ 1000 by omega)
    clear h3
    go_enter Try.func6, Try.ntmps6
    go_wp2_with fail
    refine (wakes6_calls _).mono ?_
    rintro e w1 ⟨rfl, hb1⟩
    have S2 := Aside0.mk (S1.out.call hb1)
    clear S1 hb1
    have O2 := Aside0.mk (own_made0 (W := w1) (base := w1.heap.size) (n := 0) #[] rfl (Nat.le_refl _) (by omega))
    have C2 := Aside0.mk (Kd.C_below HC.out (S2.out.alloc (.cells #[] 5)).below)
    go_wp2_with (first | ((with_reducible refine gate_builtin (b := .append) (xs := #[.tmp 14, .tmp 15]) rfl ?_); at_builtin; refine Kd.R_append_row (Value.int .u8) (0 : Int) (h1 := fun _ => rfl) (w0 := w1.alloc (.cells #[] 5)) w1.heap.size rfl (.tmp 14) (.tmp 15) 32 5 (.int .u8 0) 1 rfl Try.underlying32 (by kernel_rfl) rfl (by omega) (.slice (some ⟨w1.heap.size, 0, none⟩) 0 0) [] text A n c (fun _ => True) rfl rfl ?aF ?aO ?aR ?aB ?aS ?aL ?_; (case aF => exact fun _ _ => trivial); (case aO => exact O2.out); (case aR => exact C2.out); (case aB => exact Below.refl _ _); (case aS => rw [alloc_size]; omega); (case aL => have := h1000.out; simp; omega); intro v7 w7 ho7 hb7 hg7 hat7; rw [List.nil_append] at ho7; obtain ⟨A7, c7, hv7, hc7, hC7⟩ := Kd.R_reads ho7; rw [HLN.out] at hv7 hc7 hC7; subst hv7; have C7 := Aside0.mk hC7; have L7 := Aside0.mk hc7; have S3 := Aside0.mk (S2.out.call (((Below.refl _ _).alloc (Nat.le_refl _) _).trans hb7)); clear ho7 hb7 hg7 hat7 hc7 hC7) | ((with_reducible refine load_bk (o := { dst := some _, op := .load 23 (.tmp 3), type := _, pos := _, after := _, guard := _ }) 23 (.tmp 3) rfl rfl w.heap.size 23 key ?_ arrKey ?_ ?_ ?_); (rfl); (exact (S3.out.at w.heap.size 23 key (by simp))); (exact HK.out)) | ((with_reducible refine load_bk (o := { dst := some _, op := .load 24 (.tmp 4), type := _, pos := _, after := _, guard := _ }) 24 (.tmp 4) rfl rfl (w.heap.size + 1) 24 fr ?_ arr16 ?_ ?_ ?_); (rfl); (exact (S3.out.at (w.heap.size + 1) 24 fr (by simp))); (exact HF.out)))
    clear O2 C2
    refine (hide_reads _ key fr text A7 n c7 HK.out HKB.out HF.out HFB.out HLN.out C7.out L7.out h1000.out).mono ?_
    rintro e w8 ⟨A8, c8, rfl, hc8, hC8, hb8⟩
    rw [← HH.out] at hC8
    have S4 := Aside0.mk (S3.out.call hb8)
    have C78 := Aside0.mk (Kd.C_below C7.out hb8)
    have C8 := Aside0.mk hC8
    have L8 := Aside0.mk hc8
    clear S3 S2 C7 hb8 hC8 hc8
    go_wp2_with fail
    have hS : Hs [(w.heap.size + 1, 24, fr), (w.heap.size, 23, key)] w w8.drew ∧ (Kd.int .u8).C w8.drew A7 n text ∧ (Kd.int .u8).C w8.drew A8 n hid := ⟨S4.out.drew, Kd.C_drew C78.out, Kd.C_drew C8.out⟩
    clear S4 C78 C8
    refine wp_region_noPanic ?_
    refine wp_region_held_drew (S := fun W => Hs [(w.heap.size + 1, 24, fr), (w.heap.size, 23, key)] w W ∧ (Kd.int .u8).C W A7 n text ∧ (Kd.int .u8).C W A8 n hid) (by kernel_rfl) (hS) (fun hHeld => ?_)
    clear hS
    refine wpAnyH_take (i := 0) (oi := { dst := some 21, op := _, type := _, pos := _, after := _, guard := _ }) (v := ?_) rfl (by kernel_rfl) (by kernel_rfl) (by kernel_rfl) (fun _ _ _ h => h) (Or.inl ⟨by rfl, ?_⟩) hHeld ?_
    rotate_left
    · (intro w hSw; go_simp) <;> (with_reducible rfl)
    try simp only [Act.put, List.setIfInBounds_toArray, List.set_cons_zero, List.set_cons_succ]
    refine take_load 2 (oi := { dst := some 23, op := _, type := _, pos := _, after := _, guard := _ }) rfl (by kernel_rfl) (by kernel_rfl) (by kernel_rfl) (fun _ _ _ _ h => h) 23 (.tmp 3) rfl (by rfl) w.heap.size 23 key (by rfl) arrKey HK.out (fun W h => h.1.at _ _ _ (by simp)) hHeld ?_
    try simp only [Act.put, List.setIfInBounds_toArray, List.set_cons_zero, List.set_cons_succ]
    refine take_load 3 (oi := { dst := some 24, op := _, type := _, pos := _, after := _, guard := _ }) rfl (by kernel_rfl) (by kernel_rfl) (by kernel_rfl) (fun _ _ _ _ h => h) 24 (.tmp 4) rfl (by rfl) (w.heap.size + 1) 24 fr (by rfl) arr16 HF.out (fun W h => h.1.at _ _ _ (by simp)) hHeld ?_
    try simp only [Act.put, List.setIfInBounds_toArray, List.set_cons_zero, List.set_cons_succ]
    refine wpAnyH_take (i := 4) (oi := { dst := some 25, op := _, type := _, pos := _, after := _, guard := _ }) (v := ?_) rfl (by kernel_rfl) (by kernel_rfl) (by kernel_rfl) (fun _ _ _ h => h) (Or.inl ⟨by rfl, ?_⟩) hHeld ?_
    rotate_left
    · (intro w hSw; go_simp) <;> (with_reducible rfl)
    try simp only [Act.put, List.setIfInBounds_toArray, List.set_cons_zero, List.set_cons_succ]
    refine wpAnyH_ready (rs := [1]) (by kernel_rfl) (by simp) (AllReadyH.cons (o := { dst := some 22, op := _, type := _, pos := _, after := _, guard := _ }) rfl (fun K hK => ?_) AllReadyH.nil)
    go_simp
    refine (table_calls _).mono ?_
    rintro e w9 ⟨rfl, hb9⟩
    refine hK.out _ _ (⟨hHeld.1.call hb9, Kd.C_below hHeld.2.1 hb9, Kd.C_below hHeld.2.2 hb9⟩) (fun hHeld2 => ?_)
    clear hK K hHeld
    have hHeld := hHeld2
    clear hHeld2
    try simp only [Act.put, List.setIfInBounds_toArray, List.set_cons_zero, List.set_cons_succ]
    refine wpAnyH_ready (rs := [5]) (by kernel_rfl) (by simp) (AllReadyH.cons (o := { dst := some 26, op := _, type := _, pos := _, after := _, guard := _ }) rfl (fun K hK => ?_) AllReadyH.nil)
    go_simp
    refine (fast_reads _ key fr text A n c HK.out HKB.out HF.out HFB.out HLN.out (Kd.C_below HC.out hHeld.1.below) HCC.out h1000.out).mono ?_
    rintro e w10 ⟨A10, c10, rfl, hc10, hC10, hb10⟩
    rw [← HH.out] at hC10
    refine hK.out _ _ (⟨hHeld.1.call hb10, Kd.C_below hHeld.2.1 hb10, Kd.C_below hHeld.2.2 hb10⟩) (fun hHeld2 => ?_)
    clear hK K hHeld
    have hHeld := hHeld2
    clear hHeld2
    try simp only [Act.put, List.setIfInBounds_toArray, List.set_cons_zero, List.set_cons_succ]
    refine wpAnyH_ready (rs := [6]) (by kernel_rfl) (by simp) (AllReadyH.cons (o := { dst := some 27, op := _, type := _, pos := _, after := _, guard := _ }) rfl (fun K hK => ?_) AllReadyH.nil)
    go_simp
    refine (same_eq _ A8 c8 A10 c10 hid n HHL.out hHeld.2.2 L8.out hC10 hc10 h1000.out).mono ?_
    rintro e w11 ⟨rfl, hb11⟩
    refine hK.out _ _ (⟨hHeld.1.call hb11, Kd.C_below hHeld.2.1 hb11, Kd.C_below hHeld.2.2 hb11⟩) (fun hHeld2 => ?_)
    clear hK K hHeld
    have hHeld := hHeld2
    clear hHeld2
    try simp only [Act.put, List.setIfInBounds_toArray, List.set_cons_zero, List.set_cons_succ]
    refine wpAnyH_take (i := 7) (oi := { dst := some 28, op := _, type := _, pos := _, after := _, guard := _ }) (v := ?_) rfl (by kernel_rfl) (by kernel_rfl) (by kernel_rfl) (fun _ _ _ h => h) (Or.inl ⟨by rfl, ?_⟩) hHeld ?_
    rotate_left
    · (intro w hSw; go_simp) <;> (with_reducible rfl)
    try simp only [Act.put, List.setIfInBounds_toArray, List.set_cons_zero, List.set_cons_succ]
    refine take_load 8 (oi := { dst := some 29, op := _, type := _, pos := _, after := _, guard := _ }) rfl (by kernel_rfl) (by kernel_rfl) (by kernel_rfl) (fun _ _ _ _ h => h) 23 (.tmp 3) rfl (by rfl) w.heap.size 23 key (by rfl) arrKey HK.out (fun W h => h.1.at _ _ _ (by simp)) hHeld ?_
    try simp only [Act.put, List.setIfInBounds_toArray, List.set_cons_zero, List.set_cons_succ]
    refine take_load 9 (oi := { dst := some 30, op := _, type := _, pos := _, after := _, guard := _ }) rfl (by kernel_rfl) (by kernel_rfl) (by kernel_rfl) (fun _ _ _ _ h => h) 24 (.tmp 4) rfl (by rfl) (w.heap.size + 1) 24 fr (by rfl) arr16 HF.out (fun W h => h.1.at _ _ _ (by simp)) hHeld ?_
    try simp only [Act.put, List.setIfInBounds_toArray, List.set_cons_zero, List.set_cons_succ]
    refine wpAnyH_take (i := 10) (oi := { dst := some 31, op := _, type := _, pos := _, after := _, guard := _ }) (v := ?_) rfl (by kernel_rfl) (by kernel_rfl) (by kernel_rfl) (fun _ _ _ h => h) (Or.inl ⟨by rfl, ?_⟩) hHeld ?_
    rotate_left
    · (intro w hSw; go_simp) <;> (with_reducible rfl)
    try simp only [Act.put, List.setIfInBounds_toArray, List.set_cons_zero, List.set_cons_succ]
    refine wpAnyH_take (i := 12) (oi := { dst := some 33, op := _, type := _, pos := _, after := _, guard := _ }) (v := ?_) rfl (by kernel_rfl) (by kernel_rfl) (by kernel_rfl) (fun _ _ _ h => h) (Or.inl ⟨by rfl, ?_⟩) hHeld ?_
    rotate_left
    · (intro w hSw; go_simp) <;> (with_reducible rfl)
    try simp only [Act.put, List.setIfInBounds_toArray, List.set_cons_zero, List.set_cons_succ]
    refine wpAnyH_ready (rs := [11]) (by kernel_rfl) (by simp) (AllReadyH.cons (o := { dst := some 32, op := _, type := _, pos := _, after := _, guard := _ }) rfl (fun K hK => ?_) AllReadyH.nil)
    go_simp
    refine (hide_reads _ key fr hid A8 n c8 HK.out HKB.out HF.out HFB.out HHL.out hHeld.2.2 L8.out h1000.out).mono ?_
    rintro e w12 ⟨A12, c12, rfl, hc12, hC12, hb12⟩
    rw [HH2.out] at hC12
    refine hK.out _ _ (⟨hHeld.1.call hb12, Kd.C_below hHeld.2.1 hb12, Kd.C_below hHeld.2.2 hb12⟩) (fun hHeld2 => ?_)
    clear hK K hHeld
    have hHeld := hHeld2
    clear hHeld2
    try simp only [Act.put, List.setIfInBounds_toArray, List.set_cons_zero, List.set_cons_succ]
    refine wpAnyH_ready (rs := [13]) (by kernel_rfl) (by simp) (AllReadyH.cons (o := { dst := some 34, op := _, type := _, pos := _, after := _, guard := _ }) rfl (fun K hK => ?_) AllReadyH.nil)
    go_simp
    refine (same_eq _ A12 c12 A c text n HLN.out hC12 hc12 (Kd.C_below HC.out hHeld.1.below) HCC.out h1000.out).mono ?_
    rintro e w13 ⟨rfl, hb13⟩
    refine hK.out _ _ (⟨hHeld.1.call hb13, Kd.C_below hHeld.2.1 hb13, Kd.C_below hHeld.2.2 hb13⟩) (fun hHeld2 => ?_)
    clear hK K hHeld
    have hHeld := hHeld2
    clear hHeld2
    try simp only [Act.put, List.setIfInBounds_toArray, List.set_cons_zero, List.set_cons_succ]
    refine wpAnyH_take (i := 14) (oi := { dst := some 35, op := _, type := _, pos := _, after := _, guard := _ }) (v := ?_) rfl (by kernel_rfl) (by kernel_rfl) (by kernel_rfl) (fun _ _ _ h => h) (Or.inl ⟨by rfl, ?_⟩) hHeld ?_
    rotate_left
    · (intro w hSw; go_simp) <;> (with_reducible rfl)
    try simp only [Act.put, List.setIfInBounds_toArray, List.set_cons_zero, List.set_cons_succ]
    refine wpAnyH_take (i := 15) (oi := { dst := some 36, op := _, type := _, pos := _, after := _, guard := _ }) (v := ?_) rfl (by kernel_rfl) (by kernel_rfl) (by kernel_rfl) (fun _ _ _ h => h) (Or.inl ⟨by rfl, ?_⟩) hHeld ?_
    rotate_left
    · (intro w hSw; go_simp) <;> (with_reducible rfl)
    try simp only [Act.put, List.setIfInBounds_toArray, List.set_cons_zero, List.set_cons_succ]
    refine wpAnyH_take (i := 16) (oi := { dst := some 37, op := _, type := _, pos := _, after := _, guard := _ }) (v := ?_) rfl (by kernel_rfl) (by kernel_rfl) (by kernel_rfl) (fun _ _ _ h => h) (Or.inl ⟨by rfl, ?_⟩) hHeld ?_
    rotate_left
    · (intro w hSw; go_simp) <;> (with_reducible rfl)
    try simp only [Act.put, List.setIfInBounds_toArray, List.set_cons_zero, List.set_cons_succ]
    refine wpAnyH_take (i := 17) (oi := { dst := some 38, op := _, type := _, pos := _, after := _, guard := _ }) (v := ?_) rfl (by kernel_rfl) (by kernel_rfl) (by kernel_rfl) (fun _ _ _ h => h) (Or.inl ⟨by rfl, ?_⟩) hHeld ?_
    rotate_left
    · (intro w hSw; go_simp) <;> (with_reducible rfl)
    try simp only [Act.put, List.setIfInBounds_toArray, List.set_cons_zero, List.set_cons_succ]
    refine wpAnyH_ready (rs := [18]) (by kernel_rfl) (by simp) (AllReadyH.cons (o := { dst := some 39, op := _, type := _, pos := _, after := _, guard := _ }) rfl (fun K hK => ?_) AllReadyH.nil)
    go_simp
    refine (same_eq _ A7 c7 A c text n HLN.out hHeld.2.1 L7.out (Kd.C_below HC.out hHeld.1.below) HCC.out h1000.out).mono ?_
    rintro e w14 ⟨rfl, hb14⟩
    refine hK.out _ _ (⟨hHeld.1.call hb14, Kd.C_below hHeld.2.1 hb14, Kd.C_below hHeld.2.2 hb14⟩) (fun hHeld2 => ?_)
    clear hK K hHeld
    have hHeld := hHeld2
    clear hHeld2
    try simp only [Act.put, List.setIfInBounds_toArray, List.set_cons_zero, List.set_cons_succ]
    refine wpAnyH_take (i := 19) (oi := { dst := some 40, op := _, type := _, pos := _, after := _, guard := _ }) (v := ?_) rfl (by kernel_rfl) (by kernel_rfl) (by kernel_rfl) (fun _ _ _ h => h) (Or.inl ⟨by rfl, ?_⟩) hHeld ?_
    rotate_left
    · (intro w hSw; go_simp) <;> (with_reducible rfl)
    try simp only [Act.put, List.setIfInBounds_toArray, List.set_cons_zero, List.set_cons_succ]
    refine wpAnyH_take (i := 20) (oi := { dst := some 6, op := _, type := _, pos := _, after := _, guard := _ }) (v := ?_) rfl (by kernel_rfl) (by kernel_rfl) (by kernel_rfl) (fun _ _ _ h => h) (Or.inl ⟨by rfl, ?_⟩) hHeld ?_
    rotate_left
    · (intro w hSw; go_simp) <;> (with_reducible rfl)
    try simp only [Act.put, List.setIfInBounds_toArray, List.set_cons_zero, List.set_cons_succ]
    refine wpAnyH_done (by kernel_rfl) ?_ _
    refine NoPanic.normal ?_
    go_wp2_with fail
    go_ret
    exact ⟨rfl, hHeld.1.below⟩
  · have h3i : (300 : Int) < (n : Int) := by omega
    clear h3
    go_enter Try.func6, Try.ntmps6
    go_wp2_with fail
    refine (wakes6_calls _).mono ?_
    rintro e w1 ⟨rfl, hb1⟩
    have S2 := Aside0.mk (S1.out.call hb1)
    clear S1 hb1
    go_wp2_with fail
    go_ret
    exact ⟨rfl, S2.out.below⟩

end Go.Proofs.Ytingegkipimakaa.Ae
