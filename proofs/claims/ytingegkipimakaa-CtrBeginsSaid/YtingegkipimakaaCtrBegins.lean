/- CtrBegins: the walk. -/
import Derived.Test.YtingegkipimakaaCts
namespace Go.Proofs.Ytingegkipimakaa.Ae
open Go.RowKit Go.Proofs.YtingegkipimakaaW.PrintWords Go.Proofs.YtingegkipimakaaW.PrintLast Go.Proofs.YtingegkipimakaaW.PrintMore Go.Proofs.Ytingegkipimakaa.PA
set_option linter.unusedVariables false
set_option linter.unusedSimpArgs false

theorem C_take2 {w : World} {A : Option Addr} {n m : Nat} {xs : List Int} (h : (Kd.int .u8).C w A n xs) (hn : xs.length = n) (hm : m ≤ n) : (Kd.int .u8).C w A m (xs.take m) := by
  subst hn
  have e := Kd.C_take h hm
  rwa [List.length_take, Nat.min_eq_left hm] at e
theorem C_drop2 {w : World} {A : Option Addr} {n m c : Nat} {xs : List Int} (h : (Kd.int .u8).C w A n xs) (hn : xs.length = n) (hm : m ≤ n) (hc : n ≤ c) : (Kd.int .u8).C w (if c = m then A else A.map (·.add m)) (n - m) (xs.drop m) := by
  subst hn
  have e := Kd.C_drop h hm hc
  rwa [List.length_drop, show (Kd.int IntKind.u8).sz = 1 from rfl, Nat.mul_one] at e
theorem hideL_take (key fr text : List Int) (n m : Nat) (hm : m ≤ n) (hn : text.length = n) : hideL key fr (text.take m) m = (hideL key fr text n).take m := by
  refine getD_ext (by rw [hideL_length, List.length_take, hideL_length]; omega) fun j => ?_
  rw [hideL_getD, List.getD_eq_getElem?_getD, List.getElem?_take]
  by_cases h : j < m
  · rw [if_pos h, if_pos h, ← List.getD_eq_getElem?_getD, hideL_getD, if_pos (by omega)]
    unfold hb1
    rw [List.getD_eq_getElem?_getD, List.getElem?_take, if_pos h, ← List.getD_eq_getElem?_getD]
  · rw [if_neg h, if_neg h]
    rfl
theorem hideL_drop (key fr text : List Int) (hb : By fr) (hl : fr.length = 16) (n q : Nat) (hm : 16 * q ≤ n) (hn : text.length = n) : hideL key (cntL fr q) (text.drop (16 * q)) (n - 16 * q) = (hideL key fr text n).drop (16 * q) := by
  refine getD_ext (by rw [hideL_length, List.length_drop, hideL_length]) fun j => ?_
  rw [hideL_getD, List.getD_eq_getElem?_getD, List.getElem?_drop, ← List.getD_eq_getElem?_getD, hideL_getD]
  by_cases h : j < n - 16 * q
  · rw [if_pos h, if_pos (by omega)]
    unfold hb1 pad
    rw [List.getD_eq_getElem?_getD, List.getElem?_drop, ← List.getD_eq_getElem?_getD, cntL_two fr hb hl, show (16 * q + j) % 16 = j % 16 by omega, show (16 * q + j) / 16 = q + j / 16 by omega, Int.natCast_add]
  · rw [if_neg h, if_neg (by omega)]

attribute [local irreducible] cntL hideL tabL blockL boxL in
set_option maxHeartbeats 2000000 in
set_option maxRecDepth 20000 in
theorem ctrBegins_calls (w : World) (key : List Int) (hk : key.length = 32) (hkw : ∀ z ∈ key, (Lit.int .u8 z).wf = true) (fr : List Int) (hf : fr.length = 16) (hfw : ∀ z ∈ fr, (Lit.int .u8 z).wf = true)
    (A : Option Addr) (n c : Nat) (text : List Int) (hl : text.length = n) (hC : (Kd.int .u8).C w A n text) (hc : n ≤ c) (hm : n ≤ maxLen) (htw : ∀ z ∈ text, (Lit.int .u8 z).wf = true) :
    Calls Try.prog 8 #[.agg (u8s key), .agg (u8s fr), .slice A n c] w fun e w' => e = .returned (.bool true) ∧ Below w.heap.size w w' := by
  have HK := Aside0.mk hk
  have HKB := Aside0.mk (By.ofMem hkw)
  have HF := Aside0.mk hf
  have HFB := Aside0.mk (By.ofMem hfw)
  have HTB := Aside0.mk (By.ofMem htw)
  have HLN := Aside0.mk hl
  have HC := Aside0.mk hC
  have HCC := Aside0.mk hc
  obtain ⟨hid, hh⟩ : ∃ h, h = hideL key fr text n := ⟨_, rfl⟩
  have HHL := Aside0.mk (show hid.length = n by rw [hh, hideL_length])
  have HH := Aside0.mk hh
  have S1 := ((Hs.start w).new 23 key).new 24 fr
  rw [alloc_size] at S1
  have S1 := Aside0.mk S1
  have hmi : (n : Int) ≤ 9223372036854775807 := by unfold maxLen at hm; omega
  have HMI := Aside0.mk hmi
  clear hk hkw hf hfw htw hl hC hc hm hh hmi
  by_cases h3 : n ≤ 600
  · have h3i : ¬ (600 : Int) < (n : Int) := by omega
    have h1000 := Aside0.mk (show n ≤ 1000 by omega)
    clear h3
    go_enter Try.func8, Try.ntmps8
    go_wp2_with fail
    refine (wakes6_calls _).mono ?_
    rintro e w1 ⟨rfl, hb1⟩
    have S3 := Aside0.mk (S1.out.call hb1)
    clear S1 hb1
    go_wp2_with (first | ((with_reducible refine load_bk (o := { dst := some _, op := .load 23 (.tmp 3), type := _, pos := _, after := _, guard := _ }) 23 (.tmp 3) rfl rfl w.heap.size 23 key ?_ arrKey ?_ ?_ ?_); (rfl); (exact (S3.out.at w.heap.size 23 key (by simp))); (exact HK.out)) | ((with_reducible refine load_bk (o := { dst := some _, op := .load 24 (.tmp 4), type := _, pos := _, after := _, guard := _ }) 24 (.tmp 4) rfl rfl (w.heap.size + 1) 24 fr ?_ arr16 ?_ ?_ ?_); (rfl); (exact (S3.out.at (w.heap.size + 1) 24 fr (by simp))); (exact HF.out)))
    refine (hide_reads _ key fr text A n c HK.out HKB.out HF.out HFB.out HLN.out (Kd.C_below HC.out S3.out.below) HCC.out h1000.out).mono ?_
    rintro e w8 ⟨A8, c8, rfl, hc8, hC8, hb8⟩
    rw [← HH.out] at hC8
    have S4 := Aside0.mk (S3.out.call hb8)
    have C8 := Aside0.mk hC8
    have L8 := Aside0.mk hc8
    clear S3 hb8 hC8 hc8
    go_wp2_with fail
    obtain ⟨q, hq⟩ : ∃ q, q = n / 2 / 16 := ⟨_, rfl⟩
    obtain ⟨m, hm⟩ : ∃ m, m = 16 * q := ⟨_, rfl⟩
    have hmn : m ≤ n := by omega
    have hmn2 : (m : Int) ≤ (n : Int) := by omega
    rw [show (n : Int) / 2 / 16 * 16 = (m : Int) by omega]
    have HMQ := Aside0.mk hm
    have HMN := Aside0.mk hmn
    obtain ⟨i5, hi5⟩ := Option.isSome_iff_exists.1 (show (Try.prog.info? 5).isSome = true by kernel_rfl)
    have hz5 : (Try.prog.info? 5).map (·.size) = some 1 := by kernel_rfl
    rw [hi5] at hz5
    have hz5' : i5.size = 1 := Option.some.inj hz5
    obtain ⟨AT, hAT⟩ : ∃ X, X = (if c = m then A else A.map (·.add m)) := ⟨_, rfl⟩
    obtain ⟨AH, hAH⟩ : ∃ X, X = (if c8 = m then A8 else A8.map (·.add m)) := ⟨_, rfl⟩
    have k1 : ∀ W : World, (Instr.slice 32 (.slice A n c) none (some (.int .i64 (m : Int))) none).run Try.prog W = .ok (.slice A m c) W := fun W => by
      rw [cut_to 32 5 .i64 Try.underlying32 hi5 A n c (m : Int) (by omega) hmn2 HCC.out W, Int.toNat_natCast]
    have k2 : ∀ W : World, (Instr.slice 32 (.slice A8 n c8) none (some (.int .i64 (m : Int))) none).run Try.prog W = .ok (.slice A8 m c8) W := fun W => by
      rw [cut_to 32 5 .i64 Try.underlying32 hi5 A8 n c8 (m : Int) (by omega) hmn2 L8.out W, Int.toNat_natCast]
    have k3 : ∀ W : World, (Instr.slice 32 (.slice A n c) (some (.int .i64 (m : Int))) none none).run Try.prog W = .ok (.slice AT (n - m) (c - m)) W := fun W => by
      rw [cut_from 32 5 .i64 Try.underlying32 hi5 1 hz5' A n c (m : Int) (by omega) hmn2 W, Int.toNat_natCast, Nat.mul_one, hAT]
    have k4 : ∀ W : World, (Instr.slice 32 (.slice A8 n c8) (some (.int .i64 (m : Int))) none none).run Try.prog W = .ok (.slice AH (n - m) (c8 - m)) W := fun W => by
      rw [cut_from 32 5 .i64 Try.underlying32 hi5 1 hz5' A8 n c8 (m : Int) (by omega) hmn2 W, Int.toNat_natCast, Nat.mul_one, hAH]
    have HAT := Aside0.mk hAT
    have HAH := Aside0.mk hAH
    have E1 : IntKind.i64.wrap ((m : Int) / 16) = (q : Int) := by rw [IntWalk.i64_in _ (by omega)]; omega
    have E2 : IntKind.u64.wrap (q : Int) = (q : Int) := by clear E1; have := h1000.out; simp [IntKind.wrap, IntKind.bits, IntKind.signed]; omega
    have HQ0 := Aside0.mk (show 0 ≤ (q : Int) ∧ (q : Int) < 18446744073709551616 by clear E1 E2; have := h1000.out; omega)
    have HTK := Aside0.mk (show hideL key fr (text.take m) m = hid.take m by rw [HH.out]; exact hideL_take key fr text n m hmn HLN.out)
    have HDR := Aside0.mk (show hideL key (cntL fr q) (text.drop m) (n - m) = hid.drop m by rw [HH.out, hm]; exact hideL_drop key fr text HFB.out HF.out n q (by clear E1 E2; omega) HLN.out)
    have HNM := Aside0.mk (show n - m ≤ 1000 ∧ m ≤ 1000 by clear E1 E2; have := h1000.out; omega)
    have HCM := Aside0.mk (show n - m ≤ c - m ∧ n - m ≤ c8 - m ∧ m ≤ c ∧ m ≤ c8 by clear E1 E2; have := HCC.out; have := L8.out; omega)
    have HLT := Aside0.mk (show (text.take m).length = m ∧ (text.drop m).length = n - m ∧ (hid.take m).length = m ∧ (hid.drop m).length = n - m by clear E1 E2; rw [List.length_take, List.length_drop, List.length_take, List.length_drop, HLN.out, HHL.out]; omega)
    have HCQ := Aside0.mk ((cntL_length fr (q : Int)).trans HF.out)
    have HCQB := Aside0.mk (cntL_by HFB.out (q : Int))
    clear hq hm hmn hAT hAH hz5 hz5'
    have hS : Hs [(w.heap.size + 1, 24, fr), (w.heap.size, 23, key)] w w8.drew ∧ (Kd.int .u8).C w8.drew A8 n hid := ⟨S4.out.drew, Kd.C_drew C8.out⟩
    clear S4 C8
    refine wp_region_noPanic ?_
    refine wp_region_held_drew (S := fun W => Hs [(w.heap.size + 1, 24, fr), (w.heap.size, 23, key)] w W ∧ (Kd.int .u8).C W A8 n hid) (by kernel_rfl) (hS) (fun hHeld => ?_)
    clear hS
    refine wpAnyH_take (i := 0) (oi := { dst := some 23, op := _, type := _, pos := _, after := _, guard := _ }) (v := ?_) rfl (by kernel_rfl) (by kernel_rfl) (by kernel_rfl) (fun _ _ _ h => h) (Or.inl ⟨by rfl, ?_⟩) hHeld ?_
    rotate_left
    · (intro w hSw; go_simp) <;> (with_reducible rfl)
    try simp only [Act.put, List.setIfInBounds_toArray, List.set_cons_zero, List.set_cons_succ]
    refine wpAnyH_take (i := 1) (oi := { dst := some 24, op := _, type := _, pos := _, after := _, guard := _ }) (v := ?_) rfl (by kernel_rfl) (by kernel_rfl) (by kernel_rfl) (fun _ _ _ h => h) (Or.inl ⟨by rfl, ?_⟩) hHeld ?_
    rotate_left
    · (intro w hSw; go_simp) <;> (with_reducible rfl)
    try simp only [Act.put, List.setIfInBounds_toArray, List.set_cons_zero, List.set_cons_succ]
    refine wpAnyH_take (i := 2) (oi := { dst := some 25, op := _, type := _, pos := _, after := _, guard := _ }) (v := ?_) rfl (by kernel_rfl) (by kernel_rfl) (by kernel_rfl) (fun _ _ _ h => h) (Or.inl ⟨by rfl, ?_⟩) hHeld ?_
    rotate_left
    · (intro w hSw; go_simp) <;> (with_reducible rfl)
    try simp only [Act.put, List.setIfInBounds_toArray, List.set_cons_zero, List.set_cons_succ]
    refine wpAnyH_take (i := 3) (oi := { dst := some 26, op := _, type := _, pos := _, after := _, guard := _ }) (v := ?_) rfl (by kernel_rfl) (by kernel_rfl) (by kernel_rfl) (fun _ _ _ h => h) (Or.inl ⟨by rfl, ?_⟩) hHeld ?_
    rotate_left
    · (intro w hSw; go_simp) <;> (with_reducible rfl)
    try simp only [Act.put, List.setIfInBounds_toArray, List.set_cons_zero, List.set_cons_succ]
    refine wpAnyH_take (i := 4) (oi := { dst := some 27, op := _, type := _, pos := _, after := _, guard := _ }) (v := ?_) rfl (by kernel_rfl) (by kernel_rfl) (by kernel_rfl) (fun _ _ _ h => h) (Or.inl ⟨by rfl, ?_⟩) hHeld ?_
    rotate_left
    · (intro w hSw; go_simp) <;> (with_reducible rfl)
    try simp only [Act.put, List.setIfInBounds_toArray, List.set_cons_zero, List.set_cons_succ]
    refine wpAnyH_take (i := 5) (oi := { dst := some 28, op := _, type := _, pos := _, after := _, guard := _ }) (v := ?_) rfl (by kernel_rfl) (by kernel_rfl) (by kernel_rfl) (fun _ _ _ h => h) (Or.inl ⟨by rfl, ?_⟩) hHeld ?_
    rotate_left
    · (intro w hSw; go_simp) <;> (with_reducible rfl)
    try simp only [Act.put, List.setIfInBounds_toArray, List.set_cons_zero, List.set_cons_succ]
    refine take_load 6 (oi := { dst := some 29, op := _, type := _, pos := _, after := _, guard := _ }) rfl (by kernel_rfl) (by kernel_rfl) (by kernel_rfl) (fun _ _ _ _ h => h) 23 (.tmp 3) rfl (by rfl) w.heap.size 23 key (by rfl) arrKey HK.out (fun W h => h.1.at _ _ _ (by simp)) hHeld ?_
    try simp only [Act.put, List.setIfInBounds_toArray, List.set_cons_zero, List.set_cons_succ]
    refine take_load 7 (oi := { dst := some 30, op := _, type := _, pos := _, after := _, guard := _ }) rfl (by kernel_rfl) (by kernel_rfl) (by kernel_rfl) (fun _ _ _ _ h => h) 24 (.tmp 4) rfl (by rfl) (w.heap.size + 1) 24 fr (by rfl) arr16 HF.out (fun W h => h.1.at _ _ _ (by simp)) hHeld ?_
    try simp only [Act.put, List.setIfInBounds_toArray, List.set_cons_zero, List.set_cons_succ]
    refine wpAnyH_take (i := 8) (oi := { dst := some 31, op := _, type := _, pos := _, after := _, guard := _ }) (v := ?_) rfl (by kernel_rfl) (by kernel_rfl) (by kernel_rfl) (fun _ _ _ h => h) (Or.inl ⟨by rfl, ?_⟩) hHeld ?_
    rotate_left
    · (intro w hSw; go_simp) <;> (with_reducible rfl)
    try simp only [Act.put, List.setIfInBounds_toArray, List.set_cons_zero, List.set_cons_succ]
    refine wpAnyH_take (i := 9) (oi := { dst := some 32, op := _, type := _, pos := _, after := _, guard := _ }) (v := ?_) rfl (by kernel_rfl) (by kernel_rfl) (by kernel_rfl) (fun _ _ _ h => h) (Or.inl ⟨by rfl, ?_⟩) hHeld ?_
    rotate_left
    · (intro w hSw; go_simp) <;> (with_reducible rfl)
    try simp only [Act.put, List.setIfInBounds_toArray, List.set_cons_zero, List.set_cons_succ]
    refine wpAnyH_take (i := 10) (oi := { dst := some 33, op := _, type := _, pos := _, after := _, guard := _ }) (v := ?_) rfl (by kernel_rfl) (by kernel_rfl) (by kernel_rfl) (fun _ _ _ h => h) (Or.inl ⟨by rfl, ?_⟩) hHeld ?_
    rotate_left
    · (intro w hSw; go_simp) <;> (with_reducible rfl)
    try simp only [Act.put, List.setIfInBounds_toArray, List.set_cons_zero, List.set_cons_succ]
    refine wpAnyH_take (i := 12) (oi := { dst := some 35, op := _, type := _, pos := _, after := _, guard := _ }) (v := ?_) rfl (by kernel_rfl) (by kernel_rfl) (by kernel_rfl) (fun _ _ _ h => h) (Or.inl ⟨by rfl, ?_⟩) hHeld ?_
    rotate_left
    · (intro w hSw; go_simp) <;> (with_reducible rfl)
    try simp only [Act.put, List.setIfInBounds_toArray, List.set_cons_zero, List.set_cons_succ]
    refine wpAnyH_take (i := 13) (oi := { dst := some 36, op := _, type := _, pos := _, after := _, guard := _ }) (v := ?_) rfl (by kernel_rfl) (by kernel_rfl) (by kernel_rfl) (fun _ _ _ h => h) (Or.inl ⟨by rfl, ?_⟩) hHeld ?_
    rotate_left
    · (intro w hSw; go_simp) <;> (with_reducible rfl)
    try simp only [Act.put, List.setIfInBounds_toArray, List.set_cons_zero, List.set_cons_succ]
    refine wpAnyH_take (i := 14) (oi := { dst := some 37, op := _, type := _, pos := _, after := _, guard := _ }) (v := ?_) rfl (by kernel_rfl) (by kernel_rfl) (by kernel_rfl) (fun _ _ _ h => h) (Or.inl ⟨by rfl, ?_⟩) hHeld ?_
    rotate_left
    · (intro w hSw; go_simp) <;> (with_reducible rfl)
    try simp only [Act.put, List.setIfInBounds_toArray, List.set_cons_zero, List.set_cons_succ]
    refine wpAnyH_ready (rs := [11]) (by kernel_rfl) (by simp) (AllReadyH.cons (o := { dst := some 34, op := _, type := _, pos := _, after := _, guard := _ }) rfl (fun K hK => ?_) AllReadyH.nil)
    go_simp
    refine (hide_reads _ key fr (text.take m) A m c HK.out HKB.out HF.out HFB.out HLT.out.1 (C_take2 (Kd.C_below HC.out hHeld.1.below) HLN.out HMN.out) HCM.out.2.2.1 HNM.out.2).mono ?_
    rintro e w10 ⟨A10, c10, rfl, hc10, hC10, hb10⟩
    rw [HTK.out] at hC10
    refine hK.out _ _ (⟨hHeld.1.call hb10, Kd.C_below hHeld.2 hb10⟩) (fun hHeld2 => ?_)
    clear hK K hHeld
    have hHeld := hHeld2
    clear hHeld2
    try simp only [Act.put, List.setIfInBounds_toArray, List.set_cons_zero, List.set_cons_succ]
    refine wpAnyH_ready (rs := [15]) (by kernel_rfl) (by simp) (AllReadyH.cons (o := { dst := some 38, op := _, type := _, pos := _, after := _, guard := _ }) rfl (fun K hK => ?_) AllReadyH.nil)
    go_simp
    refine (same_eq _ A10 c10 A8 c8 (hid.take m) m HLT.out.2.2.1 hC10 hc10 (C_take2 hHeld.2 HHL.out HMN.out) HCM.out.2.2.2 HNM.out.2).mono ?_
    rintro e w11 ⟨rfl, hb11⟩
    refine hK.out _ _ (⟨hHeld.1.call hb11, Kd.C_below hHeld.2 hb11⟩) (fun hHeld2 => ?_)
    clear hK K hHeld
    have hHeld := hHeld2
    clear hHeld2
    try simp only [Act.put, List.setIfInBounds_toArray, List.set_cons_zero, List.set_cons_succ]
    refine wpAnyH_take (i := 16) (oi := { dst := some 39, op := _, type := _, pos := _, after := _, guard := _ }) (v := ?_) rfl (by kernel_rfl) (by kernel_rfl) (by kernel_rfl) (fun _ _ _ h => h) (Or.inl ⟨by rfl, ?_⟩) hHeld ?_
    rotate_left
    · (intro w hSw; go_simp) <;> (with_reducible rfl)
    try simp only [Act.put, List.setIfInBounds_toArray, List.set_cons_zero, List.set_cons_succ]
    refine wpAnyH_take (i := 17) (oi := { dst := some 40, op := _, type := _, pos := _, after := _, guard := _ }) (v := ?_) rfl (by kernel_rfl) (by kernel_rfl) (by kernel_rfl) (fun _ _ _ h => h) (Or.inl ⟨by rfl, ?_⟩) hHeld ?_
    rotate_left
    · (intro w hSw; go_simp) <;> (with_reducible rfl)
    try simp only [Act.put, List.setIfInBounds_toArray, List.set_cons_zero, List.set_cons_succ]
    refine take_load 18 (oi := { dst := some 41, op := _, type := _, pos := _, after := _, guard := _ }) rfl (by kernel_rfl) (by kernel_rfl) (by kernel_rfl) (fun _ _ _ _ h => h) 23 (.tmp 3) rfl (by rfl) w.heap.size 23 key (by rfl) arrKey HK.out (fun W h => h.1.at _ _ _ (by simp)) hHeld ?_
    try simp only [Act.put, List.setIfInBounds_toArray, List.set_cons_zero, List.set_cons_succ]
    refine take_load 19 (oi := { dst := some 42, op := _, type := _, pos := _, after := _, guard := _ }) rfl (by kernel_rfl) (by kernel_rfl) (by kernel_rfl) (fun _ _ _ _ h => h) 24 (.tmp 4) rfl (by rfl) (w.heap.size + 1) 24 fr (by rfl) arr16 HF.out (fun W h => h.1.at _ _ _ (by simp)) hHeld ?_
    try simp only [Act.put, List.setIfInBounds_toArray, List.set_cons_zero, List.set_cons_succ]
    refine wpAnyH_take (i := 20) (oi := { dst := some 43, op := _, type := _, pos := _, after := _, guard := _ }) (v := ?_) rfl (by kernel_rfl) (by kernel_rfl) (by kernel_rfl) (fun _ _ _ h => h) (Or.inl ⟨by rfl, ?_⟩) hHeld ?_
    rotate_left
    · (intro w hSw; go_simp) <;> (with_reducible rfl)
    try simp only [Act.put, List.setIfInBounds_toArray, List.set_cons_zero, List.set_cons_succ]
    refine wpAnyH_take (i := 21) (oi := { dst := some 44, op := _, type := _, pos := _, after := _, guard := _ }) (v := ?_) rfl (by kernel_rfl) (by kernel_rfl) (by kernel_rfl) (fun _ _ _ h => h) (Or.inl ⟨by rfl, ?_⟩) hHeld ?_
    rotate_left
    · (intro w hSw; go_simp) <;> (with_reducible rfl)
    try simp only [Act.put, List.setIfInBounds_toArray, List.set_cons_zero, List.set_cons_succ]
    refine wpAnyH_take (i := 22) (oi := { dst := some 45, op := _, type := _, pos := _, after := _, guard := _ }) (v := ?_) rfl (by kernel_rfl) (by kernel_rfl) (by kernel_rfl) (fun _ _ _ h => h) (Or.inl ⟨by rfl, ?_⟩) hHeld ?_
    rotate_left
    · (intro w hSw; go_simp) <;> (with_reducible rfl)
    try simp only [Act.put, List.setIfInBounds_toArray, List.set_cons_zero, List.set_cons_succ]
    refine wpAnyH_take (i := 24) (oi := { dst := some 47, op := _, type := _, pos := _, after := _, guard := _ }) (v := ?_) rfl (by kernel_rfl) (by kernel_rfl) (by kernel_rfl) (fun _ _ _ h => h) (Or.inl ⟨by rfl, ?_⟩) hHeld ?_
    rotate_left
    · (intro w hSw; go_simp) <;> (with_reducible rfl)
    try simp only [Act.put, List.setIfInBounds_toArray, List.set_cons_zero, List.set_cons_succ]
    refine wpAnyH_take (i := 25) (oi := { dst := some 48, op := _, type := _, pos := _, after := _, guard := _ }) (v := ?_) rfl (by kernel_rfl) (by kernel_rfl) (by kernel_rfl) (fun _ _ _ h => h) (Or.inl ⟨by rfl, ?_⟩) hHeld ?_
    rotate_left
    · (intro w hSw; go_simp) <;> (with_reducible rfl)
    try simp only [Act.put, List.setIfInBounds_toArray, List.set_cons_zero, List.set_cons_succ]
    refine wpAnyH_take (i := 26) (oi := { dst := some 49, op := _, type := _, pos := _, after := _, guard := _ }) (v := ?_) rfl (by kernel_rfl) (by kernel_rfl) (by kernel_rfl) (fun _ _ _ h => h) (Or.inl ⟨by rfl, ?_⟩) hHeld ?_
    rotate_left
    · (intro w hSw; go_simp) <;> (with_reducible rfl)
    try simp only [Act.put, List.setIfInBounds_toArray, List.set_cons_zero, List.set_cons_succ]
    refine wpAnyH_take (i := 28) (oi := { dst := some 51, op := _, type := _, pos := _, after := _, guard := _ }) (v := ?_) rfl (by kernel_rfl) (by kernel_rfl) (by kernel_rfl) (fun _ _ _ h => h) (Or.inl ⟨by rfl, ?_⟩) hHeld ?_
    rotate_left
    · (intro w hSw; go_simp) <;> (with_reducible rfl)
    try simp only [Act.put, List.setIfInBounds_toArray, List.set_cons_zero, List.set_cons_succ]
    refine wpAnyH_take (i := 29) (oi := { dst := some 52, op := _, type := _, pos := _, after := _, guard := _ }) (v := ?_) rfl (by kernel_rfl) (by kernel_rfl) (by kernel_rfl) (fun _ _ _ h => h) (Or.inl ⟨by rfl, ?_⟩) hHeld ?_
    rotate_left
    · (intro w hSw; go_simp) <;> (with_reducible rfl)
    try simp only [Act.put, List.setIfInBounds_toArray, List.set_cons_zero, List.set_cons_succ]
    refine wpAnyH_take (i := 30) (oi := { dst := some 53, op := _, type := _, pos := _, after := _, guard := _ }) (v := ?_) rfl (by kernel_rfl) (by kernel_rfl) (by kernel_rfl) (fun _ _ _ h => h) (Or.inl ⟨by rfl, ?_⟩) hHeld ?_
    rotate_left
    · (intro w hSw; go_simp) <;> (with_reducible rfl)
    try simp only [Act.put, List.setIfInBounds_toArray, List.set_cons_zero, List.set_cons_succ]
    clear E1 E2
    refine wpAnyH_ready (rs := [23]) (by kernel_rfl) (by simp) (AllReadyH.cons (o := { dst := some 46, op := _, type := _, pos := _, after := _, guard := _ }) rfl (fun K hK => ?_) AllReadyH.nil)
    go_simp
    refine (count_calls _ fr (q : Int) HF.out HFB.out HQ0.out.1 HQ0.out.2).mono ?_
    rintro e w12 ⟨rfl, hb12⟩
    refine hK.out _ _ (⟨hHeld.1.call hb12, Kd.C_below hHeld.2 hb12⟩) (fun hHeld2 => ?_)
    clear hK K hHeld
    have hHeld := hHeld2
    clear hHeld2
    try simp only [Act.put, List.setIfInBounds_toArray, List.set_cons_zero, List.set_cons_succ]
    refine wpAnyH_ready (rs := [27]) (by kernel_rfl) (by simp) (AllReadyH.cons (o := { dst := some 50, op := _, type := _, pos := _, after := _, guard := _ }) rfl (fun K hK => ?_) AllReadyH.nil)
    go_simp
    refine (hide_reads _ key (cntL fr q) (text.drop m) AT (n - m) (c - m) HK.out HKB.out HCQ.out HCQB.out HLT.out.2.1 (by rw [HAT.out]; exact C_drop2 (Kd.C_below HC.out hHeld.1.below) HLN.out HMN.out HCC.out) HCM.out.1 HNM.out.1).mono ?_
    rintro e w13 ⟨A13, c13, rfl, hc13, hC13, hb13⟩
    rw [HDR.out] at hC13
    refine hK.out _ _ (⟨hHeld.1.call hb13, Kd.C_below hHeld.2 hb13⟩) (fun hHeld2 => ?_)
    clear hK K hHeld
    have hHeld := hHeld2
    clear hHeld2
    try simp only [Act.put, List.setIfInBounds_toArray, List.set_cons_zero, List.set_cons_succ]
    refine wpAnyH_ready (rs := [31]) (by kernel_rfl) (by simp) (AllReadyH.cons (o := { dst := some 54, op := _, type := _, pos := _, after := _, guard := _ }) rfl (fun K hK => ?_) AllReadyH.nil)
    go_simp
    refine (same_eq _ A13 c13 AH (c8 - m) (hid.drop m) (n - m) HLT.out.2.2.2 hC13 hc13 (by rw [HAH.out]; exact C_drop2 hHeld.2 HHL.out HMN.out L8.out) HCM.out.2.1 HNM.out.1).mono ?_
    rintro e w14 ⟨rfl, hb14⟩
    refine hK.out _ _ (⟨hHeld.1.call hb14, Kd.C_below hHeld.2 hb14⟩) (fun hHeld2 => ?_)
    clear hK K hHeld
    have hHeld := hHeld2
    clear hHeld2
    try simp only [Act.put, List.setIfInBounds_toArray, List.set_cons_zero, List.set_cons_succ]
    refine wpAnyH_take (i := 32) (oi := { dst := some 55, op := _, type := _, pos := _, after := _, guard := _ }) (v := ?_) rfl (by kernel_rfl) (by kernel_rfl) (by kernel_rfl) (fun _ _ _ h => h) (Or.inl ⟨by rfl, ?_⟩) hHeld ?_
    rotate_left
    · (intro w hSw; go_simp) <;> (with_reducible rfl)
    try simp only [Act.put, List.setIfInBounds_toArray, List.set_cons_zero, List.set_cons_succ]
    refine wpAnyH_take (i := 33) (oi := { dst := some 6, op := _, type := _, pos := _, after := _, guard := _ }) (v := ?_) rfl (by kernel_rfl) (by kernel_rfl) (by kernel_rfl) (fun _ _ _ h => h) (Or.inl ⟨by rfl, ?_⟩) hHeld ?_
    rotate_left
    · (intro w hSw; go_simp) <;> (with_reducible rfl)
    try simp only [Act.put, List.setIfInBounds_toArray, List.set_cons_zero, List.set_cons_succ]
    refine wpAnyH_done (by kernel_rfl) ?_ _
    refine NoPanic.normal ?_
    go_wp2_with fail
    go_ret
    exact ⟨rfl, hHeld.1.below⟩
  · have h3i : (600 : Int) < (n : Int) := by omega
    clear h3
    go_enter Try.func8, Try.ntmps8
    go_wp2_with fail
    refine (wakes6_calls _).mono ?_
    rintro e w1 ⟨rfl, hb1⟩
    have S2 := Aside0.mk (S1.out.call hb1)
    clear S1 hb1
    go_wp2_with fail
    go_ret
    exact ⟨rfl, S2.out.below⟩

end Go.Proofs.Ytingegkipimakaa.Ae
