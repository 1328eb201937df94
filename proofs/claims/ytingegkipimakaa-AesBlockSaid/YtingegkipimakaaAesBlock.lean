/- AesBlock: the walk. -/
import Derived.Test.YtingegkipimakaaHs
import Derived.Test.YtingegkipimakaaAp2
namespace Go.Proofs.Ytingegkipimakaa.Ae
open Go.RowKit Go.Proofs.YtingegkipimakaaW.PrintWords Go.Proofs.YtingegkipimakaaW.PrintLast Go.Proofs.YtingegkipimakaaW.PrintMore Go.Proofs.Ytingegkipimakaa.PA
set_option linter.unusedVariables false
set_option linter.unusedSimpArgs false

attribute [local irreducible] blockL boxL fillL rnd wordsL tabL in
set_option maxHeartbeats 2000000 in
set_option maxRecDepth 20000 in
theorem aesBlock_calls (w : World) (key : List Int) (hk : key.length = 32) (hkw : ∀ z ∈ key, (Lit.int .u8 z).wf = true) (x : List Int) (hx : x.length = 16) (hxw : ∀ z ∈ x, (Lit.int .u8 z).wf = true) :
    Calls Try.prog 3 #[.agg (u8s key), .agg (u8s x)] w fun e w' => e = .returned (.bool true) ∧ Below w.heap.size w w' := by
  have hz := (zero_of_info (P := Try.prog) (t := 26) (v := .agg (u8s (List.replicate 256 0))) (n := 256) (by kernel_rfl)).1
  obtain ⟨z, hz256⟩ : ∃ l, l = List.replicate 256 (0 : Int) := ⟨_, rfl⟩
  rw [← hz256] at hz
  have HZL := Aside0.mk (show z.length = 256 by rw [hz256]; exact List.length_replicate)
  clear hz256
  have HK := Aside0.mk hk
  have HX := Aside0.mk hx
  have HKB := Aside0.mk (By.ofMem hkw)
  have HXB := Aside0.mk (By.ofMem hxw)
  obtain ⟨y, hy⟩ : ∃ y, y = blockL (boxL key) x := ⟨_, rfl⟩
  have HYL := Aside0.mk (show y.length = 16 by rw [hy, blockL_length])
  have HRY := Aside0.mk (show rnd tabL (wordsL tabL key) 14 x = y by rw [block_is key x (boxL_by HKB.out) HX.out HXB.out, hy])
  have HY := Aside0.mk hy
  have HWL := Aside0.mk (wordsL_length tabL key)
  have HE : ∀ W, (Op.equalIn 10000 24 (.agg (u8s y)) (.agg (u8s y))).run Try.prog W = .ok true W := fun W => (eq16 y y HYL.out HYL.out W).trans (by simp)
  clear hk hx hkw hxw hy
  have S1 := Aside0.mk (((Hs.start w).new 23 key).new 24 x)
  rw [alloc_size] at S1
  go_enter Try.func3, Try.ntmps3
  go_wp2_with fail
  refine (wakes_calls _).mono ?_
  rintro e w1 ⟨rfl, hb1⟩
  have S2 := Aside0.mk (S1.out.call hb1)
  clear S1 hb1
  go_wp2_with fail
  refine (table_calls _).mono ?_
  rintro e w2 ⟨rfl, hb2⟩
  have S3 := Aside0.mk (S2.out.call hb2)
  have B3 := Aside0.mk (Bk.new w2 26 z)
  clear S2 hb2
  go_wp2_with (first | ((with_reducible refine store_bk (o := { dst := none, op := .store 26 (.tmp 5) (.tmp 10), type := _, pos := _, after := _, guard := _ }) 26 (.tmp 5) (.tmp 10) rfl rfl w2.heap.size 26 z tabL ?_ ?_ arr256 ?_ ?_ ?_ ?_); (rfl); (rfl); (exact B3.out); (exact HZL.out); (exact tabL_length)) | ((with_reducible refine load_bk (o := { dst := some _, op := .load 23 (.tmp 2), type := _, pos := _, after := _, guard := _ }) 23 (.tmp 2) rfl rfl w.heap.size 23 key ?_ arrKey ?_ ?_ ?_); (rfl); (exact ((S3.out.newRow _ _ _).at w.heap.size _ key (by simp))); (exact HK.out)))
  have S4 := Aside0.mk (S3.out.newRow 26 z tabL)
  clear S3 B3
  refine (new_calls _ key HK.out HKB.out).mono ?_
  rintro e w3 ⟨gb, rfl, hgb, hbk, hb3⟩
  have S5 := Aside0.mk ((S4.out.call hb3).with hbk)
  clear S4 hb3 hbk hgb
  go_wp2_with (first | ((with_reducible refine load_bk (o := { dst := some _, op := .load 24 (.tmp 3), type := _, pos := _, after := _, guard := _ }) 24 (.tmp 3) rfl rfl (w.heap.size + 1) 24 x ?_ arr16 ?_ ?_ ?_); (rfl); (exact (S5.out.at _ _ x (by simp))); (exact HX.out)))
  refine (block_calls _ gb (boxL key) x (S5.out.at _ _ _ (by simp)) (boxL_length key) (boxL_by HKB.out) HX.out HXB.out).mono ?_
  rintro e w4 ⟨rfl, hb4⟩
  rw [← HY.out]
  have S6 := Aside0.mk (S5.out.call hb4)
  have B6 := Aside0.mk (Bk.new w4 24 zs)
  have HZ16 := Aside0.mk zs_length
  clear S5 hb4
  go_wp2_with (first | ((with_reducible refine store_bk (o := { dst := none, op := .store 24 (.tmp 7) (.tmp 15), type := _, pos := _, after := _, guard := _ }) 24 (.tmp 7) (.tmp 15) rfl rfl w4.heap.size 24 zs y ?_ ?_ arr16 ?_ ?_ ?_ ?_); (rfl); (rfl); (exact B6.out); (exact HZ16.out); (exact HYL.out)))
  have S7 := Aside0.mk (S6.out.newRow 24 zs y)
  clear S6 B6 HZ16 hz
  obtain ⟨gt, hgt⟩ : ∃ gt, gt = w2.heap.size := ⟨_, rfl⟩
  obtain ⟨gy, hgy⟩ : ∃ gy, gy = w4.heap.size := ⟨_, rfl⟩
  rw [← hgt, ← hgy] at S7
  rw [← hgt, ← hgy]
  clear hgt hgy
  have hS := S7.out.drew
  clear S7
  refine wp_region_noPanic ?_
  refine wp_region_held_drew (S := fun W => Hs [(gy, 24, y), (gb, 51, boxL key), (gt, 26, tabL), (w.heap.size + 1, 24, x), (w.heap.size, 23, key)] w W) (by kernel_rfl) (hS) (fun hHeld => ?_)
  clear hS
  refine take_load 0 (oi := { dst := some 16, op := _, type := _, pos := _, after := _, guard := _ }) rfl (by kernel_rfl) (by kernel_rfl) (by kernel_rfl) (fun _ _ _ _ h => h) 24 (.tmp 7) rfl (by rfl) gy 24 y (by rfl) arr16 HYL.out (fun W h => h.at _ _ _ (by simp)) hHeld ?_
  try simp only [Act.put, List.setIfInBounds_toArray, List.set_cons_zero, List.set_cons_succ]
  refine take_load 1 (oi := { dst := some 17, op := _, type := _, pos := _, after := _, guard := _ }) rfl (by kernel_rfl) (by kernel_rfl) (by kernel_rfl) (fun _ _ _ _ h => h) 26 (.tmp 5) rfl (by rfl) gt 26 tabL (by rfl) arr256 tabL_length (fun W h => h.at _ _ _ (by simp)) hHeld ?_
  try simp only [Act.put, List.setIfInBounds_toArray, List.set_cons_zero, List.set_cons_succ]
  refine take_load 2 (oi := { dst := some 18, op := _, type := _, pos := _, after := _, guard := _ }) rfl (by kernel_rfl) (by kernel_rfl) (by kernel_rfl) (fun _ _ _ _ h => h) 26 (.tmp 5) rfl (by rfl) gt 26 tabL (by rfl) arr256 tabL_length (fun W h => h.at _ _ _ (by simp)) hHeld ?_
  try simp only [Act.put, List.setIfInBounds_toArray, List.set_cons_zero, List.set_cons_succ]
  refine take_load 3 (oi := { dst := some 19, op := _, type := _, pos := _, after := _, guard := _ }) rfl (by kernel_rfl) (by kernel_rfl) (by kernel_rfl) (fun _ _ _ _ h => h) 23 (.tmp 2) rfl (by rfl) w.heap.size 23 key (by rfl) arrKey HK.out (fun W h => h.at _ _ _ (by simp)) hHeld ?_
  try simp only [Act.put, List.setIfInBounds_toArray, List.set_cons_zero, List.set_cons_succ]
  refine take_load 5 (oi := { dst := some 21, op := _, type := _, pos := _, after := _, guard := _ }) rfl (by kernel_rfl) (by kernel_rfl) (by kernel_rfl) (fun _ _ _ _ h => h) 24 (.tmp 3) rfl (by rfl) (w.heap.size + 1) 24 x (by rfl) arr16 HX.out (fun W h => h.at _ _ _ (by simp)) hHeld ?_
  try simp only [Act.put, List.setIfInBounds_toArray, List.set_cons_zero, List.set_cons_succ]
  refine wpAnyH_ready (rs := [4]) (by kernel_rfl) (by simp) (AllReadyH.cons (o := { dst := some 20, op := _, type := _, pos := _, after := _, guard := _ }) rfl (fun K hK => ?_) AllReadyH.nil)
  go_simp
  refine (words_calls _ tabL key tabL_length tab_by HK.out HKB.out).mono ?_
  rintro e w6 ⟨gw, rfl, hgw, hwk, hb6⟩
  refine hK.out _ _ (hHeld.call hb6) (fun hHeld2 => ?_)
  clear hK K hHeld
  have hHeld := hHeld2
  clear hHeld2
  try simp only [Act.put, List.setIfInBounds_toArray, List.set_cons_zero, List.set_cons_succ]
  refine wpAnyH_ready (rs := [6]) (by kernel_rfl) (by simp) (AllReadyH.cons (o := { dst := some 22, op := _, type := _, pos := _, after := _, guard := _ }) rfl (fun K hK => ?_) AllReadyH.nil)
  go_simp
  refine (refblock_calls _ gw tabL (wordsL tabL key) x tabL_length tab_by hwk HWL.out HX.out HXB.out).mono ?_
  rintro e w7 ⟨rfl, hb7⟩
  rw [HRY.out]
  refine hK.out _ _ (hHeld.call hb7) (fun hHeld2 => ?_)
  clear hK K hHeld
  have hHeld := hHeld2
  clear hHeld2
  try simp only [Act.put, List.setIfInBounds_toArray, List.set_cons_zero, List.set_cons_succ]
  refine wpAnyH_take (i := 7) (oi := { dst := some 23, op := _, type := _, pos := _, after := _, guard := _ }) (v := ?_) rfl (by kernel_rfl) (by kernel_rfl) (by kernel_rfl) (fun _ _ _ h => h) (Or.inl ⟨by rfl, ?_⟩) hHeld ?_
  rotate_left
  · (intro w hSw; go_simp) <;> (with_reducible rfl)
  try simp only [Act.put, List.setIfInBounds_toArray, List.set_cons_zero, List.set_cons_succ]
  refine wpAnyH_take (i := 8) (oi := { dst := some 24, op := _, type := _, pos := _, after := _, guard := _ }) (v := ?_) rfl (by kernel_rfl) (by kernel_rfl) (by kernel_rfl) (fun _ _ _ h => h) (Or.inl ⟨by rfl, ?_⟩) hHeld ?_
  rotate_left
  · (intro w hSw; go_simp) <;> (with_reducible rfl)
  try simp only [Act.put, List.setIfInBounds_toArray, List.set_cons_zero, List.set_cons_succ]
  refine wpAnyH_take (i := 9) (oi := { dst := some 25, op := _, type := _, pos := _, after := _, guard := _ }) (v := ?_) rfl (by kernel_rfl) (by kernel_rfl) (by kernel_rfl) (fun _ _ _ h => h) (Or.inl ⟨by rfl, ?_⟩) hHeld ?_
  rotate_left
  · (intro w hSw; go_simp) <;> (with_reducible rfl)
  try simp only [Act.put, List.setIfInBounds_toArray, List.set_cons_zero, List.set_cons_succ]
  refine take_load 10 (oi := { dst := some 26, op := _, type := _, pos := _, after := _, guard := _ }) rfl (by kernel_rfl) (by kernel_rfl) (by kernel_rfl) (fun _ _ _ _ h => h) 24 (.tmp 3) rfl (by rfl) (w.heap.size + 1) 24 x (by rfl) arr16 HX.out (fun W h => h.at _ _ _ (by simp)) hHeld ?_
  try simp only [Act.put, List.setIfInBounds_toArray, List.set_cons_zero, List.set_cons_succ]
  refine take_load 12 (oi := { dst := some 28, op := _, type := _, pos := _, after := _, guard := _ }) rfl (by kernel_rfl) (by kernel_rfl) (by kernel_rfl) (fun _ _ _ _ h => h) 24 (.tmp 7) rfl (by rfl) gy 24 y (by rfl) arr16 HYL.out (fun W h => h.at _ _ _ (by simp)) hHeld ?_
  try simp only [Act.put, List.setIfInBounds_toArray, List.set_cons_zero, List.set_cons_succ]
  refine wpAnyH_ready (rs := [11]) (by kernel_rfl) (by simp) (AllReadyH.cons (o := { dst := some 27, op := _, type := _, pos := _, after := _, guard := _ }) rfl (fun K hK => ?_) AllReadyH.nil)
  go_simp
  refine (block_calls _ gb (boxL key) x (hHeld.at _ _ _ (by simp)) (boxL_length key) (boxL_by HKB.out) HX.out HXB.out).mono ?_
  rintro e w8 ⟨rfl, hb8⟩
  rw [← HY.out]
  refine hK.out _ _ (hHeld.call hb8) (fun hHeld2 => ?_)
  clear hK K hHeld
  have hHeld := hHeld2
  clear hHeld2
  try simp only [Act.put, List.setIfInBounds_toArray, List.set_cons_zero, List.set_cons_succ]
  refine wpAnyH_take (i := 13) (oi := { dst := some 29, op := _, type := _, pos := _, after := _, guard := _ }) (v := ?_) rfl (by kernel_rfl) (by kernel_rfl) (by kernel_rfl) (fun _ _ _ h => h) (Or.inl ⟨by rfl, ?_⟩) hHeld ?_
  rotate_left
  · (intro w hSw; go_simp) <;> (with_reducible rfl)
  try simp only [Act.put, List.setIfInBounds_toArray, List.set_cons_zero, List.set_cons_succ]
  refine wpAnyH_take (i := 14) (oi := { dst := some 30, op := _, type := _, pos := _, after := _, guard := _ }) (v := ?_) rfl (by kernel_rfl) (by kernel_rfl) (by kernel_rfl) (fun _ _ _ h => h) (Or.inl ⟨by rfl, ?_⟩) hHeld ?_
  rotate_left
  · (intro w hSw; go_simp) <;> (with_reducible rfl)
  try simp only [Act.put, List.setIfInBounds_toArray, List.set_cons_zero, List.set_cons_succ]
  refine wpAnyH_take (i := 15) (oi := { dst := some 4, op := _, type := _, pos := _, after := _, guard := _ }) (v := ?_) rfl (by kernel_rfl) (by kernel_rfl) (by kernel_rfl) (fun _ _ _ h => h) (Or.inl ⟨by rfl, ?_⟩) hHeld ?_
  rotate_left
  · (intro w hSw; go_simp) <;> (with_reducible rfl)
  try simp only [Act.put, List.setIfInBounds_toArray, List.set_cons_zero, List.set_cons_succ]
  refine wpAnyH_done (by kernel_rfl) ?_ _
  refine NoPanic.normal ?_
  go_wp2_with fail
  go_ret
  exact ⟨rfl, hHeld.below⟩

end Go.Proofs.Ytingegkipimakaa.Ae
