/- AesApart: the walk. -/
import Derived.Test.YtingegkipimakaaHs
import Derived.Test.YtingegkipimakaaAp3
namespace Go.Proofs.Ytingegkipimakaa.Ae
open Go.RowKit Go.Proofs.YtingegkipimakaaW.PrintWords Go.Proofs.YtingegkipimakaaW.PrintLast Go.Proofs.YtingegkipimakaaW.PrintMore Go.Proofs.Ytingegkipimakaa.PA
set_option linter.unusedVariables false
set_option linter.unusedSimpArgs false

attribute [local irreducible] blockL boxL fillL rnd wordsL tabL in
set_option maxHeartbeats 2000000 in
set_option maxRecDepth 20000 in
theorem aesApart_calls (w : World) (key : List Int) (hk : key.length = 32) (hkw : ∀ z ∈ key, (Lit.int .u8 z).wf = true) (x : List Int) (hx : x.length = 16) (hxw : ∀ z ∈ x, (Lit.int .u8 z).wf = true) (y : List Int) (hy : y.length = 16) (hyw : ∀ z ∈ y, (Lit.int .u8 z).wf = true) :
    Calls Try.prog 5 #[.agg (u8s key), .agg (u8s x), .agg (u8s y)] w fun e w' => e = .returned (.bool true) ∧ Below w.heap.size w w' := by
  have HK := Aside0.mk hk
  have HX := Aside0.mk hx
  have HYL := Aside0.mk hy
  have HKB := Aside0.mk (By.ofMem hkw)
  have HXB := Aside0.mk (By.ofMem hxw)
  have HYB := Aside0.mk (By.ofMem hyw)
  obtain ⟨d, hd⟩ : ∃ d, d = decide (x = y) := ⟨_, rfl⟩
  have HE1 : ∀ W, (Op.equalIn 10000 24 (.agg (u8s (blockL (boxL key) x))) (.agg (u8s (blockL (boxL key) y)))).run Try.prog W = .ok d W := fun W => by
    rw [eq16 _ _ (blockL_length _ _) (blockL_length _ _) W, hd]
    congr 1
    rw [decide_eq_decide]
    exact ⟨blockL_inj (boxL_by HKB.out) HX.out HYL.out HXB.out HYB.out, fun h => by rw [h]⟩
  have HE2 : ∀ W, (Op.equalIn 10000 24 (.agg (u8s x)) (.agg (u8s y))).run Try.prog W = .ok d W := fun W => by rw [eq16 x y HX.out HYL.out W, hd]
  clear hk hx hkw hxw hy hyw hd
  have S1 := ((Hs.start w).new 23 key).new 24 x
  rw [alloc_size] at S1
  have S1' := S1.new 24 y
  rw [alloc_size, alloc_size] at S1'
  have S1 := Aside0.mk S1'
  clear S1'
  go_enter Try.func5, Try.ntmps5
  go_wp2_with fail
  refine (wakes_calls _).mono ?_
  rintro e w1 ⟨rfl, hb1⟩
  have S2 := Aside0.mk (S1.out.call hb1)
  clear S1 hb1
  go_wp2_with (first | ((with_reducible refine load_bk (o := { dst := some _, op := .load 23 (.tmp 3), type := _, pos := _, after := _, guard := _ }) 23 (.tmp 3) rfl rfl w.heap.size 23 key ?_ arrKey ?_ ?_ ?_); (rfl); (exact (S2.out.at w.heap.size _ key (by simp))); (exact HK.out)))
  refine (new_calls _ key HK.out HKB.out).mono ?_
  rintro e w3 ⟨gb, rfl, hgb, hbk, hb3⟩
  have S5 := Aside0.mk ((S2.out.call hb3).with hbk)
  clear S2 hb3 hbk hgb
  go_wp2_with fail
  have hS := S5.out.drew
  clear S5
  refine wp_region_noPanic ?_
  refine wp_region_held_drew (S := fun W => Hs [(gb, 51, boxL key), (w.heap.size + 1 + 1, 24, y), (w.heap.size + 1, 24, x), (w.heap.size, 23, key)] w W) (by kernel_rfl) (hS) (fun hHeld => ?_)
  clear hS
  refine wpAnyH_take (i := 0) (oi := { dst := some 12, op := _, type := _, pos := _, after := _, guard := _ }) (v := ?_) rfl (by kernel_rfl) (by kernel_rfl) (by kernel_rfl) (fun _ _ _ h => h) (Or.inl ⟨by rfl, ?_⟩) hHeld ?_
  rotate_left
  · (intro w hSw; go_simp) <;> (with_reducible rfl)
  try simp only [Act.put, List.setIfInBounds_toArray, List.set_cons_zero, List.set_cons_succ]
  refine take_load 1 (oi := { dst := some 13, op := _, type := _, pos := _, after := _, guard := _ }) rfl (by kernel_rfl) (by kernel_rfl) (by kernel_rfl) (fun _ _ _ _ h => h) 24 (.tmp 4) rfl (by rfl) (w.heap.size + 1) 24 x (by rfl) arr16 HX.out (fun W h => h.at _ _ _ (by simp)) hHeld ?_
  try simp only [Act.put, List.setIfInBounds_toArray, List.set_cons_zero, List.set_cons_succ]
  refine wpAnyH_take (i := 3) (oi := { dst := some 15, op := _, type := _, pos := _, after := _, guard := _ }) (v := ?_) rfl (by kernel_rfl) (by kernel_rfl) (by kernel_rfl) (fun _ _ _ h => h) (Or.inl ⟨by rfl, ?_⟩) hHeld ?_
  rotate_left
  · (intro w hSw; go_simp) <;> (with_reducible rfl)
  try simp only [Act.put, List.setIfInBounds_toArray, List.set_cons_zero, List.set_cons_succ]
  refine take_load 4 (oi := { dst := some 16, op := _, type := _, pos := _, after := _, guard := _ }) rfl (by kernel_rfl) (by kernel_rfl) (by kernel_rfl) (fun _ _ _ _ h => h) 24 (.tmp 5) rfl (by rfl) (w.heap.size + 1 + 1) 24 y (by rfl) arr16 HYL.out (fun W h => h.at _ _ _ (by simp)) hHeld ?_
  try simp only [Act.put, List.setIfInBounds_toArray, List.set_cons_zero, List.set_cons_succ]
  refine take_load 7 (oi := { dst := some 19, op := _, type := _, pos := _, after := _, guard := _ }) rfl (by kernel_rfl) (by kernel_rfl) (by kernel_rfl) (fun _ _ _ _ h => h) 24 (.tmp 4) rfl (by rfl) (w.heap.size + 1) 24 x (by rfl) arr16 HX.out (fun W h => h.at _ _ _ (by simp)) hHeld ?_
  try simp only [Act.put, List.setIfInBounds_toArray, List.set_cons_zero, List.set_cons_succ]
  refine take_load 8 (oi := { dst := some 20, op := _, type := _, pos := _, after := _, guard := _ }) rfl (by kernel_rfl) (by kernel_rfl) (by kernel_rfl) (fun _ _ _ _ h => h) 24 (.tmp 5) rfl (by rfl) (w.heap.size + 1 + 1) 24 y (by rfl) arr16 HYL.out (fun W h => h.at _ _ _ (by simp)) hHeld ?_
  try simp only [Act.put, List.setIfInBounds_toArray, List.set_cons_zero, List.set_cons_succ]
  refine wpAnyH_take (i := 9) (oi := { dst := some 21, op := _, type := _, pos := _, after := _, guard := _ }) (v := ?_) rfl (by kernel_rfl) (by kernel_rfl) (by kernel_rfl) (fun _ _ _ h => h) (Or.inl ⟨by rfl, ?_⟩) hHeld ?_
  rotate_left
  · (intro w hSw; go_simp) <;> (with_reducible rfl)
  try simp only [Act.put, List.setIfInBounds_toArray, List.set_cons_zero, List.set_cons_succ]
  refine wpAnyH_ready (rs := [2]) (by kernel_rfl) (by simp) (AllReadyH.cons (o := { dst := some 14, op := _, type := _, pos := _, after := _, guard := _ }) rfl (fun K hK => ?_) AllReadyH.nil)
  go_simp
  refine (block_calls _ gb (boxL key) x (hHeld.at _ _ _ (by simp)) (boxL_length key) (boxL_by HKB.out) HX.out HXB.out).mono ?_
  rintro e w6 ⟨rfl, hb6⟩
  refine hK.out _ _ (hHeld.call hb6) (fun hHeld2 => ?_)
  clear hK K hHeld
  have hHeld := hHeld2
  clear hHeld2
  try simp only [Act.put, List.setIfInBounds_toArray, List.set_cons_zero, List.set_cons_succ]
  refine wpAnyH_ready (rs := [5]) (by kernel_rfl) (by simp) (AllReadyH.cons (o := { dst := some 17, op := _, type := _, pos := _, after := _, guard := _ }) rfl (fun K hK => ?_) AllReadyH.nil)
  go_simp
  refine (block_calls _ gb (boxL key) y (hHeld.at _ _ _ (by simp)) (boxL_length key) (boxL_by HKB.out) HYL.out HYB.out).mono ?_
  rintro e w7 ⟨rfl, hb7⟩
  refine hK.out _ _ (hHeld.call hb7) (fun hHeld2 => ?_)
  clear hK K hHeld
  have hHeld := hHeld2
  clear hHeld2
  try simp only [Act.put, List.setIfInBounds_toArray, List.set_cons_zero, List.set_cons_succ]
  refine wpAnyH_take (i := 6) (oi := { dst := some 18, op := _, type := _, pos := _, after := _, guard := _ }) (v := ?_) rfl (by kernel_rfl) (by kernel_rfl) (by kernel_rfl) (fun _ _ _ h => h) (Or.inl ⟨by rfl, ?_⟩) hHeld ?_
  rotate_left
  · (intro w hSw; go_simp) <;> (with_reducible rfl)
  try simp only [Act.put, List.setIfInBounds_toArray, List.set_cons_zero, List.set_cons_succ]
  refine wpAnyH_take (i := 10) (oi := { dst := some 22, op := _, type := _, pos := _, after := _, guard := _ }) (v := ?_) rfl (by kernel_rfl) (by kernel_rfl) (by kernel_rfl) (fun _ _ _ h => h) (Or.inl ⟨by rfl, ?_⟩) hHeld ?_
  rotate_left
  · (intro w hSw; go_simp) <;> (with_reducible rfl)
  try simp only [Act.put, List.setIfInBounds_toArray, List.set_cons_zero, List.set_cons_succ]
  refine wpAnyH_take (i := 11) (oi := { dst := some 6, op := _, type := _, pos := _, after := _, guard := _ }) (v := ?_) rfl (by kernel_rfl) (by kernel_rfl) (by kernel_rfl) (fun _ _ _ h => h) (Or.inl ⟨by rfl, ?_⟩) hHeld ?_
  rotate_left
  · (intro w hSw; go_simp) <;> (with_reducible rfl)
  try simp only [Act.put, List.setIfInBounds_toArray, List.set_cons_zero, List.set_cons_succ]
  refine wpAnyH_done (by kernel_rfl) ?_ _
  refine NoPanic.normal ?_
  go_wp2_with fail
  go_ret
  exact ⟨rfl, hHeld.below⟩

end Go.Proofs.Ytingegkipimakaa.Ae
