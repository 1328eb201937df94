/- names: the walk of Word. -/
import Derived.Test.YtmgookmfejenjaaDoorNm4
import Derived.Test.YtmgookmfejenjaaDoorNm5
namespace Go.Proofs.YtmgookmfejenjaaDoor.Nm
open Go.Lib Go.RowKit Go.Proofs.YtmgookmfejenjaaDoorW.PrintWords Go.Proofs.YtmgookmfejenjaaDoorW.PrintLast Go.Proofs.YtmgookmfejenjaaDoorW.PrintMore Go.Proofs.YtmgookmfejenjaaDoor.PM
set_option linter.unusedVariables false
set_option linter.unusedSimpArgs false

theorem get_bt (s : ByteArray) (i : Nat) (h : i < s.size) : (s[i]'h) = (BL s).getD i 0 := by
  have h' : i < s.data.size := h
  simp only [BL, List.getD_eq_getElem?_getD, Array.getElem?_toList, Array.getElem?_eq_getElem h']
  rfl

theorem hexget0 : ∀ n : Fin 16, ((⟨#[48, 49, 50, 51, 52, 53, 54, 55, 56, 57, 97, 98, 99, 100, 101, 102]⟩ : ByteArray)[n.val]'(n.isLt)).toNat = hexN n.val := by decide
theorem hexget (n : Nat) (h : n < 16) (pf) : (((⟨#[48, 49, 50, 51, 52, 53, 54, 55, 56, 57, 97, 98, 99, 100, 101, 102]⟩ : ByteArray)[n]'pf).toNat : Int) = (hexN n : Int) := by
  have := hexget0 ⟨n, h⟩
  simp only at this
  rw [← this]
set_option maxRecDepth 20000 in
theorem and15 : ∀ n : Fin 256, Go.bits .and .u8 (n.val : Int) 15 = ((n.val % 16 : Nat) : Int) := by decide +kernel

theorem made_string (W : World) (a b c : Int) : (convert 37 9 (.slice (some ⟨W.heap.size, 0, none⟩) 3 3)).run Tryd.prog (W.alloc (.cells #[.int .u8 a, .int .u8 b, .int .u8 c] 5)) = .ok (.string (strOfNums [a, b, c])) (W.alloc (.cells #[.int .u8 a, .int .u8 b, .int .u8 c] 5)) := by
  refine string_of_reads Tryd.underlying37 Tryd.underlying5 Tryd.underlying9 ⟨rfl, by omega, fun _ => ⟨_, rfl, fun j hj => ?_⟩⟩
  match j, hj with
  | 0, _ => exact (blk_cell (blk_new W _) 0).trans rfl
  | 1, _ => exact (blk_cell (blk_new W _) 1).trans rfl
  | 2, _ => exact (blk_cell (blk_new W _) 2).trans rfl

theorem isb_drewN {T e : TypeId} {B b : Nat} {bs : List Value} {w : World} (h : IsBuilderF T e B b bs w) (n : Nat) : IsBuilderF T e B b bs (w.drewN n) := h

set_option maxHeartbeats 4000000 in
set_option maxRecDepth 1000000 in
theorem Word_calls (s : ByteArray) (w : World) (hs : s.size ≤ 4000000) :
    Calls Tryd.prog 15 #[.string s] w fun e w' => e = .returned (.string ⟨(wordL (BL s)).toArray⟩) ∧ Below w.heap.size w w' := by
  go_enter Tryd.func15, Tryd.ntmps15
  go_wp2
  go_loopg [8] s.size (fun g v wx => ∃ (i : Nat) (acc : List UInt8), i + g = s.size ∧ v = .int .i64 i ∧ Lib.IsBuilderF 44 5 w.heap.size w.heap.size (Lib.byteCells acc) wx ∧ Below w.heap.size w wx ∧ acc ++ wordL ((BL s).drop i) = wordL (BL s) ∧ acc.length ≤ 3 * i)
  case atStart => exact ⟨0, [], by omega, rfl, Lib.IsBuilderF.of (Lib.fresh_isBuilder 44 5 w), (Below.refl _ w).alloc (Nat.le_refl _) _, by simp, by simp⟩
  case round =>
    obtain ⟨i, acc, hg, rfl, hI, hbw, hacc, hal⟩ := hrel
    have HI := Aside0.mk hI; have HB := Aside0.mk hbw; have HA := Aside0.mk hacc; have HS := Aside0.mk hbw.size
    clear hI hbw hacc
    by_cases hp : i < s.size
    · have hpi : (i : Int) < (s.size : Int) := by omega
      have hget := get_bt s i hp
      have hA2 := HA.out
      rw [drop_get _ i (by rw [BL_length]; exact hp)] at hA2
      simp only [wordL] at hA2
      have HA2 := Aside0.mk hA2
      have k0 := ((BL s).getD i 0).toNat_lt
      have HGET := Aside0.mk hget
      clear hA2 hget
      go_wp2_with fail
      rw [HGET.out]
      clear HGET
      generalize (BL s).getD i 0 = b at HA2 k0 ⊢
      have hw1 : IntKind.i64.wrap ((i : Int) + 1) = (i : Int) + 1 := IntWalk.i64_in _ (by omega)
      have HW1 := Aside0.mk hw1
      clear hw1
      refine (names_itself.calls (b.toNat : Int) (itselfN b.toNat) _ (itself_is _)).mono ?_
      rintro e w2 ⟨rfl, nd, rfl⟩
      cases hit : itselfN b.toNat with
      | true =>
        rw [hit] at HA2
        go_wp2_with fail
        refine (Tryd.Builder_WriteByte_k w.heap.size w.heap.size _ (b.toNat : Int) _ (isb_drewN HI.out nd) (by rw [Lib.byteCells_length]; omega) HS.out).mono ?_
        rintro e w3 ⟨rfl, h3, hb3, _⟩
        have hw1 := HW1.out
        go_wp2
        go_roundg (s.size - (i + 1))
        case measure => clear hw1; omega
        case rel =>
          refine ⟨i + 1, acc ++ [b], by clear hw1; omega, by first | rfl | simp, ?_, (pw_below_drewN HB.out nd).trans hb3, ?_, by simp; clear hw1; omega⟩
          · rw [Lib.byteCells_append]; exact Or.inr h3
          · have := HA2.out; simpa using this
      | false =>
        rw [hit] at HA2
        go_wp2_with fail
        refine wp_region_noPanic ?_
        refine wp_region_held_drew (S := fun W => Below w.heap.size w W) (by kernel_rfl) ((pw_below_drewN HB.out nd).drew) (fun hHeld => ?_)
        refine wpAnyH_take (i := 0) (oi := { dst := some 18, op := _, type := _, pos := _, after := _, guard := _ }) (v := ?_) rfl (by kernel_rfl) (by kernel_rfl) (by kernel_rfl) (fun _ _ _ h => h) (Or.inl ⟨by rfl, ?_⟩) hHeld ?_
        rotate_left
        · (intro w hSw; go_simp) <;> (with_reducible rfl)
        try simp only [Act.put, List.setIfInBounds_toArray, List.set_cons_zero, List.set_cons_succ]
        refine wpAnyH_take (i := 1) (oi := { dst := some 19, op := _, type := _, pos := _, after := _, guard := _ }) (v := ?_) rfl (by kernel_rfl) (by kernel_rfl) (by kernel_rfl) (fun _ _ _ h => h) (Or.inl ⟨by rfl, ?_⟩) hHeld ?_
        rotate_left
        · (intro w hSw; go_simp) <;> (with_reducible rfl)
        try simp only [Act.put, List.setIfInBounds_toArray, List.set_cons_zero, List.set_cons_succ]
        refine wpAnyH_take (i := 3) (oi := { dst := some 21, op := _, type := _, pos := _, after := _, guard := _ }) (v := ?_) rfl (by kernel_rfl) (by kernel_rfl) (by kernel_rfl) (fun _ _ _ h => h) (Or.inl ⟨by rfl, ?_⟩) hHeld ?_
        rotate_left
        · (intro w hSw; go_simp) <;> (with_reducible rfl)
        try simp only [Act.put, List.setIfInBounds_toArray, List.set_cons_zero, List.set_cons_succ]
        refine wpAnyH_take (i := 4) (oi := { dst := some 22, op := _, type := _, pos := _, after := _, guard := _ }) (v := ?_) rfl (by kernel_rfl) (by kernel_rfl) (by kernel_rfl) (fun _ _ _ h => h) (Or.inl ⟨by rfl, ?_⟩) hHeld ?_
        rotate_left
        · (intro w hSw; go_simp) <;> (with_reducible rfl)
        try simp only [Act.put, List.setIfInBounds_toArray, List.set_cons_zero, List.set_cons_succ]
        rw [show (b.toNat : Int) / 16 = ((b.toNat / 16 : Nat) : Int) by omega, and15 ⟨b.toNat, k0⟩]
        have hpl : b.toNat / 16 < 16 := by omega
        have hql : b.toNat % 16 < 16 := by omega
        generalize b.toNat / 16 = p at HA2 hpl ⊢
        generalize b.toNat % 16 = q at HA2 hql ⊢
        have HP := Aside0.mk hpl
        have HQ := Aside0.mk hql
        clear hpl hql
        refine wpAnyH_take (i := 2) (oi := { dst := some 20, op := _, type := _, pos := _, after := _, guard := _ }) (v := ?_) rfl (by kernel_rfl) (by kernel_rfl) (by kernel_rfl) (fun _ _ _ h => h) (Or.inl ⟨by rfl, ?_⟩) hHeld ?_
        rotate_left
        · (intro w hSw; go_simp; rw [dif_pos (show (p : Int) < 16 by have := HP.out; omega)]; simp only [Result.andThen]; rw [hexget p HP.out]) <;> (with_reducible rfl)
        try simp only [Act.put, List.setIfInBounds_toArray, List.set_cons_zero, List.set_cons_succ]
        refine wpAnyH_take (i := 5) (oi := { dst := some 23, op := _, type := _, pos := _, after := _, guard := _ }) (v := ?_) rfl (by kernel_rfl) (by kernel_rfl) (by kernel_rfl) (fun _ _ _ h => h) (Or.inl ⟨by rfl, ?_⟩) hHeld ?_
        rotate_left
        · (intro w hSw; go_simp; rw [dif_pos (show (q : Int) < 16 by have := HQ.out; omega)]; simp only [Result.andThen]; rw [hexget q HQ.out]) <;> (with_reducible rfl)
        try simp only [Act.put, List.setIfInBounds_toArray, List.set_cons_zero, List.set_cons_succ]
        refine wpAnyH_ready (rs := [6]) (by kernel_rfl) (by simp) (AllReadyH.cons (o := { dst := some 24, op := _, type := _, pos := _, after := _, guard := _ }) rfl (fun K hK => ?_) AllReadyH.nil)
        go_simp
        refine hK.out _ _ (below_step hHeld (below_alloc (Below.refl _ _) _)) (fun hHeld2 => ?_)
        clear hK K hHeld
        have hHeld := hHeld2
        clear hHeld2
        try simp only [Act.put, List.setIfInBounds_toArray, List.set_cons_zero, List.set_cons_succ]
        have hI2 := (isb_drewN HI.out (nd + 1)).alloc (.cells #[.int .u8 37, .int .u8 (hexN p), .int .u8 (hexN q)] 5)
        have ks : (convert 37 9 (.slice (some ⟨wr.heap.size, 0, none⟩) 3 3)).run Tryd.prog ((wr.drewN (nd + 1)).alloc (.cells #[.int .u8 37, .int .u8 (hexN p), .int .u8 (hexN q)] 5)) = .ok (.string (strOfNums [37, (hexN p : Int), (hexN q : Int)])) ((wr.drewN (nd + 1)).alloc (.cells #[.int .u8 37, .int .u8 (hexN p), .int .u8 (hexN q)] 5)) := made_string (wr.drewN (nd + 1)) 37 (hexN p) (hexN q)
        refine wpAnyH_ready (rs := [7]) (by kernel_rfl) (by simp) (AllReadyH.cons (o := { dst := some 25, op := _, type := _, pos := _, after := _, guard := _ }) rfl (fun K hK => ?_) AllReadyH.nil)
        go_simp
        refine hK.out _ _ (hHeld) (fun hHeld2 => ?_)
        clear hK K hHeld
        have hHeld := hHeld2
        clear hHeld2
        try simp only [Act.put, List.setIfInBounds_toArray, List.set_cons_zero, List.set_cons_succ]
        clear ks
        refine wpAnyH_ready (rs := [8]) (by kernel_rfl) (by simp) (AllReadyH.cons (o := { dst := some 26, op := _, type := _, pos := _, after := _, guard := _ }) rfl (fun K hK => ?_) AllReadyH.nil)
        go_simp
        refine (Tryd.Builder_WriteString_k w.heap.size w.heap.size _ _ _ hI2 (by rw [Lib.byteCells_length]; simp [strOfNums, ByteArray.size]; omega) hHeld.size).mono ?_
        rintro e w3 ⟨rfl, h3, hb3, _⟩
        refine hK.out _ _ (hHeld.trans hb3) (fun hHeld2 => ?_)
        clear hK K hHeld
        have hHeld := hHeld2
        clear hHeld2
        try simp only [Act.put, List.setIfInBounds_toArray, List.set_cons_zero, List.set_cons_succ]
        refine wpAnyH_done (by kernel_rfl) ?_ _
        refine NoPanic.normal ?_
        have hw1 := HW1.out
        go_wp2
        go_roundg (s.size - (i + 1))
        case measure => clear hw1; omega
        case rel =>
          refine ⟨i + 1, acc ++ [37, UInt8.ofNat (hexN p), UInt8.ofNat (hexN q)], by clear hw1; omega, by first | rfl | simp, ?_, hHeld, ?_, by simp; clear hw1; omega⟩
          · rw [Lib.byteCells_append]
            have e : Lib.strCells (strOfNums [37, (hexN p : Int), (hexN q : Int)]) = Lib.byteCells [37, UInt8.ofNat (hexN p), UInt8.ofNat (hexN q)] := by simp [Lib.strCells, strOfNums, Lib.byteCells]
            rw [e] at h3
            exact Or.inr h3
          · have := HA2.out; simpa using this
    · have hpi : ¬ (i : Int) < (s.size : Int) := by omega
      go_wp2_with fail
      refine (Tryd.Builder_String_any_k w.heap.size w.heap.size acc _ HI.out HS.out).mono ?_
      rintro e w1 ⟨rfl, _, hb1, _⟩
      go_wp2
      go_ret
      have := HA.out
      rw [List.drop_eq_nil_of_le (by rw [BL_length]; omega)] at this
      simp only [wordL, List.append_nil] at this
      exact ⟨by rw [← this]; rfl, HB.out.trans hb1⟩

end Go.Proofs.YtmgookmfejenjaaDoor.Nm
