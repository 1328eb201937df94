/- names: the walk of Text. -/
import Derived.Test.YtmgookmfejenjaaDoorNm6
namespace Go.Proofs.YtmgookmfejenjaaDoor.Nm
open Go.Lib Go.RowKit Go.Proofs.YtmgookmfejenjaaDoorW.PrintWords Go.Proofs.YtmgookmfejenjaaDoorW.PrintLast Go.Proofs.YtmgookmfejenjaaDoorW.PrintMore Go.Proofs.YtmgookmfejenjaaDoor.PM
set_option linter.unusedVariables false
set_option linter.unusedSimpArgs false

def res (o : Option (List UInt8)) (acc : List UInt8) : ByteArray × Int := match o with
  | some l => (⟨(acc ++ l).toArray⟩, 0)
  | none => (⟨#[]⟩, 2)
/-- A word's text and the error. -/
def textB (s : ByteArray) : ByteArray × Int := res (txt (s.size + 1) (BL s)) []

theorem index_is (x : UInt8) : Lib.indexByte (⟨#[48, 49, 50, 51, 52, 53, 54, 55, 56, 57, 97, 98, 99, 100, 101, 102]⟩ : ByteArray).data.toList ((x.toNat : Int)).toNat.toUInt8 = if valN x.toNat = 16 then -1 else (valN x.toNat : Int) := by
  have h := index_val ⟨x.toNat, x.toNat_lt⟩
  simp only at h
  rw [← h]
  rfl
theorem txt_itself (n : Nat) (b : UInt8) (l : List UInt8) (h : itselfN b.toNat = true) : txt (n + 1) (b :: l) = (txt n l).map (b :: ·) := by
  simp only [txt]; rw [if_pos h]
theorem txt_not (n : Nat) (b : UInt8) (l : List UInt8) (h : itselfN b.toNat = false) (h2 : b.toNat ≠ 37 ∨ l.length < 2) : txt (n + 1) (b :: l) = none := by
  simp only [txt]
  rw [if_neg (by simp [h])]
  by_cases c : b.toNat = 37
  · rw [if_pos c]
    rcases h2 with h2 | h2
    · exact absurd c h2
    · match l, h2 with
      | [], _ => rfl
      | [x], _ => rfl
  · rw [if_neg c]
theorem txt_hex (n : Nat) (b x y : UInt8) (l : List UInt8) (h : itselfN b.toNat = false) (h2 : b.toNat = 37) : txt (n + 1) (b :: x :: y :: l) = if valN x.toNat = 16 ∨ valN y.toNat = 16 ∨ itselfN (16 * valN x.toNat + valN y.toNat) = true then none else (txt n l).map (UInt8.ofNat (16 * valN x.toNat + valN y.toNat) :: ·) := by
  simp only [txt]
  rw [if_neg (by simp [h]), if_pos h2]
theorem res_map (o : Option (List UInt8)) (b : UInt8) (acc : List UInt8) : res (o.map (b :: ·)) acc = res o (acc ++ [b]) := by
  cases o with
  | none => rfl
  | some l => simp [res]

set_option maxHeartbeats 8000000 in
set_option maxRecDepth 1000000 in
theorem Text_calls (s : ByteArray) (w : World) (hs : s.size ≤ 4000000) :
    Calls Tryd.prog 18 #[.string s] w fun e w' => e = .returned (.tuple #[.string (textB s).1, .int .i64 (textB s).2]) ∧ Below w.heap.size w w' := by
  obtain ⟨rt, re, hre⟩ : ∃ rt re, textB s = (rt, re) := ⟨_, _, rfl⟩
  rw [hre]
  go_enter Tryd.func18, Tryd.ntmps18
  go_wp2
  go_loopg [5] s.size (fun g v wx => ∃ (i n : Nat) (acc : List UInt8), i + g = s.size ∧ v = .int .i64 i ∧ s.size < i + n ∧ Lib.IsBuilderF 44 5 w.heap.size w.heap.size (Lib.byteCells acc) wx ∧ Below w.heap.size w wx ∧ res (txt n ((BL s).drop i)) acc = (rt, re) ∧ acc.length ≤ i)
  case atStart => exact ⟨0, s.size + 1, [], by omega, rfl, by omega, Lib.IsBuilderF.of (Lib.fresh_isBuilder 44 5 w), (Below.refl _ w).alloc (Nat.le_refl _) _, hre, by simp⟩
  case round =>
    obtain ⟨i, n, acc, hg, rfl, hn, hI, hbw, hacc, hal⟩ := hrel
    have HI := Aside0.mk hI; have HB := Aside0.mk hbw; have HA := Aside0.mk hacc; have HS := Aside0.mk hbw.size
    clear hI hbw hacc hre
    obtain ⟨n, rfl⟩ : ∃ j, n = j + 1 := ⟨n - 1, by omega⟩
    by_cases hp : i < s.size
    rotate_left
    · have hpi : ¬ (i : Int) < (s.size : Int) := by omega
      have ha := HA.out
      rw [List.drop_eq_nil_of_le (by rw [BL_length]; omega)] at ha
      simp only [txt, res, List.append_nil, Prod.mk.injEq] at ha
      have HA2 := Aside0.mk ha
      clear ha
      go_wp2_with fail
      refine (Tryd.Builder_String_any_k w.heap.size w.heap.size acc _ HI.out HS.out).mono ?_
      rintro e w1 ⟨rfl, _, hb1, _⟩
      go_wp2
      go_ret2
      exact ⟨by rw [← HA2.out.1, ← HA2.out.2]; rfl, HB.out.trans hb1⟩
    have hpi : (i : Int) < (s.size : Int) := by omega
    have hget := get_bt s i hp
    have ha := HA.out
    rw [drop_get _ i (by rw [BL_length]; exact hp)] at ha
    have HA2 := Aside0.mk ha
    have k0 := ((BL s).getD i 0).toNat_lt
    have HGET := Aside0.mk hget
    clear ha hget HA
    go_wp2_with fail
    rw [HGET.out]
    clear HGET
    generalize (BL s).getD i 0 = b at HA2 k0 ⊢
    have hw1 : IntKind.i64.wrap ((i : Int) + 1) = (i : Int) + 1 := IntWalk.i64_in _ (by omega)
    have hw2 : IntKind.i64.wrap ((i : Int) + 2) = (i : Int) + 2 := IntWalk.i64_in _ (by clear hw1; omega)
    have hw3 : IntKind.i64.wrap ((i : Int) + 2 + 1) = (i : Int) + 3 := by rw [IntWalk.i64_in _ (by clear hw1 hw2; omega)]; clear hw1 hw2; omega
    have HW1 := Aside0.mk hw1; have HW2 := Aside0.mk hw2; have HW3 := Aside0.mk hw3
    clear hw1 hw2 hw3
    refine (names_itself.calls (b.toNat : Int) (itselfN b.toNat) _ (itself_is _)).mono ?_
    rintro e w2 ⟨rfl, nd, rfl⟩
    cases hit : itselfN b.toNat with
    | true =>
      have ha := HA2.out
      rw [txt_itself n b _ hit, res_map] at ha
      have HA3 := Aside0.mk ha
      clear ha
      go_wp2_with fail
      refine (Tryd.Builder_WriteByte_k w.heap.size w.heap.size _ (b.toNat : Int) _ (isb_drewN HI.out nd) (by rw [Lib.byteCells_length]; omega) HS.out).mono ?_
      rintro e w3 ⟨rfl, h3, hb3, _⟩
      have hw1 := HW1.out
      go_wp2
      go_roundg (s.size - (i + 1))
      case measure => clear hw1; omega
      case rel =>
        refine ⟨i + 1, n, acc ++ [b], by clear hw1; omega, by first | rfl | simp, by clear hw1; omega, ?_, (pw_below_drewN HB.out nd).trans hb3, HA3.out, by simp; clear hw1; omega⟩
        rw [Lib.byteCells_append]; exact Or.inr h3
    | false =>
      by_cases c37 : b.toNat = 37
      rotate_left
      · have ha := HA2.out
        rw [txt_not n b _ hit (.inl c37)] at ha
        simp only [res, Prod.mk.injEq] at ha
        have c1 : ((b.toNat : Int) == 37) = false := by rw [beq_eq_false_iff_ne]; omega
        have c2 : ((b.toNat : Int) != 37) = true := by rw [bne_iff_ne]; omega
        have HA3 := Aside0.mk ha
        clear ha
        go_wp2
        go_ret2
        exact ⟨by rw [← HA3.out.1, ← HA3.out.2]; rfl, pw_below_drewN HB.out nd⟩
      have c37i : (b.toNat : Int) = 37 := by omega
      by_cases c3 : s.size ≤ i + 2
      · have ha := HA2.out
        rw [txt_not n b _ hit (.inr (by rw [List.length_drop, BL_length]; omega))] at ha
        simp only [res, Prod.mk.injEq] at ha
        have HA3 := Aside0.mk ha
        have hw2 := HW2.out
        have c3i : (s.size : Int) ≤ (i : Int) + 2 := by clear hw2; omega
        clear ha
        go_wp2
        go_ret2
        exact ⟨by rw [← HA3.out.1, ← HA3.out.2]; rfl, pw_below_drewN HB.out nd⟩
      have ha := HA2.out
      rw [drop_get _ (i + 1) (by rw [BL_length]; omega), drop_get _ (i + 1 + 1) (by rw [BL_length]; omega), txt_hex n b _ _ _ hit c37] at ha
      rw [show i + 1 + 1 = i + 2 from rfl, show i + 2 + 1 = i + 3 from rfl] at ha
      have HX := Aside0.mk (get_bt s (i + 1) (by omega))
      have HY := Aside0.mk (get_bt s (i + 2) (by omega))
      have HIX := Aside0.mk (index_is ((BL s).getD (i + 1) 0))
      have HIY := Aside0.mk (index_is ((BL s).getD (i + 2) 0))
      generalize (BL s).getD (i + 1) 0 = x at ha HX HIX
      generalize (BL s).getD (i + 2) 0 = y at ha HY HIY
      have HA3 := Aside0.mk ha
      clear ha HA2
      have hw1 := HW1.out
      have hw2 := HW2.out
      have c3i : ¬ (s.size : Int) ≤ (i : Int) + 2 := by clear hw1 hw2; omega
      have q1 : i + 1 < s.size := by clear hw1 hw2; omega
      have q2 : i + 2 < s.size := by clear hw1 hw2; omega
      have q1i : (i : Int) + 1 < (s.size : Int) := by clear hw1 hw2; omega
      have q2i : (i : Int) + 2 < (s.size : Int) := by clear hw1 hw2; omega
      have q1z : 0 ≤ (i : Int) + 1 := by clear hw1 hw2; omega
      have q2z : 0 ≤ (i : Int) + 2 := by clear hw1 hw2; omega
      have t1 : ((i : Int) + 1).toNat = i + 1 := by clear hw1 hw2; omega
      have t2 : ((i : Int) + 2).toNat = i + 2 := by clear hw1 hw2; omega
      go_wp2_with fail
      refine wp_region_noPanic ?_
      refine wp_region_held_drew (S := fun W => Below w.heap.size w W) (by kernel_rfl) ((pw_below_drewN HB.out nd).drew) (fun hHeld => ?_)
      refine wpAnyH_take (i := 0) (oi := { dst := some 32, op := _, type := _, pos := _, after := _, guard := _ }) (v := ?_) rfl (by kernel_rfl) (by kernel_rfl) (by kernel_rfl) (fun _ _ _ h => h) (Or.inl ⟨by rfl, ?_⟩) hHeld ?_
      rotate_left
      · (intro w hSw; go_simp) <;> (with_reducible rfl)
      try simp only [Act.put, List.setIfInBounds_toArray, List.set_cons_zero, List.set_cons_succ]
      refine wpAnyH_take (i := 1) (oi := { dst := some 33, op := _, type := _, pos := _, after := _, guard := _ }) (v := ?_) rfl (by kernel_rfl) (by kernel_rfl) (by kernel_rfl) (fun _ _ _ h => h) (Or.inl ⟨by rfl, ?_⟩) hHeld ?_
      rotate_left
      · (intro w hSw; go_simp) <;> (with_reducible rfl)
      try simp only [Act.put, List.setIfInBounds_toArray, List.set_cons_zero, List.set_cons_succ]
      refine wpAnyH_take (i := 2) (oi := { dst := some 34, op := _, type := _, pos := _, after := _, guard := _ }) (v := ?_) rfl (by kernel_rfl) (by kernel_rfl) (by kernel_rfl) (fun _ _ _ h => h) (Or.inl ⟨by rfl, ?_⟩) hHeld ?_
      rotate_left
      · (intro w hSw; go_simp) <;> (with_reducible rfl)
      try simp only [Act.put, List.setIfInBounds_toArray, List.set_cons_zero, List.set_cons_succ]
      refine wpAnyH_take (i := 3) (oi := { dst := some 35, op := _, type := _, pos := _, after := _, guard := _ }) (v := ?_) rfl (by kernel_rfl) (by kernel_rfl) (by kernel_rfl) (fun _ _ _ h => h) (Or.inl ⟨by rfl, ?_⟩) hHeld ?_
      rotate_left
      · (intro w hSw; go_simp) <;> (with_reducible rfl)
      try simp only [Act.put, List.setIfInBounds_toArray, List.set_cons_zero, List.set_cons_succ]
      rw [HX.out]
      refine wpAnyH_take (i := 5) (oi := { dst := some 37, op := _, type := _, pos := _, after := _, guard := _ }) (v := ?_) rfl (by kernel_rfl) (by kernel_rfl) (by kernel_rfl) (fun _ _ _ h => h) (Or.inl ⟨by rfl, ?_⟩) hHeld ?_
      rotate_left
      · (intro w hSw; go_simp) <;> (with_reducible rfl)
      try simp only [Act.put, List.setIfInBounds_toArray, List.set_cons_zero, List.set_cons_succ]
      refine wpAnyH_take (i := 6) (oi := { dst := some 38, op := _, type := _, pos := _, after := _, guard := _ }) (v := ?_) rfl (by kernel_rfl) (by kernel_rfl) (by kernel_rfl) (fun _ _ _ h => h) (Or.inl ⟨by rfl, ?_⟩) hHeld ?_
      rotate_left
      · (intro w hSw; go_simp) <;> (with_reducible rfl)
      try simp only [Act.put, List.setIfInBounds_toArray, List.set_cons_zero, List.set_cons_succ]
      refine wpAnyH_take (i := 7) (oi := { dst := some 39, op := _, type := _, pos := _, after := _, guard := _ }) (v := ?_) rfl (by kernel_rfl) (by kernel_rfl) (by kernel_rfl) (fun _ _ _ h => h) (Or.inl ⟨by rfl, ?_⟩) hHeld ?_
      rotate_left
      · (intro w hSw; go_simp) <;> (with_reducible rfl)
      try simp only [Act.put, List.setIfInBounds_toArray, List.set_cons_zero, List.set_cons_succ]
      refine wpAnyH_take (i := 8) (oi := { dst := some 40, op := _, type := _, pos := _, after := _, guard := _ }) (v := ?_) rfl (by kernel_rfl) (by kernel_rfl) (by kernel_rfl) (fun _ _ _ h => h) (Or.inl ⟨by rfl, ?_⟩) hHeld ?_
      rotate_left
      · (intro w hSw; go_simp) <;> (with_reducible rfl)
      try simp only [Act.put, List.setIfInBounds_toArray, List.set_cons_zero, List.set_cons_succ]
      rw [HY.out]
      refine wpAnyH_ready (rs := [4]) (by kernel_rfl) (by simp) (AllReadyH.cons (o := { dst := some 36, op := _, type := _, pos := _, after := _, guard := _ }) rfl (fun K hK => ?_) AllReadyH.nil)
      go_simp
      refine (Tryd.strings_IndexByte _ _ _).mono ?_
      rintro e w3 ⟨rfl, rfl⟩
      rw [HIX.out]
      refine hK.out _ _ (hHeld) (fun hHeld2 => ?_)
      clear hK K hHeld
      have hHeld := hHeld2
      clear hHeld2
      try simp only [Act.put, List.setIfInBounds_toArray, List.set_cons_zero, List.set_cons_succ]
      refine wpAnyH_ready (rs := [9]) (by kernel_rfl) (by simp) (AllReadyH.cons (o := { dst := some 41, op := _, type := _, pos := _, after := _, guard := _ }) rfl (fun K hK => ?_) AllReadyH.nil)
      go_simp
      refine (Tryd.strings_IndexByte _ _ _).mono ?_
      rintro e w3 ⟨rfl, rfl⟩
      rw [HIY.out]
      refine hK.out _ _ (hHeld) (fun hHeld2 => ?_)
      clear hK K hHeld
      have hHeld := hHeld2
      clear hHeld2
      try simp only [Act.put, List.setIfInBounds_toArray, List.set_cons_zero, List.set_cons_succ]
      refine wpAnyH_take (i := 10) (oi := { dst := some 7, op := _, type := _, pos := _, after := _, guard := _ }) (v := ?_) rfl (by kernel_rfl) (by kernel_rfl) (by kernel_rfl) (fun _ _ _ h => h) (Or.inl ⟨by rfl, ?_⟩) hHeld ?_
      rotate_left
      · (intro w hSw; go_simp) <;> (with_reducible rfl)
      try simp only [Act.put, List.setIfInBounds_toArray, List.set_cons_zero, List.set_cons_succ]
      refine wpAnyH_take (i := 11) (oi := { dst := some 8, op := _, type := _, pos := _, after := _, guard := _ }) (v := ?_) rfl (by kernel_rfl) (by kernel_rfl) (by kernel_rfl) (fun _ _ _ h => h) (Or.inl ⟨by rfl, ?_⟩) hHeld ?_
      rotate_left
      · (intro w hSw; go_simp) <;> (with_reducible rfl)
      try simp only [Act.put, List.setIfInBounds_toArray, List.set_cons_zero, List.set_cons_succ]
      refine wpAnyH_done (by kernel_rfl) ?_ _
      refine NoPanic.normal ?_
      clear HX HY HIX HIY q1 q2 q1i q2i q1z q2z t1 t2
      have v1 := valN_le x.toNat
      have v2 := valN_le y.toNat
      generalize valN x.toNat = p at HA3 v1 ⊢
      generalize valN y.toNat = q at HA3 v2 ⊢
      by_cases cp : p = 16
      · have ha := HA3.out
        rw [if_pos (.inl cp)] at ha
        simp only [res, Prod.mk.injEq] at ha
        have HA4 := Aside0.mk ha
        clear ha HA3
        rw [if_pos cp]
        go_wp2
        all_goals (go_ret2; exact ⟨by rw [← HA4.out.1, ← HA4.out.2]; rfl, hHeld⟩)
      by_cases cq : q = 16
      · have ha := HA3.out
        rw [if_pos (.inr (.inl cq))] at ha
        simp only [res, Prod.mk.injEq] at ha
        have HA4 := Aside0.mk ha
        clear ha HA3
        rw [if_neg cp, if_pos cq]
        have p0 : ¬ (p : Int) < 0 := by clear hw1 hw2; omega
        go_wp2
        all_goals (go_ret2; exact ⟨by rw [← HA4.out.1, ← HA4.out.2]; rfl, hHeld⟩)
      rw [if_neg cp, if_neg cq]
      obtain ⟨z, hz⟩ : ∃ z : Nat, z = 16 * p + q := ⟨_, rfl⟩
      have ha := HA3.out
      rw [← hz] at ha
      have hzl : z < 256 := by clear hw1 hw2; omega
      have E1 : IntKind.i64.wrap (16 * (p : Int)) = 16 * (p : Int) := IntWalk.i64_in _ (by clear hw1 hw2; omega)
      have E2 : IntKind.i64.wrap (16 * (p : Int) + (q : Int)) = (z : Int) := by rw [IntWalk.i64_in _ (by clear hw1 hw2 E1; omega)]; clear hw1 hw2 E1; omega
      have E3 : (z : Int) % 256 = (z : Int) := by clear hw1 hw2 E1 E2; omega
      have p0 : ¬ (p : Int) < 0 := by clear hw1 hw2 E1 E2 E3; omega
      have q0 : ¬ (q : Int) < 0 := by clear hw1 hw2 E1 E2 E3; omega
      have HZ := Aside0.mk hzl
      clear hz HA3
      have HA4 := Aside0.mk ha
      have HC := Aside0.mk (show p ≠ 16 ∧ q ≠ 16 from ⟨cp, cq⟩)
      clear ha cp cq
      go_wp2_with fail
      refine (names_itself.calls (z : Int) (itselfN z) _ (itself_is _)).mono ?_
      rintro e w4 ⟨rfl, nd4, rfl⟩
      cases hzi : itselfN z with
      | true =>
        have ha := HA4.out
        rw [if_pos (.inr (.inr hzi))] at ha
        simp only [res, Prod.mk.injEq] at ha
        have HA5 := Aside0.mk ha
        clear ha HA4
        go_wp2
        go_ret2
        exact ⟨by rw [← HA5.out.1, ← HA5.out.2]; rfl, pw_below_drewN HB.out (nd + 1 + nd4)⟩
      | false =>
        have ha := HA4.out
        rw [if_neg (by rintro (h | h | h); exact HC.out.1 h; exact HC.out.2 h; rw [hzi] at h; simp at h), res_map] at ha
        have HA5 := Aside0.mk ha
        clear ha HA4
        go_wp2_with fail
        refine (Tryd.Builder_WriteByte_k w.heap.size w.heap.size _ (z : Int) _ (isb_drewN HI.out (nd + 1 + nd4)) (by rw [Lib.byteCells_length]; clear hw1 hw2 E1 E2 E3; omega) HS.out).mono ?_
        rintro e w5 ⟨rfl, h5, hb5, _⟩
        have hw3 := HW3.out
        go_wp2
        go_roundg (s.size - (i + 3))
        case measure => clear hw1 hw2 hw3 E1 E2 E3; omega
        case rel =>
          refine ⟨i + 3, n, acc ++ [UInt8.ofNat z], by clear hw1 hw2 hw3 E1 E2 E3; omega, by first | rfl | simp, by clear hw1 hw2 hw3 E1 E2 E3; omega, ?_, (pw_below_drewN HB.out (nd + 1 + nd4)).trans hb5, HA5.out, by simp; clear hw1 hw2 hw3 E1 E2 E3; omega⟩
          rw [Lib.byteCells_append]
          have e : Lib.byteCells [UInt8.ofNat z] = [.int .u8 (z : Int)] := by
            have := HZ.out
            simp [Lib.byteCells]; clear hw1 hw2 hw3 E1 E2 E3; omega
          rw [e]; exact Or.inr h5

end Go.Proofs.YtmgookmfejenjaaDoor.Nm
