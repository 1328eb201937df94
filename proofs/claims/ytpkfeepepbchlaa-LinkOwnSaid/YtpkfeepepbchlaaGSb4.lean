import Derived.Test.YtpkfeepepbchlaaGSb2
import Derived.Test.YtpkfeepepbchlaaGSbR
import Derived.StillTailTactics
namespace Go.Proofs.Ytpkfeepepbchlaa.Sb
open Go.RowKit Go.Proofs.YtpkfeepepbchlaaW.PrintWords Go.Proofs.YtpkfeepepbchlaaW.PrintLast Go.Proofs.YtpkfeepepbchlaaW.PrintMore Go.Proofs.Ytpkfeepepbchlaa.PK
attribute [local go_sem] max2_int min2_int max_two min_two
set_option linter.unusedVariables false
set_option linter.unusedSimpArgs false
abbrev IsR := IsS105
theorem below_of_keep {w0 w1 w2 : World} {g B : Nat} (h1 : Below w0.heap.size w0 w1) (h2 : Below w0.heap.size w0 w2) (hk : KeepBut w1 w2 g none) (hB : B ≤ g) (hB1 : B ≤ w1.heap.size) : Below B w1 w2 :=
  ⟨h2.os.trans h1.os.symm, h2.tape.trans h1.tape.symm, h2.output.trans h1.output.symm, hk.1, fun k hlt => hk.2 k (by omega) (by omega) (by simp)⟩
structure Rd (w0 w : World) (g : Nat) (s : List Int) (at_ : Nat) : Prop where
  is : IsR w0 w g s at_
  below : Below w0.heap.size w0 w
  bytes : Bytes s
  small : s.length ≤ 140737488355328
  le : at_ ≤ s.length
set_option maxHeartbeats 1000000 in
theorem New_calls (A : Option Addr) (n c : Nat) (l : List Int) (w : World) (hr : Bs.C w A n l) (hn : l.length = n) (hc : n ≤ c) (hl : n ≤ 140737488355328) (hb : Bytes l) :
    Calls Try.prog 40 #[.slice A n c] w fun e w' => ∃ g w0, e = .returned (.pointer (some ⟨g, 0, none⟩)) ∧ Rd w0 w' g l 0 ∧ Below w.heap.size w w' ∧ w.heap.size ≤ w0.heap.size := by
  subst hn
  have HR := Aside0.mk hr
  have HC := Aside0.mk hc
  clear hr hc
  go_enter Try.func40, Try.ntmps40
  go_wp2_with fail
  refine (clone_calls A c l _ HR.out HC.out hl).mono ?_
  rintro e w1 ⟨u, rfl, hu, hb1⟩
  obtain ⟨A1, c1, rfl, hc1, hr1⟩ := Kd.R_reads hu
  have HR1 := Aside0.mk hr1
  have HC1 := Aside0.mk hc1
  have HB1 := Aside0.mk hb1
  clear hu hr1 hc1 hb1
  go_wp2
  go_ret
  exact ⟨w1.heap.size, w1, rfl, ⟨IsS105.new w1 w1 A1 c1 l 0 (Below.refl _ _) HR1.out HC1.out, below_alloc (Below.refl _ _) _, hb, hl, Nat.zero_le _⟩, below_alloc HB1.out _, HB1.out.size⟩
def textR (s : List Int) (at_ : Nat) (most : Int) : List Int × Nat × Int :=
  if (smallR s at_ (max most 0)).2.2 ≠ 0 then ([], 0, (smallR s at_ (max most 0)).2.2)
  else if (s.length : Int) - ((at_ + (smallR s at_ (max most 0)).2.1 : Nat) : Int) < (smallR s at_ (max most 0)).1 then ([], 0, 1)
  else ((s.drop (at_ + (smallR s at_ (max most 0)).2.1)).take (smallR s at_ (max most 0)).1.toNat, (smallR s at_ (max most 0)).2.1 + (smallR s at_ (max most 0)).1.toNat, 0)
theorem smallR_bd (s : List Int) (hs : Bytes s) (at_ : Nat) (hat : at_ ≤ s.length) (most : Int) : 0 ≤ (smallR s at_ most).1 ∧ (smallR s at_ most).1 < 4294967296 ∧ ((smallR s at_ most).2.2 = 0 → (smallR s at_ most).1 ≤ most) ∧ at_ + (smallR s at_ most).2.1 ≤ s.length ∧ 0 ≤ (smallR s at_ most).2.2 ∧ ((smallR s at_ most).2.2 ≠ 0 → (smallR s at_ most).1 = 0 ∧ (smallR s at_ most).2.1 = 0) := by
  have key : ∀ x n e, small0 s at_ = (x, n, e) → 0 ≤ x ∧ x < 4294967296 ∧ at_ + n ≤ s.length ∧ 0 ≤ e := by
    intro x n e h
    unfold small0 at h
    by_cases c1 : s.length ≤ at_
    · rw [if_pos c1] at h; simp only [Prod.mk.injEq] at h; obtain ⟨rfl, rfl, rfl⟩ := h; exact ⟨by omega, by omega, hat, by omega⟩
    · obtain ⟨hb0, hb1⟩ := hs.get at_ (by omega)
      rw [if_neg c1] at h
      by_cases c2 : s.getD at_ 0 < 251
      · rw [if_pos c2] at h; simp only [Prod.mk.injEq] at h; obtain ⟨rfl, rfl, rfl⟩ := h; exact ⟨hb0, by omega, by omega, by omega⟩
      · rw [if_neg c2] at h
        by_cases c3 : s.getD at_ 0 = 255
        · rw [if_pos c3] at h; simp only [Prod.mk.injEq] at h; obtain ⟨rfl, rfl, rfl⟩ := h; exact ⟨by omega, by omega, hat, by omega⟩
        · rw [if_neg c3] at h
          by_cases c4 : (s.length : Int) - at_ - 1 < s.getD at_ 0 - 250
          · rw [if_pos c4] at h; simp only [Prod.mk.injEq] at h; obtain ⟨rfl, rfl, rfl⟩ := h; exact ⟨by omega, by omega, hat, by omega⟩
          · rw [if_neg c4] at h
            obtain ⟨m, hmm⟩ : ∃ m : Nat, s.getD at_ 0 - 250 = m := ⟨(s.getD at_ 0 - 250).toNat, by omega⟩
            rw [hmm, Int.toNat_natCast] at h
            have hl : ((s.drop (at_ + 1)).take m).length = m := by rw [List.length_take, List.length_drop]; omega
            obtain ⟨h1, h2⟩ := beF_bd ((s.drop (at_ + 1)).take m) ((hs.drop _).take _) 0 (by omega)
            rw [hl] at h2
            have h5 : ∀ e : Fin 5, (0 + 1 : Int) * 256 ^ e.val ≤ 4294967296 := by decide
            have h6 := h5 ⟨m, by omega⟩
            have h7 : be ((s.drop (at_ + 1)).take m) < 4294967296 := Int.lt_of_lt_of_le h2 h6
            split at h
            · simp only [Prod.mk.injEq] at h; obtain ⟨rfl, rfl, rfl⟩ := h; exact ⟨by omega, by omega, hat, by omega⟩
            · simp only [Prod.mk.injEq] at h; obtain ⟨rfl, rfl, rfl⟩ := h; exact ⟨h1, h7, by omega, by omega⟩
  obtain ⟨x, n, e, h⟩ : ∃ x n e, small0 s at_ = (x, n, e) := ⟨_, _, _, rfl⟩
  obtain ⟨k1, k2, k3, k4⟩ := key x n e h
  rw [smallR_of h]
  by_cases c : e = 0
  · rw [if_pos c]
    by_cases c' : x > most
    · rw [if_pos c']; exact ⟨by simp, by simp, by simp, hat, by simp, fun _ => ⟨rfl, rfl⟩⟩
    · rw [if_neg c']; exact ⟨k1, k2, fun _ => by simp only; omega, k3, k4, fun h => absurd c h⟩
  · rw [if_neg c]; exact ⟨by simp, by simp, fun h => absurd h c, hat, k4, fun _ => ⟨rfl, rfl⟩⟩
set_option maxRecDepth 100000 in
set_option maxHeartbeats 4000000 in
theorem RText_calls (g : Nat) (s : List Int) (at_ : Nat) (most : Int) (w0 w : World) (h : Rd w0 w g s at_) (hm0 : -9223372036854775808 ≤ most) (hm1 : most ≤ 9223372036854775807) :
    Calls Try.prog 42 #[.pointer (some ⟨g, 0, none⟩), .int .i64 most] w fun e w' => ∃ u, e = .returned (.tuple #[u, .int .i64 (textR s at_ most).2.2]) ∧ Bs.R 5 w' w.heap.size (fun _ => True) u (textR s at_ most).1 ∧
      Rd w0 w' g s (at_ + (textR s at_ most).2.1) ∧ KeepBut w w' g none := by
  have HS := Aside0.mk (Small_is s h.bytes (by have := h.small; omega) at_ h.le (max most 0))
  obtain ⟨k1, k2, k3, k4, k5, k6⟩ := smallR_bd s h.bytes at_ h.le (max most 0)
  generalize hq : smallR s at_ (max most 0) = q at HS k1 k2 k3 k4 k5 k6
  obtain ⟨x, n, er⟩ := q
  have H := Aside0.mk h
  have HQ := Aside0.mk hq
  simp only at k1 k2 k3 k4 k5 k6 HS
  have hlen := h.small
  obtain ⟨A0, c0, hg, ⟨hgw, hcap⟩, hC0⟩ := h.is
  have ca0 := cellS105_0 hg
  have ca1 := cellS105_1 hg
  clear h hq hg hgw hC0 hcap
  rcases (show (most < 0 ∧ max most 0 = 0) ∨ (0 ≤ most ∧ max most 0 = most) from by omega) with ⟨c0, hmx⟩ | ⟨c0, hmx⟩
  · rw [hmx] at HS k3
    by_cases c1 : er = 0
    · subst c1
      have hHM := HQ.out
      have HL : Aside0 (bin_Reader_left.f s ((at_ + n : Nat) : Int) = some ((s.length : Int) - ((at_ + n : Nat) : Int), ((at_ + n : Nat) : Int))) := ⟨by
        unfold bin_Reader_left.f
        rw [show wrap64 ((s.length : Int) - ((at_ + n : Nat) : Int)) = (s.length : Int) - ((at_ + n : Nat) : Int) from by clear HS hHM; unfold wrap64; omega]⟩
      clear hHM k3 k5 k6
      by_cases c2 : (s.length : Int) - ((at_ + n : Nat) : Int) < x
      · have hT : Aside0 (textR s at_ most = ([], 0, 1)) := ⟨by unfold textR; rw [HQ.out, if_neg (by simp), if_pos c2]⟩
        rw [hT.out]
        go_enter Try.func42, Try.ntmps42
        go_wp2_with fail
        refine (bin_Reader_Small.calls 9 g s at_ 0 x 0 ((at_ + n : Nat) : Int) w0 _ H.out.is H.out.below HS.out).mono ?_
        rintro e w1 ⟨rfl, hi, hb, hk⟩
        have HI := Aside0.mk hi; have HB := Aside0.mk hb; have HK := Aside0.mk hk
        clear hi hb hk ca0 ca1 hmx hm0 hm1 c0
        go_wp2_with fail
        refine (bin_Reader_left.calls g s ((at_ + n : Nat) : Int) _ _ w0 _ HI.out HB.out HL.out).mono ?_
        rintro e w2 ⟨rfl, hi, hb, hk⟩
        have HI2 := Aside0.mk hi; have HB2 := Aside0.mk hb; have HK2 := Aside0.mk hk
        obtain ⟨A2, c2', hg2, ⟨hgw2, hcap2⟩, hC2⟩ := hi
        have ca0 := cellS105_0 hg2
        have ca1 := cellS105_1 hg2
        have f1 := blk_frozen hg2 1
        clear hb hk hg2 hC2
        go_wp2
        go_ret2
        refine ⟨_, rfl, Kd.R_nil _ _ _ _ _, ⟨by rw [Nat.add_zero]; exact IsS105.set_1 HI2.out _, below_set HB2.out hgw2, H.out.bytes, H.out.small, by have := H.out.le; omega⟩, ?_⟩
        exact (HK.out.trans HK2.out (.inl rfl)).set_ 1 _
      · obtain ⟨y, rfl⟩ : ∃ y : Nat, x = y := ⟨x.toNat, by omega⟩
        have hT : Aside0 (textR s at_ most = ((s.drop (at_ + n)).take y, n + y, 0)) := ⟨by unfold textR; rw [HQ.out, if_neg (by simp), if_neg c2, Int.toNat_natCast]⟩
        rw [hT.out]
        have hy : at_ + n + y ≤ s.length := by omega
        clear k1 k2 k4 c2
        obtain ⟨i0, hi, hz0, hz1, hz2⟩ := info_parts info5
        have HZ := Aside0.mk hz1
        have HIi := Aside0.mk hi
        clear hi hz0 hz1 hz2
        go_enter Try.func42, Try.ntmps42
        go_wp2_with fail
        refine (bin_Reader_Small.calls 9 g s at_ 0 y 0 ((at_ + n : Nat) : Int) w0 _ H.out.is H.out.below HS.out).mono ?_
        rintro e w1 ⟨rfl, hi1, hb, hk⟩
        have HI := Aside0.mk hi1; have HB := Aside0.mk hb; have HK := Aside0.mk hk
        clear hi1 hb hk ca0 ca1 hmx hm0 hm1 c0
        go_wp2_with fail
        refine (bin_Reader_left.calls g s ((at_ + n : Nat) : Int) _ _ w0 _ HI.out HB.out HL.out).mono ?_
        rintro e w2 ⟨rfl, hi2, hb, hk⟩
        have HI2 := Aside0.mk hi2; have HB2 := Aside0.mk hb; have HK2 := Aside0.mk hk
        obtain ⟨A2, c2', hg2, ⟨hgw2, hcap2⟩, hC2⟩ := hi2
        have ca0 := cellS105_0 hg2
        have ca1 := cellS105_1 hg2
        have f1 := blk_frozen hg2 1
        clear hb hk hg2 hC2
        go_wp2_with fail
        obtain ⟨W3, hW3⟩ : ∃ W3, W3 = w2.setCell ⟨g, 1, none⟩ (.int .i64 ((at_ : Int) + n + y)) := ⟨_, rfl⟩
        have HI3 : Aside0 (IsS105 w0 W3 g s ((at_ : Int) + n + y)) := ⟨hW3 ▸ IsS105.set_1 HI2.out _⟩
        rw [← hW3]
        have HW3 := Aside0.mk hW3
        clear hW3 ca0 ca1 f1
        obtain ⟨A3, c3', hg3, ⟨hgw3, hcap3⟩, hC3⟩ := HI3.out
        have ca0 := cellS105_0 hg3
        have ca1 := cellS105_1 hg3
        have hcut : ∀ W : World, (Instr.slice 28 (.slice A3 s.length c3') (some (.int .i64 ((at_ : Int) + n))) (some (.int .i64 ((at_ : Int) + n + y))) none).run Try.prog W = .ok (.slice (if c3' = at_ + n then A3 else A3.map (·.add (at_ + n))) y (c3' - (at_ + n))) W := by
          intro W
          rw [cut_mid 28 5 .i64 .i64 Try.underlying28 HIi.out 1 HZ.out A3 s.length c3' ((at_ : Int) + n) ((at_ : Int) + n + y) (by omega) (by omega) (by omega) hcap3 W, show ((at_ : Int) + n).toNat = at_ + n by omega, show ((at_ : Int) + n + y).toNat = at_ + n + y by omega, Nat.mul_one, Nat.add_sub_cancel_left]
        have hmid := Kd.C_mid (lo := at_ + n) (hi := at_ + n + y) hC3 (by omega) hy hcap3
        rw [show (Kd.int IntKind.u8).sz = 1 from rfl, Nat.mul_one] at hmid
        obtain ⟨AD, hAD⟩ : ∃ AD, AD = (if c3' = at_ + n then A3 else A3.map (·.add (at_ + n))) := ⟨_, rfl⟩
        rw [← hAD] at hcut hmid
        have hly : ((s.take (at_ + n + y)).drop (at_ + n)) = ((s.drop (at_ + n)).take y) := by rw [List.drop_take, Nat.add_sub_cancel_left]
        have hln : ((s.drop (at_ + n)).take y).length = y := by rw [List.length_take, List.length_drop]; omega
        rw [hly] at hmid
        have HMID := Aside0.mk hmid
        have HLN := Aside0.mk hln
        have hcy : y ≤ c3' - (at_ + n) := by omega
        have HCY := Aside0.mk hcy
        have hy47 : y ≤ 140737488355328 := by omega
        have hB3 : Below w0.heap.size w0 W3 := by rw [HW3.out]; exact below_set HB2.out hgw2
        have HB3 := Aside0.mk hB3
        clear hmid hly hln hcy hAD hg3 hC3 hB3
        have ew1 : IntKind.i64.wrap (y : Int) = y := IntWalk.i64_in _ (by omega)
        have ew2 : IntKind.i64.wrap ((at_ : Int) + n) = (at_ : Int) + n := IntWalk.i64_in _ (by omega)
        go_still_tail 16, (by kernel_rfl)
        clear ew1 ew2 hcut ca0 ca1
        change wpList _ _ _ _ _ W3.drew
        go_wp2_with fail
        rw [← HLN.out]
        refine (clone_calls AD (c3' - (at_ + n)) ((s.drop (at_ + n)).take y) _ (Kd.C_drew (Kd.C_below HMID.out HB3.out)) (by rw [HLN.out]; exact HCY.out) (by rw [HLN.out]; exact hy47)).mono ?_
        rintro e w4 ⟨u, rfl, hu, hb4⟩
        have HU := Aside0.mk hu; have HB4 := Aside0.mk hb4
        clear hu hb4
        go_wp2
        go_ret2
        have hs4 := HB4.out.size
        have hk1 := HK.out.1
        have hk2 := HK2.out.1
        have hs3 : w2.heap.size = W3.heap.size := by rw [HW3.out]; simp
        have hI4 : IsS105 w0 w4 g s ((at_ + (n + y) : Nat) : Int) := by
          have h := IsS105.below (IsS105.drew HI3.out) HB4.out
          rw [show ((at_ + (n + y) : Nat) : Int) = (at_ : Int) + n + y by omega]
          exact h
        refine ⟨_, rfl, Kd.R_lower HU.out (by show w.heap.size ≤ W3.heap.size; omega), ⟨hI4, below_step (below_drew HB3.out) HB4.out, H.out.bytes, H.out.small, by omega⟩, ?_⟩
        have hk3 : KeepBut w2 W3 g none := by rw [HW3.out]; exact (KeepBut.refl w2 g none).set_ 1 _
        exact (HK.out.trans (HK2.out.trans hk3 (.inl rfl)) (.inl rfl)).trans (KeepBut.of_below (w := W3.drew) HB4.out g none) (.inl rfl)
    · have hT : Aside0 (textR s at_ most = ([], 0, er)) := ⟨by unfold textR; rw [HQ.out, if_pos c1]⟩
      rw [hT.out]
      obtain ⟨-, rfl⟩ := k6 c1
      have c1b : (er == 0) = false := beq_eq_false_iff_ne.2 c1
      have c1n : (er != 0) = true := bne_iff_ne.2 c1
      have HC1 := Aside0.mk c1
      clear c1
      go_enter Try.func42, Try.ntmps42
      go_wp2_with fail
      refine (bin_Reader_Small.calls 9 g s at_ 0 x er at_ w0 _ H.out.is H.out.below HS.out).mono ?_
      rintro e w1 ⟨rfl, hi, hb, hk⟩
      have HI := Aside0.mk hi; have HB := Aside0.mk hb; have HK := Aside0.mk hk
      clear hi hb hk
      go_wp2
      go_ret2
      exact ⟨_, rfl, Kd.R_nil _ _ _ _ _, ⟨HI.out, HB.out, H.out.bytes, H.out.small, H.out.le⟩, HK.out⟩
  · rw [hmx] at HS k3
    by_cases c1 : er = 0
    · subst c1
      have hHM := HQ.out
      have HL : Aside0 (bin_Reader_left.f s ((at_ + n : Nat) : Int) = some ((s.length : Int) - ((at_ + n : Nat) : Int), ((at_ + n : Nat) : Int))) := ⟨by
        unfold bin_Reader_left.f
        rw [show wrap64 ((s.length : Int) - ((at_ + n : Nat) : Int)) = (s.length : Int) - ((at_ + n : Nat) : Int) from by clear HS hHM; unfold wrap64; omega]⟩
      clear hHM k3 k5 k6
      by_cases c2 : (s.length : Int) - ((at_ + n : Nat) : Int) < x
      · have hT : Aside0 (textR s at_ most = ([], 0, 1)) := ⟨by unfold textR; rw [HQ.out, if_neg (by simp), if_pos c2]⟩
        rw [hT.out]
        go_enter Try.func42, Try.ntmps42
        go_wp2_with fail
        refine (bin_Reader_Small.calls 9 g s at_ most x 0 ((at_ + n : Nat) : Int) w0 _ H.out.is H.out.below HS.out).mono ?_
        rintro e w1 ⟨rfl, hi, hb, hk⟩
        have HI := Aside0.mk hi; have HB := Aside0.mk hb; have HK := Aside0.mk hk
        clear hi hb hk ca0 ca1 hmx hm0 hm1 c0
        go_wp2_with fail
        refine (bin_Reader_left.calls g s ((at_ + n : Nat) : Int) _ _ w0 _ HI.out HB.out HL.out).mono ?_
        rintro e w2 ⟨rfl, hi, hb, hk⟩
        have HI2 := Aside0.mk hi; have HB2 := Aside0.mk hb; have HK2 := Aside0.mk hk
        obtain ⟨A2, c2', hg2, ⟨hgw2, hcap2⟩, hC2⟩ := hi
        have ca0 := cellS105_0 hg2
        have ca1 := cellS105_1 hg2
        have f1 := blk_frozen hg2 1
        clear hb hk hg2 hC2
        go_wp2
        go_ret2
        refine ⟨_, rfl, Kd.R_nil _ _ _ _ _, ⟨by rw [Nat.add_zero]; exact IsS105.set_1 HI2.out _, below_set HB2.out hgw2, H.out.bytes, H.out.small, by have := H.out.le; omega⟩, ?_⟩
        exact (HK.out.trans HK2.out (.inl rfl)).set_ 1 _
      · obtain ⟨y, rfl⟩ : ∃ y : Nat, x = y := ⟨x.toNat, by omega⟩
        have hT : Aside0 (textR s at_ most = ((s.drop (at_ + n)).take y, n + y, 0)) := ⟨by unfold textR; rw [HQ.out, if_neg (by simp), if_neg c2, Int.toNat_natCast]⟩
        rw [hT.out]
        have hy : at_ + n + y ≤ s.length := by omega
        clear k1 k2 k4 c2
        obtain ⟨i0, hi, hz0, hz1, hz2⟩ := info_parts info5
        have HZ := Aside0.mk hz1
        have HIi := Aside0.mk hi
        clear hi hz0 hz1 hz2
        go_enter Try.func42, Try.ntmps42
        go_wp2_with fail
        refine (bin_Reader_Small.calls 9 g s at_ most y 0 ((at_ + n : Nat) : Int) w0 _ H.out.is H.out.below HS.out).mono ?_
        rintro e w1 ⟨rfl, hi1, hb, hk⟩
        have HI := Aside0.mk hi1; have HB := Aside0.mk hb; have HK := Aside0.mk hk
        clear hi1 hb hk ca0 ca1 hmx hm0 hm1 c0
        go_wp2_with fail
        refine (bin_Reader_left.calls g s ((at_ + n : Nat) : Int) _ _ w0 _ HI.out HB.out HL.out).mono ?_
        rintro e w2 ⟨rfl, hi2, hb, hk⟩
        have HI2 := Aside0.mk hi2; have HB2 := Aside0.mk hb; have HK2 := Aside0.mk hk
        obtain ⟨A2, c2', hg2, ⟨hgw2, hcap2⟩, hC2⟩ := hi2
        have ca0 := cellS105_0 hg2
        have ca1 := cellS105_1 hg2
        have f1 := blk_frozen hg2 1
        clear hb hk hg2 hC2
        go_wp2_with fail
        obtain ⟨W3, hW3⟩ : ∃ W3, W3 = w2.setCell ⟨g, 1, none⟩ (.int .i64 ((at_ : Int) + n + y)) := ⟨_, rfl⟩
        have HI3 : Aside0 (IsS105 w0 W3 g s ((at_ : Int) + n + y)) := ⟨hW3 ▸ IsS105.set_1 HI2.out _⟩
        rw [← hW3]
        have HW3 := Aside0.mk hW3
        clear hW3 ca0 ca1 f1
        obtain ⟨A3, c3', hg3, ⟨hgw3, hcap3⟩, hC3⟩ := HI3.out
        have ca0 := cellS105_0 hg3
        have ca1 := cellS105_1 hg3
        have hcut : ∀ W : World, (Instr.slice 28 (.slice A3 s.length c3') (some (.int .i64 ((at_ : Int) + n))) (some (.int .i64 ((at_ : Int) + n + y))) none).run Try.prog W = .ok (.slice (if c3' = at_ + n then A3 else A3.map (·.add (at_ + n))) y (c3' - (at_ + n))) W := by
          intro W
          rw [cut_mid 28 5 .i64 .i64 Try.underlying28 HIi.out 1 HZ.out A3 s.length c3' ((at_ : Int) + n) ((at_ : Int) + n + y) (by omega) (by omega) (by omega) hcap3 W, show ((at_ : Int) + n).toNat = at_ + n by omega, show ((at_ : Int) + n + y).toNat = at_ + n + y by omega, Nat.mul_one, Nat.add_sub_cancel_left]
        have hmid := Kd.C_mid (lo := at_ + n) (hi := at_ + n + y) hC3 (by omega) hy hcap3
        rw [show (Kd.int IntKind.u8).sz = 1 from rfl, Nat.mul_one] at hmid
        obtain ⟨AD, hAD⟩ : ∃ AD, AD = (if c3' = at_ + n then A3 else A3.map (·.add (at_ + n))) := ⟨_, rfl⟩
        rw [← hAD] at hcut hmid
        have hly : ((s.take (at_ + n + y)).drop (at_ + n)) = ((s.drop (at_ + n)).take y) := by rw [List.drop_take, Nat.add_sub_cancel_left]
        have hln : ((s.drop (at_ + n)).take y).length = y := by rw [List.length_take, List.length_drop]; omega
        rw [hly] at hmid
        have HMID := Aside0.mk hmid
        have HLN := Aside0.mk hln
        have hcy : y ≤ c3' - (at_ + n) := by omega
        have HCY := Aside0.mk hcy
        have hy47 : y ≤ 140737488355328 := by omega
        have hB3 : Below w0.heap.size w0 W3 := by rw [HW3.out]; exact below_set HB2.out hgw2
        have HB3 := Aside0.mk hB3
        clear hmid hly hln hcy hAD hg3 hC3 hB3
        have ew1 : IntKind.i64.wrap (y : Int) = y := IntWalk.i64_in _ (by omega)
        have ew2 : IntKind.i64.wrap ((at_ : Int) + n) = (at_ : Int) + n := IntWalk.i64_in _ (by omega)
        go_still_tail 16, (by kernel_rfl)
        clear ew1 ew2 hcut ca0 ca1
        change wpList _ _ _ _ _ W3.drew
        go_wp2_with fail
        rw [← HLN.out]
        refine (clone_calls AD (c3' - (at_ + n)) ((s.drop (at_ + n)).take y) _ (Kd.C_drew (Kd.C_below HMID.out HB3.out)) (by rw [HLN.out]; exact HCY.out) (by rw [HLN.out]; exact hy47)).mono ?_
        rintro e w4 ⟨u, rfl, hu, hb4⟩
        have HU := Aside0.mk hu; have HB4 := Aside0.mk hb4
        clear hu hb4
        go_wp2
        go_ret2
        have hs4 := HB4.out.size
        have hk1 := HK.out.1
        have hk2 := HK2.out.1
        have hs3 : w2.heap.size = W3.heap.size := by rw [HW3.out]; simp
        have hI4 : IsS105 w0 w4 g s ((at_ + (n + y) : Nat) : Int) := by
          have h := IsS105.below (IsS105.drew HI3.out) HB4.out
          rw [show ((at_ + (n + y) : Nat) : Int) = (at_ : Int) + n + y by omega]
          exact h
        refine ⟨_, rfl, Kd.R_lower HU.out (by show w.heap.size ≤ W3.heap.size; omega), ⟨hI4, below_step (below_drew HB3.out) HB4.out, H.out.bytes, H.out.small, by omega⟩, ?_⟩
        have hk3 : KeepBut w2 W3 g none := by rw [HW3.out]; exact (KeepBut.refl w2 g none).set_ 1 _
        exact (HK.out.trans (HK2.out.trans hk3 (.inl rfl)) (.inl rfl)).trans (KeepBut.of_below (w := W3.drew) HB4.out g none) (.inl rfl)
    · have hT : Aside0 (textR s at_ most = ([], 0, er)) := ⟨by unfold textR; rw [HQ.out, if_pos c1]⟩
      rw [hT.out]
      obtain ⟨-, rfl⟩ := k6 c1
      have c1b : (er == 0) = false := beq_eq_false_iff_ne.2 c1
      have c1n : (er != 0) = true := bne_iff_ne.2 c1
      have HC1 := Aside0.mk c1
      clear c1
      go_enter Try.func42, Try.ntmps42
      go_wp2_with fail
      refine (bin_Reader_Small.calls 9 g s at_ most x er at_ w0 _ H.out.is H.out.below HS.out).mono ?_
      rintro e w1 ⟨rfl, hi, hb, hk⟩
      have HI := Aside0.mk hi; have HB := Aside0.mk hb; have HK := Aside0.mk hk
      clear hi hb hk
      go_wp2
      go_ret2
      exact ⟨_, rfl, Kd.R_nil _ _ _ _ _, ⟨HI.out, HB.out, H.out.bytes, H.out.small, H.out.le⟩, HK.out⟩
end Go.Proofs.Ytpkfeepepbchlaa.Sb
