import Derived.Test.YtpkfeepepbchlaaGSb1
import Derived.Test.YtpkfeepepbchlaaGSbP
namespace Go.Proofs.Ytpkfeepepbchlaa.Sb
open Go.RowKit Go.Proofs.YtpkfeepepbchlaaW.PrintWords Go.Proofs.YtpkfeepepbchlaaW.PrintLast Go.Proofs.YtpkfeepepbchlaaW.PrintMore Go.Proofs.Ytpkfeepepbchlaa.PK
set_option linter.unusedVariables false
set_option linter.unusedSimpArgs false
theorem WStep.nothing {w w' : World} {base g : Nat} {v : Value} {bs : List Int} (h : w.heap[g]? = some (.cells #[v] 93 (0, 0))) (hr : Bs.R 5 w base (fun _ => True) v bs) (hb : Below w.heap.size w w') (hbase : base ≤ w.heap.size) :
    ∃ v', WStep w w' base g v v' bs := ⟨v, (WStep.refl h hr).post hb hbase⟩
set_option maxHeartbeats 1000000 in
theorem Num_calls (base g : Nat) (v : Value) (bs : List Int) (x n : Int) (w : World) (hx0 : 0 ≤ x) (hx : x < M64)
    (hg : w.heap[g]? = some (.cells #[v] 93 (0, 0))) (hv : Bs.R 5 w base (fun _ => True) v bs) (hb0 : base ≤ g) (hl : bs.length + 8 ≤ 140737488355328) :
    Calls Try.prog 45 #[.pointer (some ⟨g, 0, none⟩), .int .u64 x, .int .i64 n] w fun e w' => e = .returned (.int .i64 (numB x n).2) ∧ ∃ v', WStep w w' base g v v' (bs ++ (numB x n).1) := by
  have hlt := blk_lt hg
  have HV := Aside0.mk hv
  have HG := Aside0.mk hg
  have HW := Aside0.mk (width_is x hx0 hx)
  clear hv hg hx0 hx
  by_cases c1 : n < 1
  · have hN : Aside0 (numB x n = ([], 14)) := ⟨by unfold numB; rw [if_pos (.inl c1)]⟩
    rw [hN.out]
    go_enter Try.func45, Try.ntmps45
    go_wp2
    go_ret
    exact ⟨rfl, by first | exact WStep.nothing HG.out HV.out (Below.refl _ _) (by omega) | (simp only [List.append_nil]; exact WStep.nothing HG.out HV.out (Below.refl _ _) (by omega))⟩
  by_cases c2 : n > 8
  · have hN : Aside0 (numB x n = ([], 14)) := ⟨by unfold numB; rw [if_pos (.inr c2)]⟩
    rw [hN.out]
    go_enter Try.func45, Try.ntmps45
    go_wp2
    go_ret
    exact ⟨rfl, by first | exact WStep.nothing HG.out HV.out (Below.refl _ _) (by omega) | (simp only [List.append_nil]; exact WStep.nothing HG.out HV.out (Below.refl _ _) (by omega))⟩
  by_cases c3 : wd x > n
  · have hN : Aside0 (numB x n = ([], 3)) := ⟨by unfold numB; rw [if_neg (by omega), if_pos c3]⟩
    rw [hN.out]
    go_enter Try.func45, Try.ntmps45
    go_wp2_with (first | (go_at_call 58; with_reducible refine (bin_width.calls 9 x (wd x) _ HW.out).mono ?_; rintro e w' ⟨rfl, ⟨nd, rfl⟩⟩))
    go_ret
    exact ⟨rfl, by first | exact WStep.nothing HG.out HV.out (pw_below_drewN (Below.refl _ _) _) (by omega) | (simp only [List.append_nil]; exact WStep.nothing HG.out HV.out (pw_below_drewN (Below.refl _ _) _) (by omega))⟩
  obtain ⟨m, rfl⟩ : ∃ m : Nat, n = m := ⟨n.toNat, by omega⟩
  have hN : Aside0 (numB x m = (spr x m, 0)) := ⟨by unfold numB; rw [if_neg (by omega), if_neg c3, Int.toNat_natCast]⟩
  rw [hN.out]
  have HS := Aside0.mk (spread_is x m (by omega))
  have HL := Aside0.mk (spr_length x m)
  go_enter Try.func45, Try.ntmps45
  go_wp2_with (first | (go_at_call 58; with_reducible refine (bin_width.calls 9 x (wd x) _ HW.out).mono ?_; rintro e w' ⟨rfl, ⟨nd, rfl⟩⟩) | (go_at_call 60; go_must (with_reducible refine (bin_spread.calls 9 x m (spr x m) _ HS.out).mono ?_); rintro e w1 ⟨u, rfl, hu, hb⟩; obtain ⟨A1, k1, rfl, hk1, hr1⟩ := Kd.R_reads hu; have HR1 := Aside0.mk hr1; have HK1 := Aside0.mk hk1; have HB1 := Aside0.mk hb; clear hu hr1 hk1 hb) | (go_at_call 59; go_must (with_reducible refine (put_calls base g v bs A1 k1 (spr x m) _ (blk_below (blk_drewN HG.out _) HB1.out) (Kd.R_below (Kd.R_drewN HV.out _) HB1.out) hb0 HR1.out HK1.out ?aL).mono ?_); (case aL => rw [HL.out]; omega); rintro e w2 ⟨rfl, v2, h2⟩; have H2 := Aside0.mk h2; clear h2))
  go_ret
  exact ⟨rfl, v2, WStep.pre (below_step (pw_below_drewN (Below.refl _ _) _) HB1.out) H2.out (by omega)⟩
set_option maxHeartbeats 1000000 in
theorem Small_calls (base g : Nat) (v : Value) (bs : List Int) (x : Int) (w : World) (hx0 : 0 ≤ x) (hx : x < M64)
    (hg : w.heap[g]? = some (.cells #[v] 93 (0, 0))) (hv : Bs.R 5 w base (fun _ => True) v bs) (hb0 : base ≤ g) (hl : bs.length + 9 ≤ 140737488355328) :
    Calls Try.prog 47 #[.pointer (some ⟨g, 0, none⟩), .int .u64 x] w fun e w' => e = .returned (.int .i64 (smallB x).2) ∧ ∃ v', WStep w w' base g v v' (bs ++ (smallB x).1) := by
  have hlt := blk_lt hg
  have HV := Aside0.mk hv
  have HG := Aside0.mk hg
  have HW := Aside0.mk (width_is x hx0 hx)
  clear hv hg hx
  by_cases c1 : x ≥ 4294967296
  · have hN : Aside0 (smallB x = ([], 3)) := ⟨by unfold smallB; rw [if_pos c1]⟩
    rw [hN.out]
    go_enter Try.func47, Try.ntmps47
    go_wp2
    go_ret
    exact ⟨rfl, by first | exact WStep.nothing HG.out HV.out (Below.refl _ _) (by omega) | (simp only [List.append_nil]; exact WStep.nothing HG.out HV.out (Below.refl _ _) (by omega))⟩
  by_cases c2 : x < 251
  · have hN : Aside0 (smallB x = ([x], 0)) := ⟨by unfold smallB; rw [if_neg c1, if_pos c2]⟩
    rw [hN.out]
    go_enter Try.func47, Try.ntmps47
    go_wp2_with fail
    refine (put_calls' base g v bs _ 1 1 [x] _ (blk_alloc HG.out _) (Kd.R_alloc HV.out _) hb0 (C_lit_new .u8 5 w [x] 1 _ (by rfl) rfl (by decide)) rfl (Nat.le_refl _) (by omega)).mono ?_
    rintro e w2 ⟨rfl, v2, h2⟩
    have H2 := Aside0.mk h2
    clear h2
    go_wp2
    go_ret
    exact ⟨rfl, v2, WStep.pre (below_alloc (Below.refl _ _) _) H2.out (by omega)⟩
  have hwl := wd_small x (by omega)
  have hwl' := wd_le x
  obtain ⟨m, hm⟩ : ∃ m : Nat, wd x = m := ⟨(wd x).toNat, by omega⟩
  rw [hm] at hwl hwl' HW
  have hN : Aside0 (smallB x = ((250 + (m : Int)) :: spr x m, 0)) := ⟨by unfold smallB; rw [if_neg c1, if_neg c2, hm, Int.toNat_natCast]⟩
  clear hm
  rw [hN.out]
  have HS := Aside0.mk (spread_is x m (by omega))
  have HL := Aside0.mk (spr_length x m)
  have hm1 : 1 ≤ m := by omega
  have hm4 : m ≤ 4 := by omega
  go_enter Try.func47, Try.ntmps47
  go_wp2_with fail
  with_reducible refine (bin_width.calls 9 x m _ HW.out).mono ?_
  rintro e w' ⟨rfl, ⟨nd, rfl⟩⟩
  go_wp2_with fail
  refine (put_calls' base g v bs _ 1 1 [251 + (m : Int) - 1] _ (blk_alloc (blk_drewN HG.out _) _) (Kd.R_alloc (Kd.R_drewN HV.out _) _) hb0 (C_lit_new .u8 5 (w.drewN nd) [251 + (m : Int) - 1] 1 _ (by rfl) rfl (by decide)) rfl (Nat.le_refl _) (by omega)).mono ?_
  rintro e w2 ⟨rfl, v2, h2⟩
  have H2 := Aside0.mk h2
  have hs2 := h2.keep.1
  clear h2
  go_wp2_with fail
  with_reducible refine (bin_spread.calls 9 x m (spr x m) _ HS.out).mono ?_
  rintro e w3 ⟨u, rfl, hu, hb⟩
  obtain ⟨A1, k1, rfl, hk1, hr1⟩ := Kd.R_reads hu
  have HR1 := Aside0.mk hr1
  have HK1 := Aside0.mk hk1
  have HB1 := Aside0.mk hb
  clear hu hr1 hk1 hb
  go_wp2_with fail
  refine (put_calls' base g v2 (bs ++ [251 + (m : Int) - 1]) A1 _ k1 (spr x m) _ (blk_below H2.out.blk HB1.out) (Kd.R_below H2.out.row HB1.out) hb0 HR1.out rfl HK1.out (by rw [HL.out, List.length_append]; simp; omega)).mono ?_
  rintro e w4 ⟨rfl, v4, h4⟩
  have H4 := Aside0.mk h4
  clear h4
  go_wp2
  go_ret
  have e1 : bs ++ (250 + (m : Int)) :: spr x m = bs ++ [251 + (m : Int) - 1] ++ spr x m := by
    rw [List.append_assoc, show 251 + (m : Int) - 1 = 250 + (m : Int) by omega]; rfl
  refine ⟨rfl, v4, ?_⟩
  rw [e1]
  exact (WStep.pre (below_alloc (pw_below_drewN (Below.refl _ _) _) _) (H2.out.post HB1.out (by simp; omega)) (by omega)).trans H4.out
set_option maxHeartbeats 1000000 in
theorem Text_calls (base g : Nat) (v : Value) (bs : List Int) (A : Option Addr) (n c : Nat) (l : List Int) (w : World)
    (hg : w.heap[g]? = some (.cells #[v] 93 (0, 0))) (hv : Bs.R 5 w base (fun _ => True) v bs) (hb0 : base ≤ g)
    (hf : ∀ W', KeepBut w W' g v.ownBlock → Bs.C W' A n l) (hn : l.length = n) (hc : n ≤ c) (hl : bs.length + n + 9 ≤ 140737488355328) :
    Calls Try.prog 46 #[.pointer (some ⟨g, 0, none⟩), .slice A n c] w fun e w' => e = .returned (.int .i64 (textB l).2) ∧ ∃ v', WStep w w' base g v v' (bs ++ (textB l).1) := by
  have hlt := blk_lt hg
  have HV := Aside0.mk hv
  have HG := Aside0.mk hg
  have HF := Aside0.mk hf
  have HC := Aside0.mk hc
  have HN0 := Aside0.mk hn
  clear hv hg hf hc hn
  by_cases c1 : (n : Int) > 65536
  · have hN : Aside0 (textB l = ([], 7)) := ⟨by unfold textB; rw [HN0.out, if_pos c1]⟩
    rw [hN.out]
    go_enter Try.func46, Try.ntmps46
    go_wp2
    go_ret
    exact ⟨rfl, by first | exact WStep.nothing HG.out HV.out (Below.refl _ _) (by omega) | (simp only [List.append_nil]; exact WStep.nothing HG.out HV.out (Below.refl _ _) (by omega))⟩
  have hN : Aside0 (textB l = ((smallB (n : Int)).1 ++ l, 0)) := ⟨by unfold textB; rw [HN0.out, if_neg c1]⟩
  rw [hN.out]
  have hs0 := smallB_length (n : Int)
  go_enter Try.func46, Try.ntmps46
  go_wp2_with fail
  refine (Small_calls base g v bs (n : Int) _ (by omega) (by unfold M64; omega) HG.out HV.out hb0 (by omega)).mono ?_
  rintro e w2 ⟨rfl, v2, h2⟩
  have H2 := Aside0.mk h2
  have hs2 := h2.keep.1
  clear h2
  go_wp2_with fail
  refine (put_calls' base g v2 (bs ++ (smallB (n : Int)).1) A n c l _ H2.out.blk H2.out.row hb0 (HF.out _ H2.out.keep) HN0.out HC.out (by rw [List.length_append]; omega)).mono ?_
  rintro e w4 ⟨rfl, v4, h4⟩
  have H4 := Aside0.mk h4
  clear h4
  go_wp2
  go_ret
  refine ⟨rfl, v4, ?_⟩
  rw [← List.append_assoc]
  exact H2.out.trans H4.out
set_option maxHeartbeats 1000000 in
theorem Out_calls (base g : Nat) (v : Value) (bs : List Int) (w : World)
    (hg : w.heap[g]? = some (.cells #[v] 93 (0, 0))) (hv : Bs.R 5 w base (fun _ => True) v bs) (hl : bs.length ≤ 140737488355328) :
    Calls Try.prog 48 #[.pointer (some ⟨g, 0, none⟩)] w fun e w' => ∃ u, e = .returned u ∧ Bs.R 5 w' w.heap.size (fun _ => True) u bs ∧ Below w.heap.size w w' := by
  obtain ⟨A, c, rfl, hc, hr⟩ := Kd.R_reads hv
  have c0 : w.cell? ⟨g, 0, none⟩ = some (.slice A bs.length c) := (blk_cell hg 0).trans rfl
  have HR := Aside0.mk hr
  have HC := Aside0.mk hc
  clear hr hc hg hv
  go_enter Try.func48, Try.ntmps48
  go_wp2_with fail
  refine (clone_calls A c bs _ HR.out HC.out hl).mono ?_
  rintro e w2 ⟨u, rfl, hu, hb⟩
  have HU := Aside0.mk hu
  have HB := Aside0.mk hb
  clear hu hb
  go_wp2
  go_ret
  exact ⟨u, rfl, HU.out, HB.out⟩
end Go.Proofs.Ytpkfeepepbchlaa.Sb
