/- A small number has as few bytes as its size needs: the walk of the law. -/
import Derived.Test.YthdnecehgacecaaSb3
namespace Go.Proofs.Ythdnecehgacecaa.Sb
open Go.RowKit Go.Proofs.YthdnecehgacecaaW.PrintWords Go.Proofs.YthdnecehgacecaaW.PrintLast Go.Proofs.YthdnecehgacecaaW.PrintMore Go.Proofs.Ythdnecehgacecaa.PB
set_option linter.unusedVariables false
set_option linter.unusedSimpArgs false

theorem wf_u32 {a : Int} (h : (Lit.int .u32 a).wf = true) : 0 ≤ a ∧ a < 4294967296 := by
  simp [Lit.wf, IntKind.min, IntKind.max, IntKind.signed, IntKind.bits] at h
  omega
theorem wf_u64 {a : Int} (h : (Lit.int .u64 a).wf = true) : 0 ≤ a ∧ a < M64 := by
  simp [Lit.wf, IntKind.min, IntKind.max, IntKind.signed, IntKind.bits] at h
  unfold M64
  omega
theorem wf_i64 {a : Int} (h : (Lit.int .i64 a).wf = true) : -9223372036854775808 ≤ a ∧ a ≤ 9223372036854775807 := by
  simp [Lit.wf, IntKind.min, IntKind.max, IntKind.signed, IntKind.bits] at h
  omega

/-- how many bytes a small number is put in -/
theorem smallB_len (x : Int) (h0 : 0 ≤ x) (h1 : x < 4294967296) : (smallB x).2 = 0 ∧ ((smallB x).1.length : Int) = if x < 251 then 1 else 1 + wd x := by
  have := wd_le x
  unfold smallB
  rw [if_neg (by omega)]
  by_cases c : x < 251
  · rw [if_pos c, if_pos c]; exact ⟨rfl, rfl⟩
  · rw [if_neg c, if_neg c, List.length_cons, spr_length]
    exact ⟨rfl, by omega⟩

set_option maxHeartbeats 1000000 in
theorem BinSizes_walk (x : Int) (w0 : (Lit.int .u32 x).wf = true) (w : World) : Calls Try.prog 4 #[.int .u32 x] w fun e w' => e = .returned (.bool true) ∧ Below w.heap.size w w' := by
  obtain ⟨hx0, hx1⟩ := wf_u32 w0
  clear w0
  obtain ⟨hs2, hsl⟩ := smallB_len x hx0 hx1
  obtain ⟨q, hq⟩ : ∃ q, smallB x = (q, 0) := ⟨(smallB x).1, Prod.ext rfl hs2⟩
  rw [hq] at hsl
  have hwl := wd_le x
  have HQ := Aside0.mk hq
  have HL := Aside0.mk hsl
  have HW := Aside0.mk (refWidth_is x hx0 (by unfold M64; omega))
  have hql : q.length ≤ 9 := by have := smallB_length x; rw [hq] at this; exact this
  clear hs2 hsl hq
  have hM : Aside0 (x < M64) := ⟨by unfold M64; omega⟩
  go_enter Try.func4, Try.ntmps4
  go_wp2_with fail
  refine (wakes01_calls _).mono ?_
  rintro e w1 ⟨rfl, hb1⟩
  have HB1 := Aside0.mk hb1
  have hz1 := hb1.size
  clear hb1
  go_wp2_with fail
  refine (Small_to HQ.out _ hx0 hM.out (blk_new _ _) (Kd.R_nil _ _ _ w1.heap.size _) (Nat.le_refl _) (by simp)).mono ?_
  rintro e w2 ⟨rfl, v2, h2⟩
  have H2 := Aside0.mk h2; clear h2
  by_cases c : x < 251
  · go_wp2_with fail
    refine (Out_calls w1.heap.size w1.heap.size v2 _ _ H2.out.blk H2.out.row (by simp; omega)).mono ?_
    rintro e w4 ⟨u, rfl, hu, hb4⟩
    obtain ⟨A4, c4, rfl, hc4, hr4⟩ := Kd.R_reads hu
    have hl : q.length = 1 := by have := HL.out; rw [if_pos c] at this; omega
    have HB := Aside0.mk hb4
    clear hu hr4 hc4 hb4
    go_wp2
    go_ret
    exact ⟨rfl, below_step (below_step HB1.out ((below_alloc (Below.refl _ _) _).trans H2.out.below)) HB.out⟩
  · obtain ⟨m, hm⟩ : ∃ m : Nat, wd x = m := ⟨(wd x).toNat, by omega⟩
    rw [hm] at hwl HW
    have hl : q.length = 1 + m := by have := HL.out; rw [if_neg c, hm] at this; omega
    clear hm HL
    go_wp2_with fail
    with_reducible refine (scriniumref01_Width.calls 9 x m _ HW.out).mono ?_
    rintro e w3 ⟨rfl, ⟨nd, rfl⟩⟩
    go_wp2_with fail
    refine (Out_calls w1.heap.size w1.heap.size v2 _ _ (blk_drewN H2.out.blk _) (Kd.R_drewN H2.out.row _) (by simp; omega)).mono ?_
    rintro e w4 ⟨u, rfl, hu, hb4⟩
    obtain ⟨A4, c4, rfl, hc4, hr4⟩ := Kd.R_reads hu
    have HB := Aside0.mk hb4
    clear hu hr4 hc4 hb4
    go_wp2
    go_ret
    exact ⟨rfl, below_step (below_step HB1.out (pw_below_drewN ((below_alloc (Below.refl _ _) _).trans H2.out.below) _)) HB.out⟩
end Go.Proofs.Ythdnecehgacecaa.Sb
