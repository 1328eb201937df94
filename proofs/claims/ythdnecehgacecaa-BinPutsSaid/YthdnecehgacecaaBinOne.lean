/- A small number has one way to be told: what is taken, put again, is the bytes that were taken. The walk of the law. -/
import Derived.Test.YthdnecehgacecaaSb5
namespace Go.Proofs.Ythdnecehgacecaa.Sb
open Go.RowKit Go.Proofs.YthdnecehgacecaaW.PrintWords Go.Proofs.YthdnecehgacecaaW.PrintLast Go.Proofs.YthdnecehgacecaaW.PrintMore Go.Proofs.Ythdnecehgacecaa.PB
set_option linter.unusedVariables false
set_option linter.unusedSimpArgs false

theorem wf_bytes {l : List Int} (h : ∀ z, z ∈ l → (Lit.int .u8 z).wf = true) : Bytes l := fun x hx => by
  have := h x hx
  simp [Lit.wf, IntKind.min, IntKind.max, IntKind.signed, IntKind.bits] at this
  omega

theorem be_snoc (l : List Int) (b : Int) : be (l ++ [b]) = 256 * be l + b := by simp [be, beF, List.foldl_append]
theorem spr_be : ∀ (n : Nat) (l : List Int), l.length = n → Bytes l → spr (be l) n = l := by
  intro n
  induction n with
  | zero => intro l h _; rw [List.eq_nil_of_length_eq_zero h]; rfl
  | succ n ih =>
    intro l h hb
    obtain ⟨l', y, rfl⟩ : ∃ l' y, l = l' ++ [y] := ⟨l.dropLast, l.getLast (by intro h'; simp [h'] at h), (List.dropLast_concat_getLast _).symm⟩
    have hy := hb y (by simp)
    have h1 := ih l' (by simpa using h) (fun x hx => hb x (by simp [hx]))
    rw [be_snoc, spr, show (256 * be l' + y) / 256 = be l' by omega, show (256 * be l' + y) % 256 = y by omega, h1]

/-- What was taken as a small number is put as the very bytes. -/
theorem small_back (s : List Int) (hs : Bytes s) (at_ : Nat) (hat : at_ ≤ s.length) (most : Int) (x : Int) (n : Nat) (h : smallR s at_ most = (x, n, 0)) : smallB x = ((s.drop at_).take n, 0) := by
  have h0 : small0 s at_ = (x, n, 0) := by
    obtain ⟨x', n', e', h'⟩ : ∃ x n e, small0 s at_ = (x, n, e) := ⟨_, _, _, rfl⟩
    rw [smallR_of h'] at h
    by_cases c : e' = 0
    · rw [if_pos c] at h
      by_cases c2 : x' > most
      · rw [if_pos c2] at h; simp at h
      · rw [if_neg c2] at h; rw [h', h]
    · rw [if_neg c] at h
      simp only [Prod.mk.injEq] at h
      exact absurd h.2.2 c
  unfold small0 at h0
  by_cases c1 : s.length ≤ at_
  · rw [if_pos c1] at h0; simp at h0
  · obtain ⟨hb0, hb1⟩ := hs.get at_ (by omega)
    rw [if_neg c1] at h0
    by_cases c2 : s.getD at_ 0 < 251
    · rw [if_pos c2] at h0
      simp only [Prod.mk.injEq] at h0
      obtain ⟨rfl, rfl, _⟩ := h0
      unfold smallB
      rw [if_neg (by omega), if_pos c2, drop_cons_getD s at_ (by omega)]
      simp
    · rw [if_neg c2] at h0
      by_cases c3 : s.getD at_ 0 = 255
      · rw [if_pos c3] at h0; simp at h0
      · rw [if_neg c3] at h0
        by_cases c4 : (s.length : Int) - at_ - 1 < s.getD at_ 0 - 250
        · rw [if_pos c4] at h0; simp at h0
        · rw [if_neg c4] at h0
          obtain ⟨m, hmm⟩ : ∃ m : Nat, s.getD at_ 0 - 250 = m := ⟨(s.getD at_ 0 - 250).toNat, by omega⟩
          rw [hmm, Int.toNat_natCast] at h0
          have hl : ((s.drop (at_ + 1)).take m).length = m := by rw [List.length_take, List.length_drop]; omega
          have hbb : Bytes ((s.drop (at_ + 1)).take m) := (hs.drop _).take _
          have hsp := spr_be m _ hl hbb
          by_cases c5 : be ((s.drop (at_ + 1)).take m) < 251 ∨ wd (be ((s.drop (at_ + 1)).take m)) ≠ m
          · rw [if_pos c5] at h0; simp at h0
          · rw [if_neg c5] at h0
            simp only [Prod.mk.injEq] at h0
            obtain ⟨rfl, rfl, _⟩ := h0
            obtain ⟨k1, k2⟩ := beF_bd ((s.drop (at_ + 1)).take m) hbb 0 (by omega)
            rw [hl] at k2
            have h5 : ∀ e : Fin 5, (0 + 1 : Int) * 256 ^ e.val ≤ 4294967296 := by decide
            have h6 := h5 ⟨m, by omega⟩
            have h7 : be ((s.drop (at_ + 1)).take m) < 4294967296 := Int.lt_of_lt_of_le k2 h6
            have hwd : wd (be ((s.drop (at_ + 1)).take m)) = m := Classical.byContradiction fun h => c5 (.inr h)
            unfold smallB
            rw [if_neg (by omega), if_neg (fun h => c5 (.inl h)), hwd, Int.toNat_natCast, hsp, drop_cons_getD s at_ (by omega), show (250 : Int) + m = s.getD at_ 0 by omega, Nat.add_comm 1 m]
            rfl

set_option maxRecDepth 100000 in
set_option maxHeartbeats 2000000 in
theorem BinOne_walk (A : Option Addr) (len cap : Nat) (l : List Int) (w : World) (hl : l.length = len) (hC : Bs.C w A len l) (hc : len ≤ cap) (_hm : len ≤ maxLen) (hw : ∀ z, z ∈ l → (Lit.int .u8 z).wf = true) :
    Calls Try.prog 6 #[.slice A len cap] w fun e w' => e = .returned (.bool true) ∧ Below w.heap.size w w' := by
  have HB0 := Aside0.mk (wf_bytes hw)
  have HC := Aside0.mk hC
  have HL := Aside0.mk hl
  have HCC := Aside0.mk hc
  clear hC hw hl _hm
  by_cases c1 : (len : Int) > 2000
  · go_enter Try.func6, Try.ntmps6
    go_wp2_with fail
    refine (wakes01_calls _).mono ?_
    rintro e w1 ⟨rfl, hb1⟩
    have HB1 := Aside0.mk hb1
    clear hb1
    go_wp2
    go_ret
    exact ⟨rfl, HB1.out⟩
  have hlen : len ≤ 2000 := by omega
  obtain ⟨x, n, er, hq⟩ : ∃ x n er, smallR l 0 4294967295 = (x, n, er) := ⟨_, _, _, rfl⟩
  obtain ⟨k1, k2, k3, k4, k5, k6⟩ := smallR_bd l HB0.out 0 (Nat.zero_le _) 4294967295
  rw [hq] at k1 k2 k3 k4 k5 k6
  simp only at k1 k2 k3 k4 k5 k6
  have HQ := Aside0.mk hq
  clear hq
  by_cases c2 : er = 0
  · subst c2
    have hback := small_back l HB0.out 0 (Nat.zero_le _) 4294967295 x n HQ.out
    rw [List.drop_zero] at hback
    have hrd := Kd.C_take (m := n) (by rw [HL.out]; exact HC.out : Bs.C w A l.length l) (by omega)
    have hql : (l.take n).length = n := by rw [List.length_take]; omega
    rw [hql] at hrd
    generalize l.take n = q at hback hrd hql
    have HRD := Aside0.mk hrd
    have HQL := Aside0.mk hql
    have HS := Aside0.mk hback
    clear hrd hql
    have hnl : n ≤ len := by have := HL.out; omega
    have HM : Aside0 (x < M64) := ⟨by unfold M64; omega⟩
    clear hback k3 k6 k2
    go_enter Try.func6, Try.ntmps6
    go_wp2_with fail
    refine (wakes01_calls _).mono ?_
    rintro e w1 ⟨rfl, hb1⟩
    have HB1 := Aside0.mk hb1
    clear hb1
    go_wp2_with fail
    refine (New_calls A len cap l _ (Kd.C_below HC.out HB1.out) HL.out HCC.out (by omega) HB0.out).mono ?_
    rintro e w2 ⟨g, w0, rfl, hR, hb2, hw0⟩
    have HR2 := Aside0.mk hR; have HB2 := Aside0.mk hb2
    clear hR hb2
    go_wp2_with fail
    refine (RSmall_calls g l 0 4294967295 w0 _ HR2.out).mono ?_
    rw [HQ.out]
    rintro e w3 ⟨rfl, hR, hk⟩
    have HR3 := Aside0.mk hR; have HK3 := Aside0.mk hk
    clear hR hk
    go_wp2_with fail
    refine (Small_to HS.out _ k1 HM.out (blk_new _ _) (Kd.R_nil _ _ _ w3.heap.size _) (Nat.le_refl _) (by simp)).mono ?_
    rintro e w4 ⟨rfl, v4, h4⟩
    have H4 := Aside0.mk h4
    clear h4
    go_wp2_with fail
    refine (Out_calls w3.heap.size w3.heap.size v4 _ _ H4.out.blk H4.out.row (by have := HQL.out; simp; omega)).mono ?_
    rintro e w5 ⟨u, rfl, hu, hb5⟩
    obtain ⟨A5, c5, rfl, hc5, hr5⟩ := Kd.R_reads hu
    have HU5 := Aside0.mk hu; have HC5 := Aside0.mk hc5; have HB5 := Aside0.mk hb5
    have hb35 : Below w3.heap.size w3 w5 := below_then ((below_alloc (Below.refl _ _) _).trans H4.out.below) (by have := H4.out.below.size; simp at this; omega) hb5
    have HB35 := Aside0.mk hb35
    clear hu hr5 hc5 hb5 hb35
    go_wp2_with fail
    refine (RAt_calls g l (0 + n) w0 _ (HR3.out.later HB35.out)).mono ?_
    rintro e w6 ⟨rfl, hR, hk⟩
    have HR6 := Aside0.mk hR; have HK6 := Aside0.mk hk
    clear hR hk
    obtain ⟨i0, hi, hz0, hz1, hz2⟩ := info_parts info5
    have hcut := cut_to 32 5 .i64 Try.underlying32 hi A len cap ((0 + n : Nat) : Int) (by omega) (by omega) HCC.out
    clear hi hz0 hz1 hz2
    go_wp2_with fail
    have hb16 : Below w.heap.size w w6 := by
      have h23 : Below w.heap.size w2 w3 := HR2.out.kept HR3.out HK3.out (by have := HB1.out.size; omega)
      have h56 : Below w.heap.size w5 w6 := (HR3.out.later HB35.out).kept HR6.out HK6.out (by have := HB1.out.size; omega)
      have h12 := HB1.out.trans (HB2.out.mono HB1.out.size)
      have hs3 : w.heap.size ≤ w3.heap.size := Nat.le_trans h12.size h23.size
      exact (h12.trans h23).trans ((HB35.out.mono hs3).trans h56)
    have HB16 := Aside0.mk hb16
    clear hb16 hcut
    refine (same_calls_self A5 _ c5 A n cap q w6 (C_of_R (R_over HU5.out (by have := (IsS76.lt HR3.out.is); have := H4.out.keep.1; simp at this; omega) HK6.out)).1 rfl HC5.out (Kd.C_below HRD.out HB16.out) HQL.out (by omega) (by have := HQL.out; simp; omega)).mono ?_
    rintro e w7 ⟨rfl, nd, rfl⟩
    go_wp2
    go_ret
    exact ⟨rfl, pw_below_drewN HB16.out _⟩
  · have c2b : (er != 0) = true := bne_iff_ne.2 c2
    obtain ⟨rfl, rfl⟩ := k6 c2
    have HM2 := Aside0.mk c2
    clear k3 k6 k2 c2
    go_enter Try.func6, Try.ntmps6
    go_wp2_with fail
    refine (wakes01_calls _).mono ?_
    rintro e w1 ⟨rfl, hb1⟩
    have HB1 := Aside0.mk hb1
    clear hb1
    go_wp2_with fail
    refine (New_calls A len cap l _ (Kd.C_below HC.out HB1.out) HL.out HCC.out (by omega) HB0.out).mono ?_
    rintro e w2 ⟨g, w0, rfl, hR, hb2, hw0⟩
    have HR2 := Aside0.mk hR; have HB2 := Aside0.mk hb2
    clear hR hb2
    go_wp2_with fail
    refine (RSmall_calls g l 0 4294967295 w0 _ HR2.out).mono ?_
    rw [HQ.out]
    rintro e w3 ⟨rfl, hR, hk⟩
    have HR3 := Aside0.mk hR; have HK3 := Aside0.mk hk
    clear hR hk
    go_wp2_with fail
    refine (RAt_calls g l (0 + 0) w0 _ HR3.out).mono ?_
    rintro e w6 ⟨rfl, hR, hk⟩
    have HR6 := Aside0.mk hR; have HK6 := Aside0.mk hk
    clear hR hk
    go_wp2
    go_ret
    have h23 : Below w.heap.size w2 w3 := HR2.out.kept HR3.out HK3.out (by have := HB1.out.size; omega)
    have h36 : Below w.heap.size w3 w6 := HR3.out.kept HR6.out HK6.out (by have := HB1.out.size; omega)
    exact ⟨rfl, ((HB1.out.trans (HB2.out.mono HB1.out.size)).trans h23).trans h36⟩
end Go.Proofs.Ythdnecehgacecaa.Sb
