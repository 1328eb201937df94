/- A number, a small number and a text, put one behind the other, are taken again, and nothing is left: the walk of the law. -/
import Derived.Test.YthdnecehgacecaaBinOne
import Derived.Test.YthdnecehgacecaaBinSizes
namespace Go.Proofs.Ythdnecehgacecaa.Sb
open Go.RowKit Go.Proofs.YthdnecehgacecaaW.PrintWords Go.Proofs.YthdnecehgacecaaW.PrintLast Go.Proofs.YthdnecehgacecaaW.PrintMore Go.Proofs.Ythdnecehgacecaa.PB
set_option linter.unusedVariables false
set_option linter.unusedSimpArgs false

theorem be_spr : ∀ (n : Nat) (x : Int), 0 ≤ x → x < 256 ^ n → be (spr x n) = x := by
  intro n
  induction n with
  | zero => intro x h0 h1; simp at h1; have : x = 0 := by omega
            subst this; rfl
  | succ n ih =>
    intro x h0 h1
    have hp := p256_pos n
    rw [spr, be_snoc, ih (x / 256) (by omega) (by rw [Int.pow_succ] at h1; exact Int.ediv_lt_of_lt_mul (by decide) h1)]
    omega

theorem lt_wd (x : Int) (h0 : 0 ≤ x) (h1 : x < 4294967296) : ∃ m : Nat, wd x = m ∧ 1 ≤ m ∧ m ≤ 4 ∧ x < 256 ^ m := by
  unfold wd
  by_cases c1 : x < 256
  · rw [if_pos c1]; exact ⟨1, rfl, by omega, by omega, c1⟩
  · rw [if_neg c1]
    by_cases c2 : x < 65536
    · rw [if_pos c2]; exact ⟨2, rfl, by omega, by omega, c2⟩
    · rw [if_neg c2]
      by_cases c3 : x < 16777216
      · rw [if_pos c3]; exact ⟨3, rfl, by omega, by omega, c3⟩
      · rw [if_neg c3, if_pos h1]; exact ⟨4, rfl, by omega, by omega, h1⟩

theorem drop_mid (p q r : List Int) : (p ++ (q ++ r)).drop p.length = q ++ r := by simp
theorem getD_mid (p : List Int) (b : Int) (r : List Int) : (p ++ (b :: r)).getD p.length 0 = b := by simp
theorem drop_mid1 (p : List Int) (b : Int) (r : List Int) : (p ++ (b :: r)).drop (p.length + 1) = r := by
  rw [← List.drop_drop, show (p ++ (b :: r)).drop p.length = b :: r by simp]; rfl

/-- What is put as a small number is taken again. -/
theorem small_forth (p r : List Int) (x most : Int) (h0 : 0 ≤ x) (h1 : x < 4294967296) (hm : x ≤ most) : smallR (p ++ ((smallB x).1 ++ r)) p.length most = (x, (smallB x).1.length, 0) := by
  have key : small0 (p ++ ((smallB x).1 ++ r)) p.length = (x, (smallB x).1.length, 0) := by
    unfold smallB
    rw [if_neg (by omega)]
    by_cases c : x < 251
    · rw [if_pos c]
      unfold small0
      simp only [List.singleton_append, getD_mid]
      rw [if_neg (by simp), if_pos c]
      rfl
    · obtain ⟨m, hm, m1, m4, hx⟩ := lt_wd x h0 h1
      rw [if_neg c, hm, Int.toNat_natCast]
      unfold small0
      simp only [List.cons_append, getD_mid, drop_mid1]
      have e1 : (250 + (m : Int) - 250).toNat = m := by omega
      have e2 : (spr x m ++ r).take m = spr x m := by rw [List.take_append_of_le_length (by rw [spr_length]; omega), List.take_of_length_le (by rw [spr_length]; omega)]
      rw [if_neg (by simp), if_neg (by omega), if_neg (by omega), e1, e2, be_spr m x h0 hx, hm, if_neg (by simp [spr_length]; omega), if_neg (by omega), List.length_cons, spr_length, Nat.add_comm 1 m]
  rw [smallR_of key, if_pos rfl, if_neg (by omega)]

/-- What is put as a number of n bytes is taken again. -/
theorem num_forth (p r : List Int) (x : Int) (n : Nat) (h0 : 0 ≤ x) (h1 : x < 256 ^ n) (hn : 1 ≤ n) (h8 : n ≤ 8) : numR (p ++ (spr x n ++ r)) p.length n = (x, n, 0) := by
  unfold numR
  have e2 : (spr x n ++ r).take n = spr x n := by rw [List.take_append_of_le_length (by rw [spr_length]; omega), List.take_of_length_le (by rw [spr_length]; omega)]
  rw [if_neg (by omega), if_neg (by simp [spr_length]; omega), drop_mid, Int.toNat_natCast, e2, be_spr n x h0 h1]

/-- What is put as a text is taken again. -/
theorem text_forth (p r t : List Int) (most : Int) (ht : (t.length : Int) ≤ 65536) (hm : (t.length : Int) ≤ most) : textR (p ++ ((textB t).1 ++ r)) p.length most = (t, (textB t).1.length, 0) := by
  have e : (textB t).1 = (smallB (t.length : Int)).1 ++ t := by unfold textB; rw [if_neg (by omega)]
  unfold textR
  rw [e, List.append_assoc, show max most 0 = most by omega, small_forth p (t ++ r) (t.length : Int) most (by omega) (by omega) hm]
  simp only [Int.toNat_natCast]
  rw [if_neg (by simp), if_neg (by simp; omega), ← List.drop_drop, drop_mid, show ((smallB (t.length : Int)).1 ++ (t ++ r)).drop (smallB (t.length : Int)).1.length = t ++ r by simp, List.length_append]
  simp

theorem bytes_smallB (x : Int) (h0 : 0 ≤ x) : Bytes (smallB x).1 := by
  unfold smallB
  split
  · exact Bytes.nil
  · split
    · exact Bytes.cons h0 (by omega) Bytes.nil
    · have := wd_small x (by omega)
      have := wd_le x
      exact Bytes.cons (by omega) (by omega) (bytes_spr _ _)
theorem bytes_textB (t : List Int) (h : Bytes t) : Bytes (textB t).1 := by
  unfold textB
  split
  · exact Bytes.nil
  · exact (bytes_smallB _ (by omega)).append h
theorem bytes_numB (x n : Int) : Bytes (numB x n).1 := by
  unfold numB
  split
  · exact Bytes.nil
  · split
    · exact Bytes.nil
    · exact bytes_spr _ _

set_option maxRecDepth 100000 in
set_option maxHeartbeats 4000000 in
theorem BinBack_walk (x : Int) (w0 : (Lit.int .u64 x).wf = true) (s : Int) (w1 : (Lit.int .u32 s).wf = true) (A : Option Addr) (len cap : Nat) (l : List Int) (w : World) (hl : l.length = len) (hC : Bs.C w A len l) (hc : len ≤ cap) (_hm : len ≤ maxLen) (hw : ∀ z, z ∈ l → (Lit.int .u8 z).wf = true) :
    Calls Try.prog 8 #[.int .u64 x, .int .u32 s, .slice A len cap] w fun e w' => e = .returned (.bool true) ∧ Below w.heap.size w w' := by
  obtain ⟨hx0, hx1⟩ := wf_u64 w0
  obtain ⟨hs0, hs1⟩ := wf_u32 w1
  have HB0 := Aside0.mk (wf_bytes hw)
  have HC := Aside0.mk hC
  have HL := Aside0.mk hl
  have HCC := Aside0.mk hc
  have HX := Aside0.mk hx1
  clear hC hw hl _hm w0 w1 hx1
  by_cases c1 : (len : Int) > 2000
  · go_enter Try.func8, Try.ntmps8
    go_wp2_with fail
    refine (wakes01_calls _).mono ?_
    rintro e w1 ⟨rfl, hb1⟩
    have HB1 := Aside0.mk hb1
    clear hb1
    go_wp2
    go_ret
    exact ⟨rfl, HB1.out⟩
  have hlen : len ≤ 2000 := by omega
  have hn1 : numB x 8 = (spr x 8, 0) := by unfold numB; rw [if_neg (by omega), if_neg (by have := (wd_le x).2; omega)]; rfl
  obtain ⟨hs2, hsl⟩ := smallB_len s hs0 hs1
  obtain ⟨q, hq⟩ : ∃ q, smallB s = (q, 0) := ⟨(smallB s).1, Prod.ext rfl hs2⟩
  have ht2 : (textB l).2 = 0 := by unfold textB; rw [if_neg (by have := HL.out; omega)]
  obtain ⟨y, hy⟩ : ∃ y, textB l = (y, 0) := ⟨(textB l).1, Prod.ext rfl ht2⟩
  have hql : q.length ≤ 9 := by have := smallB_length s; rw [hq] at this; exact this
  have hyl : y.length ≤ 2009 := by have := textB_length l; rw [hy] at this; have := HL.out; simp only at *; omega
  have hf1 : numR (spr x 8 ++ (q ++ y)) 0 8 = (x, 8, 0) := by
    have := num_forth [] (q ++ y) x 8 hx0 (by have := HX.out; unfold M64 at this; exact this) (by omega) (by omega)
    simpa using this
  have hf2 : smallR (spr x 8 ++ (q ++ y)) 8 4294967295 = (s, q.length, 0) := by
    have := small_forth (spr x 8) y s 4294967295 hs0 hs1 (by omega)
    rw [hq, spr_length] at this
    exact this
  have hf3 : textR (spr x 8 ++ (q ++ y)) (8 + q.length) (len : Int) = (l, y.length, 0) := by
    have := text_forth (spr x 8 ++ q) [] l (len : Int) (by have := HL.out; omega) (by have := HL.out; omega)
    rw [hy, List.length_append, spr_length] at this
    simpa using this
  have hbb : Bytes (spr x 8 ++ (q ++ y)) := by
    have h1 := bytes_smallB s hs0
    have h2 := bytes_textB l HB0.out
    rw [hq] at h1
    rw [hy] at h2
    exact (bytes_spr _ _).append (h1.append h2)
  have hall : (spr x 8 ++ (q ++ y)).length = 8 + q.length + y.length := by simp [spr_length]; omega
  generalize hz : spr x 8 = z at hn1 hf1 hf2 hf3 hbb hall
  have hzl : z.length = 8 := by rw [← hz, spr_length]
  have N1 := Aside0.mk hn1; have N2 := Aside0.mk hq; have N3 := Aside0.mk hy
  have F1 := Aside0.mk hf1; have F2 := Aside0.mk hf2; have F3 := Aside0.mk hf3; have FB := Aside0.mk hbb; have FL := Aside0.mk hall
  have HS1 : Aside0 (s < M64) := ⟨by unfold M64; omega⟩
  have HZL := Aside0.mk hzl
  clear hn1 hq hy hf1 hf2 hf3 hbb hall hs2 hsl ht2 hz hzl
  go_enter Try.func8, Try.ntmps8
  go_wp2_with fail
  refine (wakes01_calls _).mono ?_
  rintro e w1 ⟨rfl, hb1⟩
  have HB1 := Aside0.mk hb1
  clear hb1
  go_wp2_with fail
  refine (Num_to N1.out _ hx0 HX.out (blk_new _ _) (Kd.R_nil _ _ _ w1.heap.size _) (Nat.le_refl _) (by simp)).mono ?_
  rintro e w2 ⟨rfl, v2, h2⟩
  have H2 := Aside0.mk h2; clear h2
  go_wp2_with fail
  refine (Small_to N2.out _ hs0 HS1.out H2.out.blk H2.out.row (Nat.le_refl _) (by have := HZL.out; simp; omega)).mono ?_
  rintro e w3 ⟨rfl, v3, h3⟩
  have H3 := Aside0.mk h3; clear h3
  have hb13 : Below w1.heap.size w1 w3 := (below_alloc (Below.refl _ _) _).trans (H2.out.below.trans H3.out.below)
  have HB13 := Aside0.mk hb13
  clear hb13
  go_wp2_with fail
  refine (Text_to N3.out _ H3.out.blk H3.out.row (Nat.le_refl _) (foot_old HC.out (below_step HB1.out HB13.out) HB1.out.size HB1.out.size H3.out.row) HL.out HCC.out (by have := HZL.out; simp; omega)).mono ?_
  rintro e w4 ⟨rfl, v4, h4⟩
  have H4 := Aside0.mk h4; clear h4
  go_wp2_with fail
  refine (Out_calls w1.heap.size w1.heap.size v4 _ _ H4.out.blk H4.out.row (by have := HZL.out; simp; omega)).mono ?_
  rintro e w5 ⟨u, rfl, hu, hb5⟩
  have hu' : Bs.R 5 w5 w4.heap.size (fun _ => True) u (z ++ (q ++ y)) := by have h := hu; simpa using h
  obtain ⟨A5, c5, rfl, hc5, hr5⟩ := Kd.R_reads hu'
  have hlen5 : (z ++ (q ++ y)).length = z.length + (q.length + y.length) := by simp
  rw [hlen5] at hr5 hc5
  have HR5 := Aside0.mk hr5; have HC5 := Aside0.mk hc5; have HB5 := Aside0.mk hb5; have HL5 := Aside0.mk hlen5
  clear hu hu' hr5 hc5 hb5 hlen5
  go_wp2_with fail
  refine (New_calls A5 (z.length + (q.length + y.length)) c5 (z ++ (q ++ y)) _ HR5.out HL5.out HC5.out (by have := HZL.out; omega) FB.out).mono ?_
  rintro e w6 ⟨g, w0, rfl, hR, hb6, hw0⟩
  have HR6 := Aside0.mk hR; have HB6 := Aside0.mk hb6
  clear hR hb6
  go_wp2_with fail
  refine (RNum_calls g (z ++ (q ++ y)) 0 8 w0 _ HR6.out).mono ?_
  rw [F1.out]
  rintro e w7 ⟨rfl, hR, hk⟩
  have HR7 := Aside0.mk hR; have HK7 := Aside0.mk hk
  clear hR hk
  go_wp2_with fail
  refine (RSmall_calls g (z ++ (q ++ y)) 8 4294967295 w0 _ HR7.out).mono ?_
  rw [F2.out]
  rintro e w8 ⟨rfl, hR, hk⟩
  have HR8 := Aside0.mk hR; have HK8 := Aside0.mk hk
  clear hR hk
  go_wp2_with fail
  refine (RText_calls g (z ++ (q ++ y)) (8 + q.length) (len : Int) w0 _ HR8.out (by omega) (by omega)).mono ?_
  rw [F3.out]
  rintro e w9 ⟨u9, rfl, hu9, hR, hk⟩
  obtain ⟨A9, c9, rfl, hc9, hr9⟩ := Kd.R_reads hu9
  have HU9 := Aside0.mk hu9; have HC9 := Aside0.mk hc9; have HR9 := Aside0.mk hR; have HK9 := Aside0.mk hk
  clear hu9 hc9 hr9 hR hk
  have hb19 : Below w.heap.size w w9 := by
    have hs1 := HB1.out.size
    have h13 := HB13.out
    have h5 : Below w1.heap.size w1 w5 := (h13.trans H4.out.below).trans (HB5.out.mono (by have := h13.size; have := H4.out.keep.1; omega))
    have h6 : Below w1.heap.size w1 w6 := h5.trans (HB6.out.mono h5.size)
    have hw : w.heap.size ≤ w0.heap.size := by have := h5.size; omega
    have h7 := HR6.out.kept HR7.out HK7.out hw
    have h8 := HR7.out.kept HR8.out HK8.out hw
    have h9 := HR8.out.kept HR9.out HK9.out hw
    exact (HB1.out.trans (h6.mono hs1)).trans (h7.trans (h8.trans h9))
  have HB19 := Aside0.mk hb19
  clear hb19
  go_wp2_with fail
  refine (same_calls_self A9 l.length c9 A len cap l w9 (C_of_R HU9.out).1 rfl HC9.out (Kd.C_below HC.out HB19.out) HL.out HCC.out (by have := HL.out; omega)).mono ?_
  rintro e w10 ⟨rfl, nd, rfl⟩
  have hend : endR (z ++ (q ++ y)) (8 + q.length + y.length) = 0 := by unfold endR; rw [if_pos FL.out]
  have HEN := Aside0.mk hend
  clear hend
  go_wp2_with fail
  refine (REnd_calls g (z ++ (q ++ y)) (8 + q.length + y.length) w0 _ (HR9.out.later (pw_below_drewN (Below.refl _ _) _))).mono ?_
  rw [HEN.out]
  rintro e w11 ⟨rfl, hR, hk⟩
  have hw : w.heap.size ≤ w0.heap.size := by
    have h13 := HB13.out
    have := HB1.out.size
    have := h13.size
    have := H4.out.keep.1
    have := HB5.out.size
    omega
  have h11 := (HR9.out.later (pw_below_drewN (Below.refl _ _) nd)).kept hR hk hw
  have HB11 : Aside0 (Below w.heap.size w w11) := ⟨(pw_below_drewN HB19.out nd).trans h11⟩
  clear hR hk h11 hw
  go_wp2
  go_ret
  exact ⟨rfl, HB11.out⟩
end Go.Proofs.Ythdnecehgacecaa.Sb
