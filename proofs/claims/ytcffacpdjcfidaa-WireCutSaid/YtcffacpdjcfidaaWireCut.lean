/- WireCut: the walk. -/
import Derived.Test.YtcffacpdjcfidaaWr11
namespace Go.Proofs.Ytcffacpdjcfidaa.Sb
open Go.RowKit Go.Proofs.YtcffacpdjcfidaaW.PrintWords Go.Proofs.YtcffacpdjcfidaaW.PrintLast Go.Proofs.YtcffacpdjcfidaaW.PrintMore Go.Proofs.Ytcffacpdjcfidaa.PW
set_option linter.unusedVariables false
set_option linter.unusedSimpArgs false

set_option maxRecDepth 20000 in
set_option maxHeartbeats 8000000 in
theorem WireCut_walk (num code : Int) (A : Option Addr) (n c : Nat) (bd : List Int) (B : Option Addr) (m d : Nat) (l : List ByteArray) (w : World) (hall : bd.length = n ∧ Bs.C w A n bd ∧ n ≤ c ∧ l.length = m ∧ Kd.C Kd.string w B m l ∧ m ≤ d ∧ ∀ z, z ∈ bd → (Lit.int .u8 z).wf = true) (nn : Int) (wn : (Lit.int .u16 nn).wf = true) (by_ : Int) (wb : (Lit.int .u8 by_).wf = true) :
    Calls Try.prog 5 #[.agg #[.int .i64 num, .int .i64 code, .slice A n c, .slice B m d], .int .u16 nn, .int .u8 by_] w fun e w' => e = .returned (.bool true) ∧ Below w.heap.size w w' := by
  obtain ⟨hl, hC, hc, hm, hD, hd, hw⟩ := hall
  subst hl
  subst hm
  have hnn : 0 ≤ nn ∧ nn ≤ 65535 := by simp [Lit.wf, IntKind.min, IntKind.max, IntKind.signed, IntKind.bits] at wn; omega
  have hby : 0 ≤ by_ ∧ by_ ≤ 255 := by exact wf_bytes (l := [by_]) (fun z hz => by rw [List.mem_singleton.1 hz]; exact wb) by_ (by simp)
  clear wn wb
  have HY := Aside0.mk (wf_bytes hw)
  have HCC := Aside0.mk hc
  have HDD := Aside0.mk hd
  have HC := Aside0.mk hC
  have HD := Aside0.mk hD
  clear hw hc hC hD hd
  go_enter Try.func5, Try.ntmps5
  go_wp2_with fail
  generalize hW0 : w.alloc (Obj.cells #[.int .i64 num, .int .i64 code, .slice A bd.length c, .slice B l.length d] 38) = W0
  have hb0 : Below w.heap.size w W0 := by rw [← hW0]; exact below_alloc (Below.refl _ _) _
  have hP0 : W0.heap[w.heap.size]? = some (.cells #[.int .i64 num, .int .i64 code, .slice A bd.length c, .slice B l.length d] 38 (0, 0)) := by rw [← hW0]; exact blk_new _ _
  have hS0 : W0.heap.size = w.heap.size + 1 := by rw [← hW0]; simp
  have hC0 : Bs.C W0 A bd.length bd := Kd.C_below HC.out hb0
  have hD0 : Kd.C Kd.string W0 B l.length l := Kd.C_below HD.out hb0
  clear hW0
  refine (wakes_calls W0).mono ?_
  rintro e w1 ⟨rfl, hb1⟩
  have HB0 := Aside0.mk hb0; have HP0 := Aside0.mk hP0; have HC0 := Aside0.mk hC0; have HD0 := Aside0.mk hD0; have HB1 := Aside0.mk hb1
  clear hb0 hP0 hC0 hD0 hb1
  have fin : ∀ W, Below W0.heap.size W0 W → Below w.heap.size w W := fun W h => HB0.out.trans (h.mono HB0.out.size)
  have f0 : w1.cell? ⟨w.heap.size, 0, none⟩ = some (.int .i64 num) := (blk_cell (blk_below HP0.out HB1.out) 0).trans rfl
  have f1 : w1.cell? ⟨w.heap.size, 1, none⟩ = some (.int .i64 code) := (blk_cell (blk_below HP0.out HB1.out) 1).trans rfl
  have f2 : w1.cell? ⟨w.heap.size, 2, none⟩ = some (.slice A bd.length c) := (blk_cell (blk_below HP0.out HB1.out) 2).trans rfl
  have f3 : w1.cell? ⟨w.heap.size, 3, none⟩ = some (.slice B l.length d) := (blk_cell (blk_below HP0.out HB1.out) 3).trans rfl
  by_cases c1 : bd.length > 3000
  · have c1i : (3000 : Int) < (bd.length : Int) := by omega
    go_wp2_with fail
    go_ret
    exact ⟨rfl, fin _ HB1.out⟩
  have c1i : ¬ (3000 : Int) < (bd.length : Int) := by omega
  go_wp2_with fail
  refine (long_calls B l.length d l w1 (Kd.C_below HD0.out HB1.out) rfl HDD.out).mono ?_
  rintro e w2 ⟨b, rfl, hsm, nd, rfl⟩
  clear f0 f1 f2 f3
  cases b with
  | true =>
    go_wp2_with fail
    go_ret
    exact ⟨rfl, fin _ (pw_below_drewN HB1.out nd)⟩
  | false =>
  have hsm := hsm rfl
  have HB2 := Aside0.mk (pw_below_drewN HB1.out nd)
  generalize w1.drewN nd = w2 at HB2
  have f0 : w2.cell? ⟨w.heap.size, 0, none⟩ = some (.int .i64 num) := (blk_cell (blk_below HP0.out HB2.out) 0).trans rfl
  have f1 : w2.cell? ⟨w.heap.size, 1, none⟩ = some (.int .i64 code) := (blk_cell (blk_below HP0.out HB2.out) 1).trans rfl
  have f2 : w2.cell? ⟨w.heap.size, 2, none⟩ = some (.slice A bd.length c) := (blk_cell (blk_below HP0.out HB2.out) 2).trans rfl
  have f3 : w2.cell? ⟨w.heap.size, 3, none⟩ = some (.slice B l.length d) := (blk_cell (blk_below HP0.out HB2.out) 3).trans rfl
  go_wp2_with fail
  clear f0 f1 f2 f3
  cases hK : okR num code bd.length l with
  | false =>
    have hA1 := PutAnswer_calls num code A bd.length c bd B d l w2 (by omega) (by omega) rfl HCC.out (Kd.C_below HC0.out HB2.out) (Kd.C_below HD0.out HB2.out)
    rw [ansB_no hK] at hA1
    refine hA1.mono ?_
    clear hA1
    rintro e w3 ⟨u3, rfl, hu3, hb3⟩
    obtain ⟨A3, k3, rfl, hk3, hr3⟩ := Kd.R_reads hu3
    have HB3 := Aside0.mk (below_step HB2.out hb3)
    clear hu3 hr3 hk3 hb3
    go_wp2_with fail
    go_ret
    exact ⟨rfl, fin _ HB3.out⟩
  | true =>
  obtain ⟨q, hq, hq5, hql, hqb, _⟩ := ansB_ok hK HY.out
  obtain ⟨k, hk⟩ : ∃ k, k = nn.toNat % q.length := ⟨_, rfl⟩
  have hkl : k < q.length := by rw [hk]; exact Nat.mod_lt _ (by omega)
  have hcut := getN_cut hK k (by rw [hq]; exact hkl)
  have hmore := getN_more hK by_
  rw [hq] at hcut hmore
  have HQB := Aside0.mk hqb; have HCUT := Aside0.mk hcut; have HMORE := Aside0.mk hmore
  clear hqb hcut hmore
  have hA1 := PutAnswer_calls num code A bd.length c bd B d l w2 (by omega) (by omega) rfl HCC.out (Kd.C_below HC0.out HB2.out) (Kd.C_below HD0.out HB2.out)
  rw [hq] at hA1
  refine hA1.mono ?_
  clear hA1 hq hK
  rintro e w3 ⟨u3, rfl, hu3, hb3⟩
  obtain ⟨A3, k3, rfl, hk3, hr3⟩ := Kd.R_reads hu3
  have HB3 := Aside0.mk (below_step HB2.out hb3); have HC3 := Aside0.mk hr3; have HK3 := Aside0.mk (show q.length ≤ k3 from hk3)
  have hz3 := HB3.out.size
  clear hu3 hr3 hb3
  have HKK := Aside0.mk hk
  clear hk hk3
  have E1 : IntKind.i64.wrap nn = nn := by rw [IntWalk.i64_in _ (by omega)]
  have E2 : nn.tmod (q.length : Int) = (k : Int) := by rw [Int.tmod_eq_emod_of_nonneg hnn.1, HKK.out, Int.natCast_emod, Int.toNat_of_nonneg hnn.1]
  have g1 : ((q.length : Int) == 0) = false := by rw [beq_eq_false_iff_ne]; omega
  have g2 : ¬ (q.length : Int) = 0 := by omega
  have g3 : (k : Int) ≤ (k3 : Int) := by have := HK3.out; omega
  have g4 : k ≤ k3 := by have := HK3.out; omega
  go_wp2_with fail
  clear E1 E2 g1 g2 g3
  have hA1 := GetAnswer_calls A3 k k3 (q.take k) w3 (by have := Kd.C_take (m := k) HC3.out (by omega); rwa [List.length_take, Nat.min_eq_left (by omega)] at this) (by rw [List.length_take]; omega) g4 (by omega) (Bytes.take HQB.out k)
  rw [HCUT.out] at hA1
  generalize getN (q.take k) = G at hA1
  obtain ⟨x0, x1, x2, x3, x4⟩ := G
  simp only at hA1
  refine hA1.mono ?_
  clear hA1
  rintro e w7 ⟨u7, v7, rfl, hu7, hv7, hb7⟩
  obtain ⟨A7, k7, rfl, _, _⟩ := Kd.R_reads hu7
  obtain ⟨B7, j7, rfl, _, _⟩ := Kd.R_reads hv7
  have hb7' := below_step HB3.out hb7
  have hz7 := hb7'.size
  have HB7 := Aside0.mk hb7'; have HC7 := Aside0.mk (Kd.C_below HC3.out hb7)
  clear hu7 hv7 hb7 hb7'
  have how := World.ownsRow_made (e := 5) (size := 1) (base := W0.heap.size) (w7.alloc (.cells #[.int .i64 x0, .int .i64 x1, .slice A7 x2.length k7, .slice B7 x3.length j7] 38)) #[] 0 (below_size (HB7.out.alloc hz7 _)) (Nat.zero_le _) rfl
  have hm8 : (w7.alloc (.cells #[.int .i64 x0, .int .i64 x1, .slice A7 x2.length k7, .slice B7 x3.length j7] 38)).heap.size = w7.heap.size + 1 := by simp
  rw [hm8] at how
  have HOW := Aside0.mk how
  clear how hm8
  go_wp2_with (first | ((with_reducible refine gate_builtin (b := .append) (xs := #[.tmp 46, .tmp 47]) rfl ?_); at_builtin; refine Kd.R_append_row (Value.int .u8) (0 : Int) (h1 := fun _ => rfl) (w0 := W0) W0.heap.size rfl (.tmp 46) (.tmp 47) 22 5 (.int .u8 0) 1 rfl Try.underlying22 info5 rfl (by omega) (.slice (some ⟨w7.heap.size + 1, 0, none⟩) 0 0) ([] : List Int) (q) (A3) (q.length) (k3) (fun _ => True) rfl rfl (fun _ _ => trivial) ?aO ?aR ?aB ?aS ?aL ?_; (case aO => exact Kd.R_of_own (HOW.out) (fun _ _ => trivial)); (case aR => exact Kd.C_alloc (Kd.C_alloc HC7.out _) _); (case aB => exact HB7.out.alloc hz7 _ |>.alloc (below_size (HB7.out.alloc hz7 _)) _); (case aS => exact below_size (HB7.out.alloc hz7 _ |>.alloc (below_size (HB7.out.alloc hz7 _)) _)); (case aL => simp; omega); intro v1 w9 ho hb hg hat; rw [List.nil_append] at ho; have HO1 := Aside0.mk ho; have HB9 := Aside0.mk hb; have hz9 := hb.size; clear ho hb hg hat) | ((with_reducible refine gate_builtin (b := .append) (xs := #[.tmp 48, .tmp 50]) rfl ?_); at_builtin; refine Kd.R_append_row (Value.int .u8) (0 : Int) (h1 := fun _ => rfl) (w0 := W0) W0.heap.size rfl (.tmp 48) (.tmp 50) 22 5 (.int .u8 0) 1 rfl Try.underlying22 info5 rfl (by omega) (v1) (q) ([by_]) (some ⟨w9.heap.size, 0, none⟩) (1) (1) (fun _ => True) rfl rfl (fun _ _ => trivial) ?aO ?aR ?aB ?aS ?aL ?_; (case aO => exact Kd.R_alloc HO1.out _); (case aR => exact C_lit_new .u8 5 w9 [by_] 1 _ (by rfl) rfl (by decide)); (case aB => exact HB9.out.alloc hz9 _); (case aS => exact below_size (HB9.out.alloc hz9 _)); (case aL => omega); intro v2 w10 ho hb hg hat; obtain ⟨q2, hq2⟩ : ∃ q2, q2 = q ++ [by_] := ⟨_, rfl⟩; rw [← hq2] at ho; have HQ2 := Aside0.mk hq2; obtain ⟨A8, k8, ev8, hk8, hr8⟩ := Kd.R_reads ho; subst ev8; have HC8 := Aside0.mk hr8; have HK8 := Aside0.mk hk8; have HB10 := Aside0.mk hb; clear ho hb hg hat hq2 hr8 hk8))
  have hA1 := GetAnswer_calls A8 q2.length k8 q2 w10 HC8.out rfl HK8.out (by rw [HQ2.out, List.length_append, List.length_singleton]; omega) (by rw [HQ2.out]; exact HQB.out.append (Bytes.cons hby.1 hby.2 Bytes.nil))
  rw [show (getN q2).2.2.2.2 = 2 by rw [HQ2.out]; exact HMORE.out] at hA1
  generalize getN q2 = G at hA1
  obtain ⟨y0, y1, y2, y3, y4⟩ := G
  simp only at hA1
  refine hA1.mono ?_
  clear hA1
  rintro e w11 ⟨u9, v9, rfl, hu9, hv9, hb9⟩
  obtain ⟨A9, k9, rfl, _, _⟩ := Kd.R_reads hu9
  obtain ⟨B9, j9, rfl, _, _⟩ := Kd.R_reads hv9
  have hb11 := below_step HB10.out hb9
  have HB11 := Aside0.mk hb11
  have hz11 := hb11.size
  clear hu9 hv9 hb9 hb11
  go_wp2_with fail
  go_ret
  exact ⟨rfl, fin _ (HB11.out.alloc hz11 _)⟩

end Go.Proofs.Ytcffacpdjcfidaa.Sb
