/- WireAnswers: the walk. -/
import Derived.Test.YtcffacpdjcfidaaWr10
namespace Go.Proofs.Ytcffacpdjcfidaa.Sb
open Go.RowKit Go.Proofs.YtcffacpdjcfidaaW.PrintWords Go.Proofs.YtcffacpdjcfidaaW.PrintLast Go.Proofs.YtcffacpdjcfidaaW.PrintMore Go.Proofs.Ytcffacpdjcfidaa.PW
set_option linter.unusedVariables false
set_option linter.unusedSimpArgs false

set_option maxRecDepth 20000 in
set_option maxHeartbeats 8000000 in
theorem WireAnswers_walk (num code : Int) (A : Option Addr) (n c : Nat) (bd : List Int) (B : Option Addr) (m d : Nat) (l : List ByteArray) (w : World) (hall : bd.length = n ∧ Bs.C w A n bd ∧ n ≤ c ∧ l.length = m ∧ Kd.C Kd.string w B m l ∧ m ≤ d ∧ ∀ z, z ∈ bd → (Lit.int .u8 z).wf = true) :
    Calls Try.prog 4 #[.agg #[.int .i64 num, .int .i64 code, .slice A n c, .slice B m d]] w fun e w' => e = .returned (.bool true) ∧ Below w.heap.size w w' := by
  obtain ⟨hl, hC, hc, hm, hD, hd, hw⟩ := hall
  subst hl
  subst hm
  have HY := Aside0.mk (wf_bytes hw)
  have HCC := Aside0.mk hc
  have HDD := Aside0.mk hd
  have HC := Aside0.mk hC
  have HD := Aside0.mk hD
  clear hw hc hC hD hd
  go_enter Try.func4, Try.ntmps4
  go_wp2_with fail
  generalize hW0 : w.alloc (Obj.cells #[.int .i64 num, .int .i64 code, .slice A bd.length c, .slice B l.length d] 38) = W0
  have hb0 : Below w.heap.size w W0 := by rw [← hW0]; exact below_alloc (Below.refl _ _) _
  have hP0 : W0.heap[w.heap.size]? = some (.cells #[.int .i64 num, .int .i64 code, .slice A bd.length c, .slice B l.length d] 38 (0, 0)) := by rw [← hW0]; exact blk_new _ _
  have hS0 : W0.heap.size = w.heap.size + 1 := by rw [← hW0]; simp
  have hC0 : Bs.C W0 A bd.length bd := Kd.C_below HC.out hb0
  have hD0 : Kd.C Kd.string W0 B l.length l := Kd.C_below HD.out hb0
  clear hW0
  refine (wakes_calls W0).mono ?_
  rintro e w1 ⟨rfl, hb1⟩
  have HB0 := Aside0.mk hb0; have HP0 := Aside0.mk hP0; have HC0 := Aside0.mk hC0; have HD0 := Aside0.mk hD0; have HB1 := Aside0.mk hb1
  clear hb0 hP0 hC0 hD0 hb1
  have fin : ∀ W, Below W0.heap.size W0 W → Below w.heap.size w W := fun W h => HB0.out.trans (h.mono HB0.out.size)
  have f0 : w1.cell? ⟨w.heap.size, 0, none⟩ = some (.int .i64 num) := (blk_cell (blk_below HP0.out HB1.out) 0).trans rfl
  have f1 : w1.cell? ⟨w.heap.size, 1, none⟩ = some (.int .i64 code) := (blk_cell (blk_below HP0.out HB1.out) 1).trans rfl
  have f2 : w1.cell? ⟨w.heap.size, 2, none⟩ = some (.slice A bd.length c) := (blk_cell (blk_below HP0.out HB1.out) 2).trans rfl
  have f3 : w1.cell? ⟨w.heap.size, 3, none⟩ = some (.slice B l.length d) := (blk_cell (blk_below HP0.out HB1.out) 3).trans rfl
  by_cases c1 : bd.length > 3000
  · have c1i : (3000 : Int) < (bd.length : Int) := by omega
    go_wp2_with fail
    go_ret
    exact ⟨rfl, fin _ HB1.out⟩
  have c1i : ¬ (3000 : Int) < (bd.length : Int) := by omega
  go_wp2_with fail
  refine (long_calls B l.length d l w1 (Kd.C_below HD0.out HB1.out) rfl HDD.out).mono ?_
  rintro e w2 ⟨b, rfl, hsm, nd, rfl⟩
  clear f0 f1 f2 f3
  cases b with
  | true =>
    go_wp2_with fail
    go_ret
    exact ⟨rfl, fin _ (pw_below_drewN HB1.out nd)⟩
  | false =>
  have hsm := hsm rfl
  have HB2 := Aside0.mk (pw_below_drewN HB1.out nd)
  generalize w1.drewN nd = w2 at HB2
  have f0 : w2.cell? ⟨w.heap.size, 0, none⟩ = some (.int .i64 num) := (blk_cell (blk_below HP0.out HB2.out) 0).trans rfl
  have f1 : w2.cell? ⟨w.heap.size, 1, none⟩ = some (.int .i64 code) := (blk_cell (blk_below HP0.out HB2.out) 1).trans rfl
  have f2 : w2.cell? ⟨w.heap.size, 2, none⟩ = some (.slice A bd.length c) := (blk_cell (blk_below HP0.out HB2.out) 2).trans rfl
  have f3 : w2.cell? ⟨w.heap.size, 3, none⟩ = some (.slice B l.length d) := (blk_cell (blk_below HP0.out HB2.out) 3).trans rfl
  go_wp2_with fail
  clear f0 f1 f2 f3
  obtain ⟨q, er, hq, hql, hgo⟩ : ∃ q er, ansB num code bd l = (q, er) ∧ q.length ≤ 190000 ∧ (er = 14 ∨ er = 0 ∧ Bytes q ∧ getN q = (num, code, bd, l, 0)) := by
    cases hK : okR num code bd.length l with
    | false => exact ⟨[], 14, ansB_no hK, by simp, .inl rfl⟩
    | true => obtain ⟨q, h1, h0, h2, h3, h4⟩ := ansB_ok hK HY.out; exact ⟨q, 0, h1, h2, .inr ⟨rfl, h3, h4⟩⟩
  have HGO := Aside0.mk hgo
  clear hgo
  have hA1 := PutAnswer_calls num code A bd.length c bd B d l w2 (by omega) (by omega) rfl HCC.out (Kd.C_below HC0.out HB2.out) (Kd.C_below HD0.out HB2.out)
  rw [hq] at hA1
  refine hA1.mono ?_
  clear hA1
  rintro e w3 ⟨u3, rfl, hu3, hb3⟩
  obtain ⟨A3, k3, rfl, hk3, hr3⟩ := Kd.R_reads hu3
  have HB3 := Aside0.mk (below_step HB2.out hb3); have HC3 := Aside0.mk hr3; have HK3 := Aside0.mk hk3
  clear hu3 hr3 hk3 hb3
  have f0 : w3.cell? ⟨w.heap.size, 0, none⟩ = some (.int .i64 num) := (blk_cell (blk_below HP0.out HB3.out) 0).trans rfl
  have f1 : w3.cell? ⟨w.heap.size, 1, none⟩ = some (.int .i64 code) := (blk_cell (blk_below HP0.out HB3.out) 1).trans rfl
  have f2 : w3.cell? ⟨w.heap.size, 2, none⟩ = some (.slice A bd.length c) := (blk_cell (blk_below HP0.out HB3.out) 2).trans rfl
  have f3 : w3.cell? ⟨w.heap.size, 3, none⟩ = some (.slice B l.length d) := (blk_cell (blk_below HP0.out HB3.out) 3).trans rfl
  go_wp2_with fail
  clear f0 f1 f2 f3
  have hA1 := refPutAnswer_calls num code A bd.length c bd B d l w3 (by omega) rfl HCC.out HDD.out (Kd.C_below HC0.out HB3.out) (Kd.C_below HD0.out HB3.out)
  rw [hq] at hA1
  refine hA1.mono ?_
  clear hA1 hq
  rintro e w4 ⟨u4, rfl, hu4, hb4⟩
  obtain ⟨A4, k4, rfl, hk4, hr4⟩ := Kd.R_reads hu4
  have HB4 := Aside0.mk (below_step HB3.out hb4); have HC4 := Aside0.mk hr4; have HK4 := Aside0.mk hk4; have HD4 := Aside0.mk (Kd.C_below HC3.out hb4)
  clear hu4 hr4 hk4 hb4
  go_wp2_with fail
  refine (same_calls_self A3 q.length k3 A4 q.length k4 q w4 HD4.out rfl HK3.out HC4.out rfl HK4.out (by omega)).mono ?_
  rintro e w5 ⟨rfl, nd5, rfl⟩
  have HB5 := Aside0.mk (pw_below_drewN HB4.out nd5)
  rcases HGO.out with h14 | ⟨h0, hqb, hqg⟩
  · subst h14
    go_wp2_with fail
    go_ret
    exact ⟨rfl, fin _ HB5.out⟩
  · subst h0
    have HQB := Aside0.mk hqb; have HQG := Aside0.mk hqg
    clear hqb hqg HGO
    go_wp2_with fail
    have hA1 := GetAnswer_calls A3 q.length k3 q (w4.drewN nd5) (Kd.C_drewN HD4.out _) rfl HK3.out (by omega) HQB.out
    rw [HQG.out] at hA1
    refine hA1.mono ?_
    clear hA1
    rintro e w7 ⟨u7, v7, rfl, hu7, hv7, hb7⟩
    obtain ⟨A7, k7, rfl, hk7, hr7⟩ := Kd.R_reads hu7
    obtain ⟨B7, j7, rfl, hj7, hs7⟩ := Kd.R_reads hv7
    have hb7' := below_step HB5.out hb7
    have hz7 := hb7'.size
    have HB7 := Aside0.mk hb7'; have HC7 := Aside0.mk hr7; have HK7 := Aside0.mk hk7; have HN7 := Aside0.mk hs7; have HJ7 := Aside0.mk hj7
    clear hu7 hr7 hk7 hb7 hb7' hv7 hs7 hj7
    have f0 : (w7.alloc (Obj.cells #[.int .i64 num, .int .i64 code, .slice A7 bd.length k7, .slice B7 l.length j7] 38)).cell? ⟨w.heap.size, 0, none⟩ = some (.int .i64 num) := (blk_cell (blk_alloc (blk_below HP0.out HB7.out) _) 0).trans rfl
    have f1 : (w7.alloc (Obj.cells #[.int .i64 num, .int .i64 code, .slice A7 bd.length k7, .slice B7 l.length j7] 38)).cell? ⟨w.heap.size, 1, none⟩ = some (.int .i64 code) := (blk_cell (blk_alloc (blk_below HP0.out HB7.out) _) 1).trans rfl
    have f2 : (w7.alloc (Obj.cells #[.int .i64 num, .int .i64 code, .slice A7 bd.length k7, .slice B7 l.length j7] 38)).cell? ⟨w.heap.size, 2, none⟩ = some (.slice A bd.length c) := (blk_cell (blk_alloc (blk_below HP0.out HB7.out) _) 2).trans rfl
    have f3 : (w7.alloc (Obj.cells #[.int .i64 num, .int .i64 code, .slice A7 bd.length k7, .slice B7 l.length j7] 38)).cell? ⟨w.heap.size, 3, none⟩ = some (.slice B l.length d) := (blk_cell (blk_alloc (blk_below HP0.out HB7.out) _) 3).trans rfl
    go_wp2_with fail
    refine (sameAnswer_calls num code bd l A7 bd.length k7 B7 l.length j7 A bd.length c B l.length d _ (Kd.C_alloc HC7.out _) rfl HK7.out (Kd.C_alloc HN7.out _) rfl HJ7.out (Kd.C_alloc (Kd.C_below HC0.out HB7.out) _) rfl HCC.out (Kd.C_alloc (Kd.C_below HD0.out HB7.out) _) rfl HDD.out (by omega) (by omega)).mono ?_
    rintro e w8 ⟨rfl, hb8⟩
    go_wp2_with fail
    go_ret
    exact ⟨rfl, fin _ (below_step (HB7.out.alloc hz7 _) hb8)⟩

end Go.Proofs.Ytcffacpdjcfidaa.Sb
