/- WireAsks: the walk. -/
import Derived.Test.YtcffacpdjcfidaaWr6
namespace Go.Proofs.Ytcffacpdjcfidaa.Sb
open Go.RowKit Go.Proofs.YtcffacpdjcfidaaW.PrintWords Go.Proofs.YtcffacpdjcfidaaW.PrintLast Go.Proofs.YtcffacpdjcfidaaW.PrintMore Go.Proofs.Ytcffacpdjcfidaa.PW
set_option linter.unusedVariables false
set_option linter.unusedSimpArgs false

theorem sameAsk_is (kind num : Int) (name : ByteArray) (bd : List Int) (hm : bd.length ≤ 140737488355328) : scriniumref16_SameAsk.f (bd.length + 1) kind num name bd kind num name bd = some true := by
  unfold scriniumref16_SameAsk.f
  rw [if_pos rfl, if_pos rfl, if_pos rfl, same_self bd hm]
  rfl
theorem sameAsk_calls (kind num : Int) (name : ByteArray) (bd : List Int) (A0 : Option Addr) (n0 c0 : Nat) (A1 : Option Addr) (n1 c1 : Nat) (w : World) (hr0 : Bs.C w A0 n0 bd) (h0 : bd.length = n0) (hc0 : n0 ≤ c0) (hr1 : Bs.C w A1 n1 bd) (h1 : bd.length = n1) (hc1 : n1 ≤ c1) (hm : n0 ≤ 140737488355328) :
    Calls Try.prog 12 #[.agg #[.int .i64 kind, .int .i64 num, .string name, .slice A0 n0 c0], .agg #[.int .i64 kind, .int .i64 num, .string name, .slice A1 n1 c1]] w fun e w' => e = .returned (.bool true) ∧ Below w.heap.size w w' := by
  subst h0
  subst h1
  exact scriniumref16_SameAsk.calls (bd.length + 1) kind num name A0 c0 bd kind num name A1 c1 bd true w hr0 hc0 hr1 hc1 (sameAsk_is kind num name bd hm)

set_option maxRecDepth 20000 in
set_option maxHeartbeats 8000000 in
theorem WireAsks_walk (kind num : Int) (name : ByteArray) (A : Option Addr) (n c : Nat) (bd : List Int) (w : World) (hall : bd.length = n ∧ Bs.C w A n bd ∧ n ≤ c ∧ (Lit.int .i64 kind).wf = true ∧ (Lit.int .i64 num).wf = true ∧ ∀ z, z ∈ bd → (Lit.int .u8 z).wf = true) :
    Calls Try.prog 3 #[.agg #[.int .i64 kind, .int .i64 num, .string name, .slice A n c]] w fun e w' => e = .returned (.bool true) ∧ Below w.heap.size w w' := by
  obtain ⟨hl, hC, hc, _, _, hw⟩ := hall
  subst hl
  have HY := Aside0.mk (wf_bytes hw)
  have HCC := Aside0.mk hc
  have HC := Aside0.mk hC
  clear hw hc hC
  go_enter Try.func3, Try.ntmps3
  go_wp2_with fail
  generalize hW0 : w.alloc (Obj.cells #[.int .i64 kind, .int .i64 num, .string name, .slice A bd.length c] 24) = W0
  have hb0 : Below w.heap.size w W0 := by rw [← hW0]; exact below_alloc (Below.refl _ _) _
  have hP0 : W0.heap[w.heap.size]? = some (.cells #[.int .i64 kind, .int .i64 num, .string name, .slice A bd.length c] 24 (0, 0)) := by rw [← hW0]; exact blk_new _ _
  have hS0 : W0.heap.size = w.heap.size + 1 := by rw [← hW0]; simp
  have hC0 : Bs.C W0 A bd.length bd := Kd.C_below HC.out hb0
  clear hW0
  refine (wakes_calls W0).mono ?_
  rintro e w1 ⟨rfl, hb1⟩
  have HB0 := Aside0.mk hb0; have HP0 := Aside0.mk hP0; have HC0 := Aside0.mk hC0; have HB1 := Aside0.mk hb1
  clear hb0 hP0 hC0 hb1
  have fin : ∀ W, Below W0.heap.size W0 W → Below w.heap.size w W := fun W h => HB0.out.trans (h.mono HB0.out.size)
  have f0 : w1.cell? ⟨w.heap.size, 0, none⟩ = some (.int .i64 kind) := (blk_cell (blk_below HP0.out HB1.out) 0).trans rfl
  have f1 : w1.cell? ⟨w.heap.size, 1, none⟩ = some (.int .i64 num) := (blk_cell (blk_below HP0.out HB1.out) 1).trans rfl
  have f2 : w1.cell? ⟨w.heap.size, 2, none⟩ = some (.string name) := (blk_cell (blk_below HP0.out HB1.out) 2).trans rfl
  have f3 : w1.cell? ⟨w.heap.size, 3, none⟩ = some (.slice A bd.length c) := (blk_cell (blk_below HP0.out HB1.out) 3).trans rfl
  by_cases c1 : bd.length > 3000
  · have c1i : (3000 : Int) < (bd.length : Int) := by omega
    go_wp2_with fail
    go_ret
    exact ⟨rfl, fin _ HB1.out⟩
  have c1i : ¬ (3000 : Int) < (bd.length : Int) := by omega
  by_cases c2 : name.size > 200
  · have c2i : (200 : Int) < (name.size : Int) := by omega
    go_wp2_with fail
    go_ret
    exact ⟨rfl, fin _ HB1.out⟩
  have c2i : ¬ (200 : Int) < (name.size : Int) := by omega
  have hs1 := HB1.out.size
  have g3 : (w1.alloc (Obj.cells #[] 5)).cell? ⟨w.heap.size, 3, none⟩ = some (.slice A bd.length c) := (blk_cell (blk_alloc (blk_below HP0.out HB1.out) _) 3).trans rfl
  go_wp2_with (first | ((with_reducible refine gate_builtin (b := .append) (xs := #[.tmp 22, .tmp 24]) rfl ?_); at_builtin; refine Kd.R_append_row (Value.int .u8) (0 : Int) (h1 := fun _ => rfl) (w0 := W0) W0.heap.size rfl (.tmp 22) (.tmp 24) 22 5 (.int .u8 0) 1 rfl Try.underlying22 info5 rfl (by omega) (.slice (some ⟨w1.heap.size, 0, none⟩) 0 0) ([] : List Int) (bd) (A) (bd.length) (c) (fun _ => True) rfl rfl (fun _ _ => trivial) ?aO ?aR ?aB ?aS ?aL ?_; (case aO => exact Kd.R_of_own (World.ownsRow_made w1 #[] 0 hs1 (Nat.zero_le _) rfl) (fun _ _ => trivial)); (case aR => exact Kd.C_below HC0.out (HB1.out.alloc hs1 _)); (case aB => exact HB1.out.alloc hs1 _); (case aS => exact below_size (HB1.out.alloc hs1 _)); (case aL => simp; omega); intro v1 w2 ho hb hg hat; rw [List.nil_append] at ho; obtain ⟨A1, k1, rfl, hk1, hr1⟩ := Kd.R_reads ho; have HO := Aside0.mk hr1; have HK1 := Aside0.mk hk1; have HB2 := Aside0.mk hb; have hP2 := blk_below HP0.out hb; clear ho hb hg hat hr1 hk1 g3 f0 f1 f2 f3; have f0 : w2.cell? ⟨w.heap.size, 0, none⟩ = some (.int .i64 kind) := (blk_cell hP2 0).trans rfl; have f1 : w2.cell? ⟨w.heap.size, 1, none⟩ = some (.int .i64 num) := (blk_cell hP2 1).trans rfl; have f2 : w2.cell? ⟨w.heap.size, 2, none⟩ = some (.string name) := (blk_cell hP2 2).trans rfl; have f3 : w2.cell? ⟨w.heap.size, 3, none⟩ = some (.slice A bd.length c) := (blk_cell hP2 3).trans rfl; clear hP2))
  obtain ⟨q, er, hq, hql, hgo⟩ : ∃ q er, askB kind num name bd = (q, er) ∧ q.length ≤ 70000 ∧ (er = 14 ∨ er = 0 ∧ Bytes q ∧ getA q = (kind, num, bytesOf name, bd, 0)) := by
    cases hK : okA kind num name.size bd.length with
    | false => exact ⟨[], 14, askB_no hK, by simp, .inl rfl⟩
    | true => obtain ⟨q, h1, h2, h3, h4⟩ := askB_ok hK HY.out; exact ⟨q, 0, h1, h2, .inr ⟨rfl, h3, h4⟩⟩
  have HGO := Aside0.mk hgo
  clear hgo
  have hA1 := PutAsk_calls kind num name A1 bd.length k1 bd w2 (by omega) (by omega) rfl HK1.out HO.out
  rw [hq] at hA1
  refine hA1.mono ?_
  clear hA1
  rintro e w3 ⟨u3, rfl, hu3, hb3⟩
  obtain ⟨A3, k3, rfl, hk3, hr3⟩ := Kd.R_reads hu3
  have HB3 := Aside0.mk (below_step HB2.out hb3); have HC3 := Aside0.mk hr3; have HK3 := Aside0.mk hk3; have HO3 := Aside0.mk (Kd.C_below HO.out hb3)
  clear hu3 hr3 hk3 hb3 HO f0 f1 f2 f3
  have f0 : w3.cell? ⟨w.heap.size, 0, none⟩ = some (.int .i64 kind) := (blk_cell (blk_below HP0.out HB3.out) 0).trans rfl
  have f1 : w3.cell? ⟨w.heap.size, 1, none⟩ = some (.int .i64 num) := (blk_cell (blk_below HP0.out HB3.out) 1).trans rfl
  have f2 : w3.cell? ⟨w.heap.size, 2, none⟩ = some (.string name) := (blk_cell (blk_below HP0.out HB3.out) 2).trans rfl
  have f3 : w3.cell? ⟨w.heap.size, 3, none⟩ = some (.slice A bd.length c) := (blk_cell (blk_below HP0.out HB3.out) 3).trans rfl
  go_wp2_with fail
  clear f0 f1 f2 f3
  have hA1 := refPutAsk_calls kind num name A bd.length c bd w3 (by omega) rfl HCC.out (Kd.C_below HC0.out HB3.out)
  rw [hq] at hA1
  refine hA1.mono ?_
  clear hA1 hq
  rintro e w4 ⟨u4, rfl, hu4, hb4⟩
  obtain ⟨A4, k4, rfl, hk4, hr4⟩ := Kd.R_reads hu4
  have HB4 := Aside0.mk (below_step HB3.out hb4); have HC4 := Aside0.mk hr4; have HK4 := Aside0.mk hk4; have HO4 := Aside0.mk (Kd.C_below HO3.out hb4); have HD4 := Aside0.mk (Kd.C_below HC3.out hb4)
  clear hu4 hr4 hk4 hb4
  go_wp2_with fail
  refine (same_calls_self A3 q.length k3 A4 q.length k4 q w4 HD4.out rfl HK3.out HC4.out rfl HK4.out (by omega)).mono ?_
  rintro e w5 ⟨rfl, nd5, rfl⟩
  have f0 : (w4.drewN nd5).cell? ⟨w.heap.size, 0, none⟩ = some (.int .i64 kind) := (blk_cell (blk_drewN (blk_below HP0.out HB4.out) nd5) 0).trans rfl
  have f1 : (w4.drewN nd5).cell? ⟨w.heap.size, 1, none⟩ = some (.int .i64 num) := (blk_cell (blk_drewN (blk_below HP0.out HB4.out) nd5) 1).trans rfl
  have f2 : (w4.drewN nd5).cell? ⟨w.heap.size, 2, none⟩ = some (.string name) := (blk_cell (blk_drewN (blk_below HP0.out HB4.out) nd5) 2).trans rfl
  have f3 : (w4.drewN nd5).cell? ⟨w.heap.size, 3, none⟩ = some (.slice A bd.length c) := (blk_cell (blk_drewN (blk_below HP0.out HB4.out) nd5) 3).trans rfl
  go_wp2_with fail
  refine (same_calls_self A1 bd.length k1 A bd.length c bd (w4.drewN nd5) (Kd.C_drewN HO4.out _) rfl HK1.out (Kd.C_drewN (Kd.C_below HC0.out HB4.out) _) rfl HCC.out (by omega)).mono ?_
  rintro e w6 ⟨rfl, nd6, rfl⟩
  have HB6 := Aside0.mk (pw_below_drewN HB4.out (nd5 + nd6))
  rcases HGO.out with h14 | ⟨h0, hqb, hqg⟩
  · subst h14
    go_wp2_with fail
    go_ret
    exact ⟨rfl, fin _ HB6.out⟩
  · subst h0
    have HQB := Aside0.mk hqb; have HQG := Aside0.mk hqg
    clear hqb hqg HGO
    clear f0 f1 f2 f3
    go_wp2_with fail
    have hA1 := GetAsk_calls A3 q.length k3 q (w4.drewN (nd5 + nd6)) (Kd.C_drewN HD4.out _) rfl HK3.out hql HQB.out
    rw [HQG.out] at hA1
    simp only [str_bytesOf] at hA1
    refine hA1.mono ?_
    clear hA1
    rintro e w7 ⟨u7, rfl, hu7, hb7⟩
    obtain ⟨A7, k7, rfl, hk7, hr7⟩ := Kd.R_reads hu7
    have hb7' := below_step HB6.out hb7
    have hs7 := hb7'.size
    have HB7 := Aside0.mk hb7'; have HC7 := Aside0.mk hr7; have HK7 := Aside0.mk hk7
    clear hu7 hr7 hk7 hb7 hb7'
    have f0 : (w7.alloc (Obj.cells #[.int .i64 kind, .int .i64 num, .string name, .slice A7 bd.length k7] 24)).cell? ⟨w.heap.size, 0, none⟩ = some (.int .i64 kind) := (blk_cell (blk_alloc (blk_below HP0.out HB7.out) _) 0).trans rfl
    have f1 : (w7.alloc (Obj.cells #[.int .i64 kind, .int .i64 num, .string name, .slice A7 bd.length k7] 24)).cell? ⟨w.heap.size, 1, none⟩ = some (.int .i64 num) := (blk_cell (blk_alloc (blk_below HP0.out HB7.out) _) 1).trans rfl
    have f2 : (w7.alloc (Obj.cells #[.int .i64 kind, .int .i64 num, .string name, .slice A7 bd.length k7] 24)).cell? ⟨w.heap.size, 2, none⟩ = some (.string name) := (blk_cell (blk_alloc (blk_below HP0.out HB7.out) _) 2).trans rfl
    have f3 : (w7.alloc (Obj.cells #[.int .i64 kind, .int .i64 num, .string name, .slice A7 bd.length k7] 24)).cell? ⟨w.heap.size, 3, none⟩ = some (.slice A bd.length c) := (blk_cell (blk_alloc (blk_below HP0.out HB7.out) _) 3).trans rfl
    go_wp2_with fail
    refine (sameAsk_calls kind num name bd A7 bd.length k7 A bd.length c _ (Kd.C_alloc HC7.out _) rfl HK7.out (Kd.C_alloc (Kd.C_below HC0.out HB7.out) _) rfl HCC.out (by omega)).mono ?_
    rintro e w8 ⟨rfl, hb8⟩
    go_wp2_with fail
    go_ret
    exact ⟨rfl, fin _ (below_step (HB7.out.alloc hs7 _) hb8)⟩

end Go.Proofs.Ytcffacpdjcfidaa.Sb
