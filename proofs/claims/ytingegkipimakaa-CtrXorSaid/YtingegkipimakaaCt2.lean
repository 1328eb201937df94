/- ctr: the walk of the reference's Count; added in two pieces it is the same. -/
import Derived.Test.YtingegkipimakaaCt1
namespace Go.Proofs.Ytingegkipimakaa.Ae
open Go.RowKit Go.Proofs.YtingegkipimakaaW.PrintWords Go.Proofs.YtingegkipimakaaW.PrintLast Go.Proofs.YtingegkipimakaaW.PrintMore Go.Proofs.Ytingegkipimakaa.PA
set_option linter.unusedVariables false
set_option linter.unusedSimpArgs false

theorem split_is (x q r c : Int) (x0 : 0 ≤ x) (x1 : x < 256) (q0 : 0 ≤ q) (r0 : 0 ≤ r) (r1 : r ≤ 1) (h : q + r = c) : q / 256 + (x + q % 256 + r) / 256 = (x + c) / 256 ∧ (x + q % 256 + r) % 256 = (x + c) % 256 ∧ (x + q % 256 + r) / 256 ≤ 1 ∧ 0 ≤ (x + q % 256 + r) / 256 := by
  subst h
  refine ⟨?_, ?_, ?_, ?_⟩ <;> omega
theorem quo_is (q : Int) (q0 : 0 ≤ q) (q1 : q < 18446744073709551616) : IntKind.u64.wrap (q.tdiv 256) = q / 256 := by
  rw [Int.tdiv_eq_ediv_of_nonneg q0]
  simp [IntKind.wrap, IntKind.bits, IntKind.signed]
  omega

attribute [local irreducible] cst cntL in
set_option maxHeartbeats 1000000 in
set_option maxRecDepth 20000 in
theorem refcount_calls (w : World) (fr : List Int) (n : Int) (hl : fr.length = 16) (hb : By fr) (h0 : 0 ≤ n) (h1 : n < 18446744073709551616) :
    Calls Try.prog 22 #[.agg (u8s fr), .int .u64 n] w fun e w' => e = .returned (.agg (u8s (cntL fr n))) ∧ Below w.heap.size w w' := by
  have HL := Aside0.mk hl
  have HB := Aside0.mk hb
  have HN := Aside0.mk (show 0 ≤ n ∧ n < 18446744073709551616 from ⟨h0, h1⟩)
  have HZ16 := Aside0.mk zs_length
  clear h0 h1 hl hb
  have S1 := Aside0.mk (((Hs.start w).new 24 fr).new 24 zs)
  rw [alloc_size] at S1
  go_enter Try.func22, Try.ntmps22
  go_wp2_with fail
  go_loopg [1, 5, 6] 16 (fun kq v1 v5 v6 w' => ∃ (k : Nat) (q r : Int), v1 = .int .u64 q ∧ v5 = .int .u64 r ∧ v6 = .int .i64 (k : Int) ∧ Aside0 (k + kq = 16) ∧ Aside0 (q + r = (cst fr n k).2 ∧ 0 ≤ q ∧ q < 18446744073709551616 ∧ 0 ≤ r ∧ r ≤ 1) ∧ Aside0 (Hs [(w.heap.size + 1, 24, zs), (w.heap.size, 24, (cst fr n k).1)] w w'))
  case atStart => exact ⟨0, n, 0, rfl, rfl, rfl, ⟨rfl⟩, ⟨by rw [cst_zero]; exact ⟨Int.add_zero n, HN.out.1, HN.out.2, Int.le_refl 0, by decide⟩⟩, ⟨by rw [cst_zero]; exact S1.out⟩⟩
  case round =>
    clear S1
    obtain ⟨k, q, r, rfl, rfl, rfl, HQ, HR, HS⟩ := hrel
    have hq := HQ.out
    cases gk with
    | zero =>
      obtain rfl : k = 16 := by omega
      clear hq HQ
      rw [cntL_is] at HS
      have HLL := Aside0.mk ((cntL_length fr n).trans HL.out)
      go_wp2_with (first | ((with_reducible refine load_bk (o := { dst := some _, op := .load 24 (.tmp 2), type := _, pos := _, after := _, guard := _ }) 24 (.tmp 2) rfl rfl w.heap.size 24 (cntL fr n) ?_ arr16 ?_ ?_ ?_); (rfl); (exact (HS.out.at w.heap.size _ _ (by simp))); (exact HLL.out)) | ((with_reducible refine store_bk (o := { dst := none, op := .store 24 (.tmp 4) (.tmp 33), type := _, pos := _, after := _, guard := _ }) 24 (.tmp 4) (.tmp 33) rfl rfl (w.heap.size + 1) 24 zs (cntL fr n) ?_ ?_ arr16 ?_ ?_ ?_ ?_); (rfl); (rfl); (exact (HS.out.at (w.heap.size + 1) _ _ (by simp))); (exact HZ16.out); (exact HLL.out)))
      exact ret_bk 4 24 rfl (w.heap.size + 1) 24 _ rfl arr16 ((HS.out.at (w.heap.size + 1) 24 zs (by simp)).setRow _) HLL.out rfl ⟨rfl, below_setRow HS.out.below (by omega) _⟩
    | succ k1 =>
      have hk : k < 16 := by omega
      have hk3 : (k : Int) < 16 := by omega
      obtain ⟨c, hc⟩ : ∃ c, (cst fr n k).2 = c := ⟨_, rfl⟩
      obtain ⟨l, hl⟩ : ∃ l, (cst fr n k).1 = l := ⟨_, rfl⟩
      obtain ⟨hqr, q0, q1, r0, r1⟩ := HR.out
      rw [hc] at hqr
      have hll : l.length = 16 := by rw [← hl, cst_length]; exact HL.out
      have hlb := cst_by HB.out n k (15 - k)
      rw [hl] at HS hlb
      obtain ⟨x, hx⟩ : ∃ x, l.getD (15 - k) 0 = x := ⟨_, rfl⟩
      rw [hx] at hlb
      obtain ⟨x0, x1⟩ := hlb
      have d0 := (HS.out.at w.heap.size 24 l (by simp)).cell (15 - k) (by omega)
      rw [hx] at d0
      have f0 := (HS.out.at w.heap.size 24 l (by simp)).frozen (15 - k)
      have HC := Aside0.mk (show cst fr n (k + 1) = (l.set (15 - k) ((x + c) % 256), (x + c) / 256) by rw [cst_succ, hl, hc, hx])
      have HX := Aside0.mk (split_is x q r c x0 x1 q0 r0 r1 hqr)
      have HQ1 := Aside0.mk (show 0 ≤ q / 256 ∧ q / 256 < 18446744073709551616 by omega)
      have HT := Aside0.mk (quo_is q q0 q1)
      have i0 : 0 ≤ 15 - (k : Int) := by omega
      have i1 : 15 - (k : Int) < 16 := by omega
      have i2 : (15 - (k : Int)).toNat = 15 - k := by omega
      clear hq hc hl hx hll hqr q1 HR
      go_wp2_with fail
      go_roundg k1
      case measure => omega
      case rel =>
        refine ⟨k + 1, q / 256, (x + q % 256 + r) / 256, by rw [HT.out], rfl, by simp, ⟨by have := HQ.out; omega⟩, ⟨?_⟩, ⟨?_⟩⟩
        · rw [HC.out]
          exact ⟨HX.out.1, HQ1.out.1, HQ1.out.2, HX.out.2.2.2, HX.out.2.2.1⟩
        · rw [HC.out, ← HX.out.2.1]
          exact (HS.out.setAt w.heap.size (15 - k) ((x + q % 256 + r) % 256) (Nat.le_refl _)).of (by simp)

theorem cst_two (fr : List Int) (hb : By fr) (hl : fr.length = 16) (a b : Int) (k : Nat) (hk : k ≤ 16) : (cst (cntL fr a) b k).2 + (cst fr a k).2 = (cst fr (a + b) k).2 ∧ ∀ j, 16 ≤ j + k → (cst (cntL fr a) b k).1.getD j 0 = (cst fr (a + b) k).1.getD j 0 := by
  induction k with
  | zero => exact ⟨by rw [cst_zero, cst_zero, cst_zero]; show b + a = a + b; omega, fun j hj => by
      rw [List.getD_eq_getElem?_getD, List.getD_eq_getElem?_getD, List.getElem?_eq_none (by rw [cst_length, cntL_length]; omega), List.getElem?_eq_none (by rw [cst_length]; omega)]⟩
  | succ k ih =>
    obtain ⟨h1, h2⟩ := ih (by omega)
    have e1 : (cst (cntL fr a) b k).1.getD (15 - k) 0 = (cntL fr a).getD (15 - k) 0 := cst_at _ _ _ _ (by omega) (by omega)
    have e2 : (cst fr (a + b) k).1.getD (15 - k) 0 = fr.getD (15 - k) 0 := cst_at _ _ _ _ (by omega) (by omega)
    have e3 : (cst fr a k).1.getD (15 - k) 0 = fr.getD (15 - k) 0 := cst_at _ _ _ _ (by omega) (by omega)
    have e4 : ∀ m, k + 1 ≤ m → m ≤ 16 → (cst fr a m).1.getD (15 - k) 0 = (fr.getD (15 - k) 0 + (cst fr a k).2) % 256 := by
      intro m hm
      induction m with
      | zero => omega
      | succ m ihm =>
        intro hm16
        rw [cst_succ, getD_set, cst_length, hl]
        by_cases hmk : m = k
        · subst hmk
          rw [if_pos ⟨rfl, by omega⟩, e3]
        · rw [if_neg (by omega)]
          exact ihm (by omega) (by omega)
    have e5 : (cntL fr a).getD (15 - k) 0 = (fr.getD (15 - k) 0 + (cst fr a k).2) % 256 := e4 16 (by omega) (by omega)
    have hx := hb (15 - k)
    refine ⟨?_, fun j hj => ?_⟩
    · rw [cst_succ, cst_succ, cst_succ]
      dsimp only
      rw [e1, e2, e3, e5, ← h1]
      omega
    · rw [cst_succ, cst_succ]
      dsimp only
      rw [getD_set, getD_set, cst_length, cst_length, cntL_length, hl, e1, e2, e5, ← h1]
      by_cases hjk : 15 - k = j
      · subst hjk
        rw [if_pos ⟨rfl, by omega⟩, if_pos ⟨rfl, by omega⟩]
        omega
      · rw [if_neg (by omega), if_neg (by omega)]
        exact h2 j (by omega)
/-- Added in two pieces it is the same. -/
theorem cntL_two (fr : List Int) (hb : By fr) (hl : fr.length = 16) (a b : Int) : cntL (cntL fr a) b = cntL fr (a + b) :=
  getD_ext (by rw [cntL_length, cntL_length, cntL_length]) fun j => (cst_two fr hb hl a b 16 (Nat.le_refl _)).2 j (by omega)
theorem cst_nought (fr : List Int) (hb : By fr) (k : Nat) : (cst fr 0 k).2 = 0 ∧ ∀ j, (cst fr 0 k).1.getD j 0 = fr.getD j 0 := by
  induction k with
  | zero => exact ⟨rfl, fun j => rfl⟩
  | succ k ih =>
    have hx := hb (15 - k)
    rw [cst_succ]
    dsimp only
    rw [ih.1, ih.2]
    refine ⟨by omega, fun j => ?_⟩
    rw [getD_set]
    split
    · rename_i h; rw [← h.1]; omega
    · exact ih.2 j
theorem cntL_nought (fr : List Int) (hb : By fr) : cntL fr 0 = fr := getD_ext (cntL_length _ _) fun j => (cst_nought fr hb 16).2 j

end Go.Proofs.Ytingegkipimakaa.Ae
