/- ctr: what a number of sixteen bytes and another one are; the walks of both Counts. -/
import Derived.Test.YtingegkipimakaaHs
namespace Go.Proofs.Ytingegkipimakaa.Ae
open Go.RowKit Go.Proofs.YtingegkipimakaaW.PrintWords Go.Proofs.YtingegkipimakaaW.PrintLast Go.Proofs.YtingegkipimakaaW.PrintMore Go.Proofs.Ytingegkipimakaa.PA
set_option linter.unusedVariables false
set_option linter.unusedSimpArgs false

/-- After k bytes: the bytes, and what is carried. -/
def cst (fr : List Int) (n : Int) : Nat → List Int × Int
  | 0 => (fr, n)
  | k + 1 => ((cst fr n k).1.set (15 - k) (((cst fr n k).1.getD (15 - k) 0 + (cst fr n k).2) % 256), ((cst fr n k).1.getD (15 - k) 0 + (cst fr n k).2) / 256)
theorem cst_zero (fr : List Int) (n : Int) : cst fr n 0 = (fr, n) := rfl
theorem cst_succ (fr : List Int) (n : Int) (k : Nat) : cst fr n (k + 1) = ((cst fr n k).1.set (15 - k) (((cst fr n k).1.getD (15 - k) 0 + (cst fr n k).2) % 256), ((cst fr n k).1.getD (15 - k) 0 + (cst fr n k).2) / 256) := rfl
theorem cst_length (fr : List Int) (n : Int) (k : Nat) : (cst fr n k).1.length = fr.length := by
  induction k with
  | zero => rfl
  | succ k ih => rw [cst_succ, List.length_set, ih]
theorem cst_by {fr : List Int} (h : By fr) (n : Int) (k : Nat) : By (cst fr n k).1 := by
  induction k with
  | zero => exact h
  | succ k ih => exact ih.set _ _ (by omega) (by omega)
theorem cst_bd {fr : List Int} (h : By fr) (n : Int) (h0 : 0 ≤ n) (h1 : n < 18446744073709551616) (k : Nat) : 0 ≤ (cst fr n k).2 ∧ (cst fr n k).2 < 18446744073709551616 := by
  induction k with
  | zero => exact ⟨h0, h1⟩
  | succ k ih =>
    have := cst_by h n k (15 - k)
    rw [cst_succ]
    dsimp only
    omega
/-- Bytes from index 15 - k on are as they were. -/
theorem cst_at (fr : List Int) (n : Int) (k j : Nat) (hk : k ≤ 16) (hj : j + k < 16) : (cst fr n k).1.getD j 0 = fr.getD j 0 := by
  induction k with
  | zero => rfl
  | succ k ih =>
    rw [cst_succ, getD_set, if_neg (by omega)]
    exact ih (by omega) (by omega)
def cntL (fr : List Int) (n : Int) : List Int := (cst fr n 16).1
theorem cntL_is (fr : List Int) (n : Int) : (cst fr n 16).1 = cntL fr n := rfl
theorem cntL_length (fr : List Int) (n : Int) : (cntL fr n).length = fr.length := cst_length fr n 16
theorem cntL_by {fr : List Int} (h : By fr) (n : Int) : By (cntL fr n) := cst_by h n 16
theorem carry_is (x c m : Int) (x0 : 0 ≤ x) (x1 : x < 256) (c0 : 0 ≤ c) (c1 : c < 18446744073709551616) (hm : m = c % 256) : IntKind.u64.wrap (c / 256 + (x + m) / 256) = (x + c) / 256 ∧ (x + m) % 256 = (x + c) % 256 := by
  subst hm
  simp only [IntKind.wrap, IntKind.bits, IntKind.signed]
  simp
  omega
theorem u64_and255 (x : Int) (h0 : 0 ≤ x) (h1 : x < 18446744073709551616) : Go.bits .and .u64 x 255 = x % 256 := by
  obtain ⟨n, rfl⟩ := Int.eq_ofNat_of_zero_le h0
  have ha : n % 2 ^ IntKind.u64.bits = n := Nat.mod_eq_of_lt (by show n < 2 ^ 64; omega)
  have hb : 255 % 2 ^ IntKind.u64.bits = 255 := by decide
  show IntKind.u64.wrap _ = _
  rw [show (255 : Int) = ((255 : Nat) : Int) from rfl]
  simp only [bits, BitVec.ofInt_natCast, BitVec.toNat_and, BitVec.toNat_ofNat, ha, hb]
  rw [show n &&& 255 = n % 256 from Nat.and_two_pow_sub_one_eq_mod n 8]
  simp [IntKind.wrap, IntKind.bits, IntKind.signed]
  omega

attribute [local irreducible] cst cntL in
set_option maxHeartbeats 1000000 in
set_option maxRecDepth 20000 in
theorem count_calls (w : World) (fr : List Int) (n : Int) (hl : fr.length = 16) (hb : By fr) (h0 : 0 ≤ n) (h1 : n < 18446744073709551616) :
    Calls Try.prog 21 #[.agg (u8s fr), .int .u64 n] w fun e w' => e = .returned (.agg (u8s (cntL fr n))) ∧ Below w.heap.size w w' := by
  have HL := Aside0.mk hl
  have HB := Aside0.mk hb
  have HBD := Aside0.mk (cst_bd hb n h0 h1)
  have HZ16 := Aside0.mk zs_length
  clear h0 h1 hl hb
  have S1 := Aside0.mk (((Hs.start w).new 24 fr).new 24 zs)
  rw [alloc_size] at S1
  go_enter Try.func21, Try.ntmps21
  go_wp2_with fail
  go_loopg [5, 6] 16 (fun kq v5 v6 w' => ∃ (k : Nat), v5 = .int .u64 (cst fr n k).2 ∧ v6 = .int .i64 (15 - (k : Int)) ∧ Aside0 (k + kq = 16) ∧ Aside0 (Hs [(w.heap.size + 1, 24, zs), (w.heap.size, 24, (cst fr n k).1)] w w'))
  case atStart => exact ⟨0, by rw [cst_zero], rfl, ⟨rfl⟩, ⟨by rw [cst_zero]; exact S1.out⟩⟩
  case round =>
    clear S1
    obtain ⟨k, rfl, rfl, HQ, HS⟩ := hrel
    have hq := HQ.out
    cases gk with
    | zero =>
      obtain rfl : k = 16 := by omega
      clear hq HQ
      rw [cntL_is] at HS
      have HLL := Aside0.mk ((cntL_length fr n).trans HL.out)
      go_wp2_with (first | ((with_reducible refine load_bk (o := { dst := some _, op := .load 24 (.tmp 2), type := _, pos := _, after := _, guard := _ }) 24 (.tmp 2) rfl rfl w.heap.size 24 (cntL fr n) ?_ arr16 ?_ ?_ ?_); (rfl); (exact (HS.out.at w.heap.size _ _ (by simp))); (exact HLL.out)) | ((with_reducible refine store_bk (o := { dst := none, op := .store 24 (.tmp 4) (.tmp 29), type := _, pos := _, after := _, guard := _ }) 24 (.tmp 4) (.tmp 29) rfl rfl (w.heap.size + 1) 24 zs (cntL fr n) ?_ ?_ arr16 ?_ ?_ ?_ ?_); (rfl); (rfl); (exact (HS.out.at (w.heap.size + 1) _ _ (by simp))); (exact HZ16.out); (exact HLL.out)))
      exact ret_bk 4 24 rfl (w.heap.size + 1) 24 _ rfl arr16 ((HS.out.at (w.heap.size + 1) 24 zs (by simp)).setRow _) HLL.out rfl ⟨rfl, below_setRow HS.out.below (by omega) _⟩
    | succ k1 =>
      have hk : k < 16 := by omega
      have hk3 : (k : Int) < 16 := by omega
      obtain ⟨c, hc⟩ : ∃ c, (cst fr n k).2 = c := ⟨_, rfl⟩
      obtain ⟨l, hl⟩ : ∃ l, (cst fr n k).1 = l := ⟨_, rfl⟩
      have hcb := HBD.out k
      rw [hc] at hcb
      obtain ⟨c0, c1⟩ := hcb
      have hll : l.length = 16 := by rw [← hl, cst_length]; exact HL.out
      have hlb := cst_by HB.out n k (15 - k)
      rw [hl] at HS hlb
      rw [hc]
      obtain ⟨x, hx⟩ : ∃ x, l.getD (15 - k) 0 = x := ⟨_, rfl⟩
      rw [hx] at hlb
      obtain ⟨x0, x1⟩ := hlb
      have d0 := (HS.out.at w.heap.size 24 l (by simp)).cell (15 - k) (by omega)
      rw [hx] at d0
      have f0 := (HS.out.at w.heap.size 24 l (by simp)).frozen (15 - k)
      obtain ⟨m, hm⟩ : ∃ m, m = c % 256 := ⟨_, rfl⟩
      have E := u64_and255 c c0 c1
      rw [← hm] at E
      have HC := Aside0.mk (show cst fr n (k + 1) = (l.set (15 - k) ((x + c) % 256), (x + c) / 256) by rw [cst_succ, hl, hc, hx])
      have HM := Aside0.mk hm
      have m0 : 0 ≤ m := by omega
      have m1 : m < 256 := by omega
      have i0 : 0 ≤ 15 - (k : Int) := by omega
      have i1 : 15 - (k : Int) < 16 := by omega
      have i2 : (15 - (k : Int)).toNat = 15 - k := by omega
      have C1 := Aside0.mk c1
      have HX := Aside0.mk (carry_is x c m x0 x1 c0 c1 hm)
      clear hq hc hl hx hm c1 hll
      go_wp2_with fail
      rw [HX.out.1, HX.out.2]
      go_roundg k1
      case measure => clear E; omega
      case rel =>
        refine ⟨k + 1, by rw [HC.out], by congr 1; clear E; omega, ⟨by have := HQ.out; clear E; omega⟩, ⟨?_⟩⟩
        rw [HC.out]
        exact (HS.out.setAt w.heap.size (15 - k) ((x + c) % 256) (Nat.le_refl _)).of (by simp)

end Go.Proofs.Ytingegkipimakaa.Ae
