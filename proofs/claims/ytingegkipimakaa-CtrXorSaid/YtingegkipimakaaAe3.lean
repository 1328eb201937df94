/- mix: the walk. -/
import Derived.Test.YtingegkipimakaaAe2
namespace Go.Proofs.Ytingegkipimakaa.Ae
open Go.RowKit Go.Proofs.YtingegkipimakaaW.PrintWords Go.Proofs.YtingegkipimakaaW.PrintLast Go.Proofs.YtingegkipimakaaW.PrintMore Go.Proofs.Ytingegkipimakaa.PA
set_option linter.unusedVariables false
set_option linter.unusedSimpArgs false

def mixIn (all first : Int) (c : Nat) (s : List Int) (k : Nat) : List Int := match k with
  | 0 => s
  | k + 1 => (mixIn all first c s k).set (c + k) (Go.bits .xor .u8 ((mixIn all first c s k).getD (c + k) 0) (Go.bits .xor .u8 all (twice (Go.bits .xor .u8 ((mixIn all first c s k).getD (c + k) 0) (if k < 3 then (mixIn all first c s k).getD (c + k + 1) 0 else first)))))
theorem mixIn_length (all first : Int) (c : Nat) (s : List Int) (k : Nat) : (mixIn all first c s k).length = s.length := by
  induction k with
  | zero => rfl
  | succ n ih => simp [mixIn, ih]
def all4 (s : List Int) (c : Nat) : Int := Go.bits .xor .u8 (Go.bits .xor .u8 (Go.bits .xor .u8 (s.getD c 0) (s.getD (c + 1) 0)) (s.getD (c + 2) 0)) (s.getD (c + 3) 0)
def mixL (x : List Int) (j : Nat) : List Int := match j with
  | 0 => x
  | j + 1 => mixIn (all4 (mixL x j) (4 * j)) ((mixL x j).getD (4 * j) 0) (4 * j) (mixL x j) 4
theorem mixL_length (x : List Int) (j : Nat) : (mixL x j).length = x.length := by
  induction j with
  | zero => rfl
  | succ n ih => simp [mixL, mixIn_length, ih]

set_option maxHeartbeats 1000000 in
theorem mix_calls (w : World) (x : List Int) (hx : x.length = 16) :
    Calls Try.prog 26 #[.agg (u8s x)] w fun e w' => e = .returned (.agg (u8s (mixL x 4))) ∧ Below w.heap.size w w' := by
  go_enter Try.func26, Try.ntmps26
  go_wp2_with fail
  have B0 : Below w.heap.size w ((w.alloc (Obj.cells (u8s x) 24)).alloc (Obj.cells (u8s (List.replicate 16 0)) 24)) := ((Below.refl _ _).alloc (Nat.le_refl _) _).alloc (by simp) _
  go_loopg [3] 4 (fun kq v3 w' => ∃ (j : Nat), v3 = .int .i64 ((4 * j : Nat) : Int) ∧ Aside0 (j + kq = 4) ∧ Aside0 (Bk w' w.heap.size 24 (mixL x j)) ∧ Aside0 (Bk w' (w.heap.size + 1) 24 (List.replicate 16 0)) ∧ Aside0 (Below w.heap.size w w'))
  case atStart => exact ⟨0, rfl, ⟨rfl⟩, ⟨(Bk.new _ _ _).alloc _⟩, ⟨by unfold Bk; exact heap_alloc2_new _ _ _⟩, ⟨B0⟩⟩
  case round =>
    clear B0
    obtain ⟨j, rfl, HK, HX, HZ, HB⟩ := hrel
    have hk := HK.out
    cases gk with
    | zero =>
      obtain rfl : j = 4 := by omega
      clear hk HK
      have hl := Aside0.mk (mixL_length x 4)
      go_wp2_with (first | ((with_reducible refine load_bk (o := { dst := some _, op := .load 24 (.tmp 1), type := _, pos := _, after := _, guard := _ }) 24 (.tmp 1) rfl rfl w.heap.size 24 (mixL x 4) ?_ arr16 ?_ ?_ ?_); (rfl); (exact HX.out); (exact (hl.out.trans hx))) | ((with_reducible refine store_bk (o := { dst := none, op := .store 24 (.tmp 2) (.tmp 63), type := _, pos := _, after := _, guard := _ }) 24 (.tmp 2) (.tmp 63) rfl rfl (w.heap.size + 1) 24 (List.replicate 16 0) (mixL x 4) ?_ ?_ arr16 ?_ ?_ ?_ ?_); (rfl); (rfl); (exact HZ.out); (exact rfl); (exact (hl.out.trans hx))))
      exact ret_bk 2 24 rfl (w.heap.size + 1) 24 _ rfl arr16 (HZ.out.setRow _) (hl.out.trans hx) rfl ⟨rfl, below_setRow HB.out (Nat.le_succ _) _⟩
    | succ k1 =>
      obtain ⟨c, hc⟩ : ∃ c, c = 4 * j := ⟨_, rfl⟩
      obtain ⟨s, hs⟩ : ∃ s, s = mixL x j := ⟨_, rfl⟩
      have hsl : s.length = 16 := by rw [hs, mixL_length, hx]
      rw [← hs] at HX
      rw [← hc]
      have hcl : c + 3 < 16 := by omega
      have hc0 : (c : Int) < 16 := by omega
      have HC := Aside0.mk hc
      have HS := Aside0.mk hs
      have HSL := Aside0.mk hsl
      have c1 := HX.out.cell c (by omega)
      have c2 := HX.out.cell (c + 1) (by omega)
      have c3 := HX.out.cell (c + 2) (by omega)
      have c4 := HX.out.cell (c + 3) (by omega)
      have hi1 : (c : Int) + 1 < 16 := by omega
      have hi2 : (c : Int) + 2 < 16 := by omega
      have hi3 : (c : Int) + 3 < 16 := by omega
      have p1 : 0 ≤ (c : Int) + 1 := by omega
      have p2 : 0 ≤ (c : Int) + 2 := by omega
      have p3 : 0 ≤ (c : Int) + 3 := by omega
      have q1 : ((c : Int) + 1).toNat = c + 1 := by omega
      have q2 : ((c : Int) + 2).toNat = c + 2 := by omega
      have q3 : ((c : Int) + 3).toNat = c + 3 := by omega
      have i1 : IntKind.i64.wrap ((c : Int) + 1) = (c : Int) + 1 := IntWalk.i64_in _ (by omega)
      have i2 : IntKind.i64.wrap ((c : Int) + 2) = (c : Int) + 2 := IntWalk.i64_in _ (by clear i1; omega)
      have i3 : IntKind.i64.wrap ((c : Int) + 3) = (c : Int) + 3 := IntWalk.i64_in _ (by clear i1 i2; omega)
      clear hk hc hs hsl
      go_wp2_with fail
      go_still (by kernel_rfl)
      clear i1 i2 i3 p1 p2 p3 q1 q2 q3 hi1 hi2 hi3
      change Exit.then _ _ _ _ wr.drew
      generalize hal : Go.bits .xor .u8 (Go.bits .xor .u8 (Go.bits .xor .u8 (s[c]?.getD 0) (s[c + 1]?.getD 0)) (s[c + 2]?.getD 0)) (s[c + 3]?.getD 0) = al
      have HAL := Aside0.mk hal
      clear hal c2 c3 c4
      go_wp2_with fail
      generalize hfi : s[c]?.getD 0 = fi
      have HFI := Aside0.mk hfi
      clear hfi c1
      go_loopg [33] 4 (fun kr v33 w' => ∃ (k : Nat), v33 = .int .i64 (k : Int) ∧ Aside0 (k + kr = 4) ∧ Aside0 (Bk w' w.heap.size 24 (mixIn al fi c s k)) ∧ Aside0 (Bk w' (w.heap.size + 1) 24 (List.replicate 16 0)) ∧ Aside0 (Below w.heap.size w w'))
      case atStart => exact ⟨0, rfl, ⟨rfl⟩, ⟨HX.out.drew⟩, ⟨HZ.out.drew⟩, ⟨HB.out.drew⟩⟩
      case round =>
        clear HX HZ HB
        obtain ⟨k, rfl, HK2, HX, HZ, HB⟩ := hrel
        have hk := HK2.out
        cases gk with
        | zero =>
          obtain rfl : k = 4 := by omega
          clear hk
          go_wp2_with fail
          go_roundg k1
          case measure => omega
          case rel =>
            refine ⟨j + 1, by rw [HC.out]; simp; omega, ⟨by have := HK.out; omega⟩, ⟨?_⟩, HZ, HB⟩
            have e := HX.out
            rw [HC.out, ← HFI.out, ← HAL.out, HS.out, HC.out] at e
            exact e
        | succ k2 =>
          have hkl : k < 4 := by omega
          have hck : c + k < 16 := by omega
          have hck1 : (c : Int) + k < 16 := by omega
          have hckp : 0 ≤ (c : Int) + k := by omega
          have hckn : ((c : Int) + k).toNat = c + k := by omega
          have hl : (mixIn al fi c s k).length = 16 := by rw [mixIn_length]; exact HSL.out
          have c1 := HX.out.cell (c + k) (by omega)
          have f1 := HX.out.frozen (c + k)
          have i1 : IntKind.i64.wrap ((c : Int) + k) = (c : Int) + k := IntWalk.i64_in _ (by omega)
          by_cases h3 : k < 3
          · have h3b : (k : Int) < 3 := by clear i1; omega
            have c2 := HX.out.cell (c + k + 1) (by clear i1; omega)
            have d1 : (c : Int) + k + 1 < 16 := by clear i1; omega
            have dp : 0 ≤ (c : Int) + k + 1 := by clear i1; omega
            have dn : ((c : Int) + k + 1).toNat = c + k + 1 := by clear i1; omega
            have i2 : IntKind.i64.wrap ((c : Int) + k + 1) = (c : Int) + k + 1 := IntWalk.i64_in _ (by clear i1; omega)
            clear hk hl
            go_wp2_with fail
            go_still_tail 16, (by kernel_rfl)
            still_call (twice_calls _ _)
            repeat still_step
            refine wpStill_nil ?_
            change wpList _ _ _ _ _ wr.drew
            go_wp2_with fail
            go_roundg k2
            case measure => clear i1 i2; omega
            case rel =>
              refine ⟨k + 1, by simp, ⟨by have := HK2.out; clear i1 i2; omega⟩, ⟨?_⟩, ⟨?_⟩, ⟨?_⟩⟩
              · have e := HX.out.drew.set (c + k) (Go.bits .xor .u8 ((mixIn al fi c s k).getD (c + k) 0) (Go.bits .xor .u8 al (twice (Go.bits .xor .u8 ((mixIn al fi c s k).getD (c + k) 0) ((mixIn al fi c s k).getD (c + k + 1) 0)))))
                simp only [mixIn, if_pos h3]
                exact e
              · exact HZ.out.drew.other _ _ (Nat.succ_ne_self _)
              · exact HB.out.drew.setCell (Nat.le_refl _) _
          · have h3b : ¬ (k : Int) < 3 := by clear i1; omega
            clear hk hl
            go_wp2_with fail
            go_still_tail 16, (by kernel_rfl)
            still_call (twice_calls _ _)
            repeat still_step
            refine wpStill_nil ?_
            change wpList _ _ _ _ _ wr.drew
            go_wp2_with fail
            go_roundg k2
            case measure => clear i1; omega
            case rel =>
              refine ⟨k + 1, by simp, ⟨by have := HK2.out; clear i1; omega⟩, ⟨?_⟩, ⟨?_⟩, ⟨?_⟩⟩
              · have e := HX.out.drew.set (c + k) (Go.bits .xor .u8 ((mixIn al fi c s k).getD (c + k) 0) (Go.bits .xor .u8 al (twice (Go.bits .xor .u8 ((mixIn al fi c s k).getD (c + k) 0) fi))))
                simp only [mixIn, if_neg h3]
                exact e
              · exact HZ.out.drew.other _ _ (Nat.succ_ne_self _)
              · exact HB.out.drew.setCell (Nat.le_refl _) _

end Go.Proofs.Ytingegkipimakaa.Ae
