/- add, rows: the walks. -/
import Derived.Test.YtingegkipimakaaAe1
import Derived.StillTailTactics
namespace Go.Proofs.Ytingegkipimakaa.Ae
open Go.RowKit Go.Proofs.YtingegkipimakaaW.PrintWords Go.Proofs.YtingegkipimakaaW.PrintLast Go.Proofs.YtingegkipimakaaW.PrintMore Go.Proofs.Ytingegkipimakaa.PA
set_option linter.unusedVariables false
set_option linter.unusedSimpArgs false

/-- The box's cells: its table, then its keys. -/
def addL (cs : List Int) (r : Nat) (x : List Int) (n : Nat) : List Int := match n with
  | 0 => x
  | n + 1 => (addL cs r x n).set n (Go.bits .xor .u8 ((addL cs r x n).getD n 0) (cs.getD (256 + r * 16 + n) 0))
theorem addL_length (cs : List Int) (r : Nat) (x : List Int) (n : Nat) : (addL cs r x n).length = x.length := by
  induction n with
  | zero => rfl
  | succ n ih => simp [addL, ih]

set_option maxHeartbeats 1000000 in
theorem add_calls (w : World) (g : Nat) (cs x : List Int) (r : Nat) (hg : Bk w g 51 cs) (hcs : cs.length = 496) (hx : x.length = 16) (hr : r < 15) :
    Calls Try.prog 25 #[.pointer (some ⟨g, 0, none⟩), .agg (u8s x), .int .i64 (r : Int)] w fun e w' => e = .returned (.agg (u8s (addL cs r x 16))) ∧ Below w.heap.size w w' := by
  go_enter Try.func25, Try.ntmps25
  go_wp2_with fail
  have B0 : Below w.heap.size w ((w.alloc (Obj.cells (u8s x) 24)).alloc (Obj.cells (u8s (List.replicate 16 0)) 24)) := ((Below.refl _ _).alloc (Nat.le_refl _) _).alloc (by simp) _
  go_loopg [8] 16 (fun kq v8 w' => ∃ (n : Nat), v8 = .int .i64 (n : Int) ∧ Aside0 (n + kq = 16) ∧ Aside0 (Bk w' w.heap.size 24 (addL cs r x n)) ∧ Aside0 (Bk w' (w.heap.size + 1) 24 (List.replicate 16 0)) ∧ Aside0 (Bk w' g 51 cs) ∧ Aside0 (Below w.heap.size w w'))
  case atStart => exact ⟨0, rfl, ⟨rfl⟩, ⟨(Bk.new _ _ _).alloc _⟩, ⟨by unfold Bk; exact heap_alloc2_new _ _ _⟩, ⟨hg.below B0 hg.lt⟩, ⟨B0⟩⟩
  case round =>
    clear B0
    obtain ⟨n, rfl, HK, HX, HZ, HG, HB⟩ := hrel
    have hk := HK.out
    cases gk with
    | zero =>
      obtain rfl : n = 16 := by omega
      clear hk HK
      have hl := Aside0.mk (addL_length cs r x 16)
      go_wp2_with (first | ((with_reducible refine load_bk (o := { dst := some _, op := .load 24 (.tmp 4), type := _, pos := _, after := _, guard := _ }) 24 (.tmp 4) rfl rfl w.heap.size 24 (addL cs r x 16) ?_ arr16 ?_ ?_ ?_); (rfl); (exact HX.out); (exact (hl.out.trans hx))) | ((with_reducible refine store_bk (o := { dst := none, op := .store 24 (.tmp 6) (.tmp 25), type := _, pos := _, after := _, guard := _ }) 24 (.tmp 6) (.tmp 25) rfl rfl (w.heap.size + 1) 24 (List.replicate 16 0) (addL cs r x 16) ?_ ?_ arr16 ?_ ?_ ?_ ?_); (rfl); (rfl); (exact HZ.out); (exact rfl); (exact (hl.out.trans hx))))
      exact ret_bk 6 24 rfl (w.heap.size + 1) 24 _ rfl arr16 (HZ.out.setRow _) (hl.out.trans hx) rfl ⟨rfl, below_setRow HB.out (Nat.le_succ _) _⟩
    | succ k1 =>
      have hn : n < 16 := by omega
      have c1 := HX.out.cell n (by rw [addL_length]; omega)
      have c2 := HG.out.cell (256 + r * 16 + n) (by omega)
      have hr' : (r : Int) < 15 := by omega
      have c3 := HX.out.frozen n
      clear hk
      go_wp2_with fail
      go_still_tail 12, (by kernel_rfl)
      change wpList _ _ _ _ _ wr.drew
      go_wp2_with fail
      go_roundg k1
      case measure => omega
      case rel =>
        refine ⟨n + 1, by simp, ⟨by have := HK.out; omega⟩, ⟨?_⟩, ⟨?_⟩, ⟨?_⟩, ⟨?_⟩⟩
        · exact HX.out.drew.set n _
        · exact HZ.out.drew.other _ _ (Nat.succ_ne_self _)
        · exact HG.out.drew.other _ _ (Nat.ne_of_lt hg.lt)
        · exact HB.out.drew.setCell (Nat.le_refl _) _

def rowsL (cs x : List Int) (n : Nat) : List Int := match n with
  | 0 => List.replicate 16 0
  | n + 1 => (rowsL cs x n).set n (cs.getD (x.getD ((n + 4 * (n % 4)) % 16) 0).toNat 0)
theorem rows_ix : ∀ n : Nat, n < 16 → (IntKind.i64.wrap ((n : Int) + IntKind.i64.wrap (4 * (n : Int).tmod 4))).tmod 16 = (((n + 4 * (n % 4)) % 16 : Nat) : Int) := by decide
theorem rowsL_length (cs x : List Int) (n : Nat) : (rowsL cs x n).length = 16 := by
  induction n with
  | zero => rfl
  | succ n ih => simp [rowsL, ih]

set_option maxHeartbeats 1000000 in
theorem rows_calls (w : World) (g : Nat) (cs x : List Int) (hg : Bk w g 51 cs) (hcs : cs.length = 496) (hx : x.length = 16) (hxw : ∀ i, 0 ≤ x.getD i 0 ∧ x.getD i 0 < 256) :
    Calls Try.prog 27 #[.pointer (some ⟨g, 0, none⟩), .agg (u8s x)] w fun e w' => e = .returned (.agg (u8s (rowsL cs x 16))) ∧ Below w.heap.size w w' := by
  go_enter Try.func27, Try.ntmps27
  go_wp2_with fail
  have B0 : Below w.heap.size w (((w.alloc (Obj.cells (u8s x) 24)).alloc (Obj.cells (u8s (List.replicate 16 0)) 24)).alloc (Obj.cells (u8s (List.replicate 16 0)) 24)) := (((Below.refl _ _).alloc (Nat.le_refl _) _).alloc (by simp) _).alloc (by simp; omega) _
  go_loopg [7] 16 (fun kq v8 w' => ∃ (n : Nat), v8 = .int .i64 (n : Int) ∧ Aside0 (n + kq = 16) ∧ Aside0 (Bk w' w.heap.size 24 x) ∧ Aside0 (Bk w' (w.heap.size + 1) 24 (List.replicate 16 0)) ∧ Aside0 (Bk w' (w.heap.size + 1 + 1) 24 (rowsL cs x n)) ∧ Aside0 (Bk w' g 51 cs) ∧ Aside0 (Below w.heap.size w w'))
  case atStart => exact ⟨0, rfl, ⟨rfl⟩, ⟨((Bk.new _ _ _).alloc _).alloc _⟩, ⟨Bk.alloc (by unfold Bk; exact heap_alloc2_new _ _ _) _⟩, ⟨by have := Bk.new ((w.alloc (Obj.cells (u8s x) 24)).alloc (Obj.cells (u8s (List.replicate 16 0)) 24)) 24 (List.replicate 16 0); rw [show ((w.alloc (Obj.cells (u8s x) 24)).alloc (Obj.cells (u8s (List.replicate 16 0)) 24)).heap.size = w.heap.size + 1 + 1 from by rw [alloc_size, alloc_size]] at this; exact this⟩, ⟨hg.below B0 hg.lt⟩, ⟨B0⟩⟩
  case round =>
    clear B0
    obtain ⟨n, rfl, HK, HX, HZ, HO, HG, HB⟩ := hrel
    have hk := HK.out
    cases gk with
    | zero =>
      obtain rfl : n = 16 := by omega
      clear hk HK
      have hl := Aside0.mk (rowsL_length cs x 16)
      go_wp2_with (first | ((with_reducible refine load_bk (o := { dst := some _, op := .load 24 (.tmp 5), type := _, pos := _, after := _, guard := _ }) 24 (.tmp 5) rfl rfl (w.heap.size + 1 + 1) 24 (rowsL cs x 16) ?_ arr16 ?_ ?_ ?_); (rfl); (exact HO.out); (exact hl.out)) | ((with_reducible refine store_bk (o := { dst := none, op := .store 24 (.tmp 4) (.tmp 26), type := _, pos := _, after := _, guard := _ }) 24 (.tmp 4) (.tmp 26) rfl rfl (w.heap.size + 1) 24 (List.replicate 16 0) (rowsL cs x 16) ?_ ?_ arr16 ?_ ?_ ?_ ?_); (rfl); (rfl); (exact HZ.out); (exact rfl); (exact hl.out)))
      exact ret_bk 4 24 rfl (w.heap.size + 1) 24 _ rfl arr16 (HZ.out.setRow _) hl.out rfl ⟨rfl, below_setRow HB.out (Nat.le_succ _) _⟩
    | succ k1 =>
      have hn : n < 16 := by omega
      have E := rows_ix n hn
      obtain ⟨m, hm⟩ : ∃ m, m = (n + 4 * (n % 4)) % 16 := ⟨_, rfl⟩
      rw [← hm] at E
      have hm' : m < 16 := by clear E; omega
      have hm1 : (m : Int) < 16 := by clear E; omega
      have HM := Aside0.mk hm
      have c1 := HX.out.cell m (by clear E; omega)
      obtain ⟨b0, b1⟩ := hxw m
      obtain ⟨z, hz⟩ : ∃ z, x.getD m 0 = z := ⟨_, rfl⟩
      rw [hz] at c1 b0 b1
      have c2 := HG.out.cell z.toNat (by clear E; omega)
      have c3 := HO.out.frozen n
      have c4 := HO.out.cell n (by rw [rowsL_length]; clear E; omega)
      have HZ' := Aside0.mk hz
      clear hk hm hz
      go_wp2_with fail
      go_still_tail 14, (by kernel_rfl)
      change wpList _ _ _ _ _ wr.drew
      go_wp2_with fail
      go_roundg k1
      case measure => clear E; omega
      case rel =>
        refine ⟨n + 1, by simp, ⟨by have := HK.out; clear E; omega⟩, ⟨?_⟩, ⟨?_⟩, ⟨?_⟩, ⟨?_⟩, ⟨?_⟩⟩
        · exact HX.out.drew.other _ _ (by show w.heap.size ≠ w.heap.size + 1 + 1; clear E; omega)
        · exact HZ.out.drew.other _ _ (by simp)
        · rw [show rowsL cs x (n + 1) = (rowsL cs x n).set n (cs.getD z.toNat 0) from by simp only [rowsL]; rw [← HM.out, HZ'.out]]
          exact HO.out.drew.set n _
        · exact HG.out.drew.other _ _ (by have := hg.lt; show g ≠ w.heap.size + 1 + 1; clear E; omega)
        · exact HB.out.drew.setCell (by show w.heap.size ≤ w.heap.size + 1 + 1; clear E; omega) _

/-! ### mix -/
def twice (a : Int) : Int := if (Go.bits .and .u8 a 128) = 0 then (a * 2) % 256 else Go.bits .xor .u8 ((a * 2) % 256) 27

set_option maxHeartbeats 1000000 in
theorem twice_calls (a0 : Int) (w : World) : Calls Try.prog 23 #[.int .u8 a0] w fun e w' => e = .returned (.int .u8 (twice a0)) ∧ w' = w := by
  unfold twice
  by_cases c2 : (Go.bits .and .u8 a0 128) = 0
  · rw [if_pos c2]
    have c2b0 : ((Go.bits .and .u8 a0 128) == 0) = true := beq_iff_eq.mpr c2
    have c2b1 : ((Go.bits .and .u8 a0 128) != 0) = false := bne_eq_false_iff_eq.mpr c2
    clear c2
    go_enter Try.func23, Try.ntmps23
    go_wp2
    go_ret
    exact ⟨by first | rfl | (simp; done) | (simp [*]; done), rfl⟩
  · rw [if_neg c2]
    have c2b0 : ((Go.bits .and .u8 a0 128) == 0) = false := beq_eq_false_iff_ne.mpr c2
    have c2b1 : ((Go.bits .and .u8 a0 128) != 0) = true := bne_iff_ne.mpr c2
    go_enter Try.func23, Try.ntmps23
    go_wp2
    go_ret
    exact ⟨by first | rfl | (simp; done) | (simp [*]; done), rfl⟩

end Go.Proofs.Ytingegkipimakaa.Ae
