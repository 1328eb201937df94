/- Table: the walk. -/
import Derived.Test.YtingegkipimakaaAe4
namespace Go.Proofs.Ytingegkipimakaa.Ae
open Go.RowKit Go.Proofs.YtingegkipimakaaW.PrintWords Go.Proofs.YtingegkipimakaaW.PrintLast Go.Proofs.YtingegkipimakaaW.PrintMore Go.Proofs.Ytingegkipimakaa.PA
set_option linter.unusedVariables false
set_option linter.unusedSimpArgs false

def rot (a k : Int) : Int := (bits_RotateLeft8.f a k).getD 0
def q1 (q : Int) : Int := Go.bits .xor .u8 q ((q * 2) % 256)
def q2 (q : Int) : Int := Go.bits .xor .u8 q ((q * 4) % 256)
def q4 (q : Int) : Int := Go.bits .xor .u8 q ((q * 16) % 256)
def qn (q : Int) : Int := if Go.bits .and .u8 (q4 (q2 (q1 q))) 128 = 0 then q4 (q2 (q1 q)) else Go.bits .xor .u8 (q4 (q2 (q1 q))) 9
def sb (q : Int) : Int := Go.bits .xor .u8 (Go.bits .xor .u8 (Go.bits .xor .u8 (Go.bits .xor .u8 (Go.bits .xor .u8 q (rot q 1)) (rot q 2)) (rot q 3)) (rot q 4)) 99
def pn (p : Int) : Int := Go.bits .xor .u8 p (twice p)
def P : Nat → Int | 0 => 1 | n + 1 => pn (P n)
def Q : Nat → Int | 0 => 1 | n + 1 => qn (Q n)
def T : Nat → List Int | 0 => List.replicate 256 0 | n + 1 => (T n).set (P (n + 1)).toNat (sb (Q (n + 1)))
def tabL : List Int := (T 255).set 0 99
theorem T_length (n : Nat) : (T n).length = 256 := by
  induction n with
  | zero => exact List.length_replicate
  | succ n ih => simp [T, ih]
theorem rot1 (a : Int) : bits_RotateLeft8.f a 1 = some (rot a 1) := rfl
theorem rot2 (a : Int) : bits_RotateLeft8.f a 2 = some (rot a 2) := rfl
theorem rot3 (a : Int) : bits_RotateLeft8.f a 3 = some (rot a 3) := rfl
theorem rot4 (a : Int) : bits_RotateLeft8.f a 4 = some (rot a 4) := rfl
set_option maxRecDepth 100000 in
theorem P_ne : ∀ n < 254, P (n + 1) ≠ 1 := by decide +kernel
set_option maxRecDepth 100000 in
theorem P_end : P 255 = 1 := by decide +kernel

theorem P_by (n : Nat) : 0 ≤ P n ∧ P n < 256 := by
  cases n with
  | zero => exact ⟨by decide, by decide⟩
  | succ n => exact bits_by .xor (P n) (twice (P n))
theorem tabL_length : tabL.length = 256 := by simp [tabL, T_length]
theorem drawn_below {w w' : World} (h : Drawn0 w w') : Below w.heap.size w w' := by
  obtain ⟨m, rfl⟩ := h
  exact pw_below_drewN (Below.refl _ _) m

set_option maxHeartbeats 1000000 in
theorem table_calls (w : World) :
    Calls Try.prog 11 #[] w fun e w' => e = .returned (.agg (u8s tabL)) ∧ Below w.heap.size w w' := by
  have hz := (zero_of_info (P := Try.prog) (t := 26) (v := .agg (u8s (List.replicate 256 0))) (n := 256) (by kernel_rfl)).1
  obtain ⟨z, hz256⟩ : ∃ l, l = List.replicate 256 (0 : Int) := ⟨_, rfl⟩
  rw [← hz256] at hz
  have hzl : z.length = 256 := by rw [hz256]; exact List.length_replicate
  have HZ := Aside0.mk hz256
  have HL := Aside0.mk hzl
  clear hz256 hzl
  go_enter Try.func11, Try.ntmps11
  go_wp2_with fail
  have B0 : Below w.heap.size w ((w.alloc (Obj.cells (u8s z) 26)).alloc (Obj.cells (u8s z) 26)) := ((Below.refl _ _).alloc (Nat.le_refl _) _).alloc (by rw [alloc_size]; omega) _
  go_loopg [2, 3] 255 (fun kq v2 v3 w' => ∃ (n : Nat), v2 = .int .u8 (P n) ∧ v3 = .int .u8 (Q n) ∧ Aside0 (n + kq = 255) ∧ Aside0 (n < 255) ∧ Aside0 (Below w.heap.size w w') ∧ Aside0 (Bk w' w.heap.size 26 z) ∧ Aside0 (Bk w' (w.heap.size + 1) 26 (T n)))
  case atStart => exact ⟨0, rfl, rfl, ⟨rfl⟩, ⟨by decide⟩, ⟨B0⟩, ⟨(Bk.new _ _ _).alloc _⟩, ⟨by unfold Bk; rw [show T 0 = z from HZ.out.symm]; exact heap_alloc2_new _ _ _⟩⟩
  case round =>
    clear B0
    obtain ⟨n, rfl, rfl, HK, HN, HB, HR, HT⟩ := hrel
    cases gk with
    | zero => exact absurd HN.out (by have := HK.out; omega)
    | succ k1 =>
      obtain ⟨p, hp⟩ : ∃ p, P n = p := ⟨_, rfl⟩
      obtain ⟨q, hq⟩ : ∃ q, Q n = q := ⟨_, rfl⟩
      rw [hp, hq]
      have HP := Aside0.mk hp
      have HQ := Aside0.mk hq
      clear hp hq
      obtain ⟨a1, f1⟩ : ∃ a, Go.bits .xor .u8 q ((q * 2) % 256) = a := ⟨_, rfl⟩
      obtain ⟨a2, f2⟩ : ∃ a, Go.bits .xor .u8 a1 ((a1 * 4) % 256) = a := ⟨_, rfl⟩
      obtain ⟨a3, f3⟩ : ∃ a, Go.bits .xor .u8 a2 ((a2 * 16) % 256) = a := ⟨_, rfl⟩
      have E3 := Aside0.mk (show q4 (q2 (q1 q)) = a3 by rw [← f3, ← f2, ← f1]; rfl)
      obtain ⟨p', f0⟩ : ∃ a, Go.bits .xor .u8 p (twice p) = a := ⟨_, rfl⟩
      have EP := Aside0.mk (show P (n + 1) = p' by rw [← f0, ← HP.out]; rfl)
      obtain ⟨b0, b1⟩ := P_by (n + 1)
      rw [EP.out] at b0 b1
      go_wp2_with fail
      refine (twice_calls _ _).mono ?_
      rintro e _ ⟨rfl, rfl⟩
      by_cases c : Go.bits .and .u8 a3 128 = 0
      · obtain ⟨r, hr⟩ : ∃ r, a3 = r := ⟨_, rfl⟩
        have E4 := Aside0.mk (show Q (n + 1) = r by rw [show Q (n + 1) = qn (Q n) from rfl, HQ.out, ← hr]; unfold qn; rw [E3.out, if_pos c])
        have cb : (Go.bits .and .u8 r 128 != 0) = false := bne_eq_false_iff_eq.mpr (hr ▸ c)
        rw [hr] at f3
        clear c
        go_wp2_with fail
        refine (bits_RotateLeft8.calls _ 1 _ _ (rot1 _)).mono ?_
        rintro e w1 ⟨rfl, hd⟩
        have B1 := Aside0.mk (drawn_below hd)
        clear hd
        go_wp2_with fail
        refine (bits_RotateLeft8.calls _ 2 _ _ (rot2 _)).mono ?_
        rintro e w2 ⟨rfl, hd⟩
        have B2 := Aside0.mk (drawn_below hd)
        clear hd
        go_wp2_with fail
        refine (bits_RotateLeft8.calls _ 3 _ _ (rot3 _)).mono ?_
        rintro e w3 ⟨rfl, hd⟩
        have B3 := Aside0.mk (drawn_below hd)
        clear hd
        go_wp2_with fail
        refine (bits_RotateLeft8.calls _ 4 _ _ (rot4 _)).mono ?_
        rintro e w4 ⟨rfl, hd⟩
        have B4 := Aside0.mk (drawn_below hd)
        clear hd
        have h1 := HT.out.below B1.out HT.out.lt
        have h2 := h1.below B2.out h1.lt
        have h3 := h2.below B3.out h2.lt
        have T4 := Aside0.mk (h3.below B4.out h3.lt)
        clear h1 h2 h3
        have h1 := HR.out.below B1.out HR.out.lt
        have h2 := h1.below B2.out h1.lt
        have h3 := h2.below B3.out h2.lt
        have R4 := Aside0.mk (h3.below B4.out h3.lt)
        clear h1 h2 h3
        have s1 := HB.out.size
        have BW := Aside0.mk ((((HB.out.trans (B1.out.mono s1)).trans (B2.out.mono (Nat.le_trans s1 B1.out.size))).trans (B3.out.mono (Nat.le_trans (Nat.le_trans s1 B1.out.size) B2.out.size))).trans (B4.out.mono (Nat.le_trans (Nat.le_trans (Nat.le_trans s1 B1.out.size) B2.out.size) B3.out.size)))
        clear s1
        have c1 := T4.out.cell p'.toNat (by rw [T_length]; omega)
        have c2 := T4.out.frozen p'.toNat
        have ET := Aside0.mk (show T (n + 1) = (T n).set p'.toNat (sb r) by rw [show T (n + 1) = (T n).set (P (n + 1)).toNat (sb (Q (n + 1))) from rfl, EP.out, E4.out])
        by_cases hn : n + 1 = 255
        · have hp1 : p' = 1 := by rw [← EP.out, hn]; exact P_end
          have hp2 : (p' == 1) = true := beq_iff_eq.mpr hp1
          obtain ⟨L, hL⟩ : ∃ L, L = (T n).set p'.toNat (sb r) := ⟨_, rfl⟩
          have TL := Aside0.mk (show tabL = L.set 0 99 by rw [hL, ← ET.out, hn]; rfl)
          have LL : L.length = 256 := by rw [hL, List.length_set, T_length]
          have LLL := Aside0.mk (show (L.set 0 99).length = 256 by rw [List.length_set, LL])
          have T5 := T4.out.set p'.toNat (sb r)
          rw [← hL] at T5
          have d1 := T5.cell 0 (by omega)
          have d2 := T4.out.frozen 0
          unfold sb at d1
          have T6 := Aside0.mk (T5.set 0 99)
          have R6 := Aside0.mk ((R4.out.other ⟨w.heap.size + 1, p'.toNat, none⟩ (.int .u8 (sb r)) (by show w.heap.size ≠ w.heap.size + 1; omega)).other ⟨w.heap.size + 1, 0, none⟩ (.int .u8 99) (by show w.heap.size ≠ w.heap.size + 1; omega))
          have B6 := Aside0.mk (below_set (j := 0) (v := .int .u8 99) (below_set (j := p'.toNat) (v := .int .u8 (sb r)) BW.out (Nat.le_succ _)) (Nat.le_succ _))
          clear hn hp1 T5 hL LL
          go_wp2_with (first | ((with_reducible refine load_bk (o := { dst := some _, op := .load 26 (.tmp 1), type := _, pos := _, after := _, guard := _ }) 26 (.tmp 1) rfl rfl (w.heap.size + 1) 26 (L.set 0 99) ?_ arr256 ?_ ?_ ?_); (rfl); (exact T6.out); (exact LLL.out)) | ((with_reducible refine store_bk (o := { dst := none, op := .store 26 (.tmp 0) (.tmp 44), type := _, pos := _, after := _, guard := _ }) 26 (.tmp 0) (.tmp 44) rfl rfl w.heap.size 26 z (L.set 0 99) ?_ ?_ arr256 ?_ ?_ ?_ ?_); (rfl); (rfl); (exact R6.out); (exact HL.out); (exact LLL.out)))
          exact ret_bk 0 26 rfl w.heap.size 26 _ rfl arr256 (R6.out.setRow _) LLL.out rfl ⟨by rw [TL.out], below_setRow B6.out (Nat.le_refl _) _⟩
        · have hp1 : p' ≠ 1 := by rw [← EP.out]; exact P_ne n (by have := HN.out; omega)
          have hp2 : (p' == 1) = false := beq_eq_false_iff_ne.mpr hp1
          have HN2 := Aside0.mk hn
          clear hn hp1
          go_wp2_with fail
          go_roundg k1
          case measure => omega
          case rel =>
            refine ⟨n + 1, by rw [EP.out], by rw [E4.out], ⟨by have := HK.out; omega⟩, ⟨by have := HN.out; have := HN2.out; omega⟩, ⟨below_set BW.out (by omega)⟩, ⟨R4.out.other _ _ (by show w.heap.size ≠ w.heap.size + 1; omega)⟩, ⟨?_⟩⟩
            rw [ET.out]
            exact T4.out.set _ _
      · obtain ⟨r, hr⟩ : ∃ r, Go.bits .xor .u8 a3 9 = r := ⟨_, rfl⟩
        have E4 := Aside0.mk (show Q (n + 1) = r by rw [show Q (n + 1) = qn (Q n) from rfl, HQ.out, ← hr]; unfold qn; rw [E3.out, if_neg c])
        have cb : (Go.bits .and .u8 a3 128 != 0) = true := bne_iff_ne.mpr c
        clear c
        go_wp2_with fail
        refine (bits_RotateLeft8.calls _ 1 _ _ (rot1 _)).mono ?_
        rintro e w1 ⟨rfl, hd⟩
        have B1 := Aside0.mk (drawn_below hd)
        clear hd
        go_wp2_with fail
        refine (bits_RotateLeft8.calls _ 2 _ _ (rot2 _)).mono ?_
        rintro e w2 ⟨rfl, hd⟩
        have B2 := Aside0.mk (drawn_below hd)
        clear hd
        go_wp2_with fail
        refine (bits_RotateLeft8.calls _ 3 _ _ (rot3 _)).mono ?_
        rintro e w3 ⟨rfl, hd⟩
        have B3 := Aside0.mk (drawn_below hd)
        clear hd
        go_wp2_with fail
        refine (bits_RotateLeft8.calls _ 4 _ _ (rot4 _)).mono ?_
        rintro e w4 ⟨rfl, hd⟩
        have B4 := Aside0.mk (drawn_below hd)
        clear hd
        have h1 := HT.out.below B1.out HT.out.lt
        have h2 := h1.below B2.out h1.lt
        have h3 := h2.below B3.out h2.lt
        have T4 := Aside0.mk (h3.below B4.out h3.lt)
        clear h1 h2 h3
        have h1 := HR.out.below B1.out HR.out.lt
        have h2 := h1.below B2.out h1.lt
        have h3 := h2.below B3.out h2.lt
        have R4 := Aside0.mk (h3.below B4.out h3.lt)
        clear h1 h2 h3
        have s1 := HB.out.size
        have BW := Aside0.mk ((((HB.out.trans (B1.out.mono s1)).trans (B2.out.mono (Nat.le_trans s1 B1.out.size))).trans (B3.out.mono (Nat.le_trans (Nat.le_trans s1 B1.out.size) B2.out.size))).trans (B4.out.mono (Nat.le_trans (Nat.le_trans (Nat.le_trans s1 B1.out.size) B2.out.size) B3.out.size)))
        clear s1
        have c1 := T4.out.cell p'.toNat (by rw [T_length]; omega)
        have c2 := T4.out.frozen p'.toNat
        have ET := Aside0.mk (show T (n + 1) = (T n).set p'.toNat (sb r) by rw [show T (n + 1) = (T n).set (P (n + 1)).toNat (sb (Q (n + 1))) from rfl, EP.out, E4.out])
        by_cases hn : n + 1 = 255
        · have hp1 : p' = 1 := by rw [← EP.out, hn]; exact P_end
          have hp2 : (p' == 1) = true := beq_iff_eq.mpr hp1
          obtain ⟨L, hL⟩ : ∃ L, L = (T n).set p'.toNat (sb r) := ⟨_, rfl⟩
          have TL := Aside0.mk (show tabL = L.set 0 99 by rw [hL, ← ET.out, hn]; rfl)
          have LL : L.length = 256 := by rw [hL, List.length_set, T_length]
          have LLL := Aside0.mk (show (L.set 0 99).length = 256 by rw [List.length_set, LL])
          have T5 := T4.out.set p'.toNat (sb r)
          rw [← hL] at T5
          have d1 := T5.cell 0 (by omega)
          have d2 := T4.out.frozen 0
          unfold sb at d1
          have T6 := Aside0.mk (T5.set 0 99)
          have R6 := Aside0.mk ((R4.out.other ⟨w.heap.size + 1, p'.toNat, none⟩ (.int .u8 (sb r)) (by show w.heap.size ≠ w.heap.size + 1; omega)).other ⟨w.heap.size + 1, 0, none⟩ (.int .u8 99) (by show w.heap.size ≠ w.heap.size + 1; omega))
          have B6 := Aside0.mk (below_set (j := 0) (v := .int .u8 99) (below_set (j := p'.toNat) (v := .int .u8 (sb r)) BW.out (Nat.le_succ _)) (Nat.le_succ _))
          clear hn hp1 T5 hL LL
          go_wp2_with (first | ((with_reducible refine load_bk (o := { dst := some _, op := .load 26 (.tmp 1), type := _, pos := _, after := _, guard := _ }) 26 (.tmp 1) rfl rfl (w.heap.size + 1) 26 (L.set 0 99) ?_ arr256 ?_ ?_ ?_); (rfl); (exact T6.out); (exact LLL.out)) | ((with_reducible refine store_bk (o := { dst := none, op := .store 26 (.tmp 0) (.tmp 44), type := _, pos := _, after := _, guard := _ }) 26 (.tmp 0) (.tmp 44) rfl rfl w.heap.size 26 z (L.set 0 99) ?_ ?_ arr256 ?_ ?_ ?_ ?_); (rfl); (rfl); (exact R6.out); (exact HL.out); (exact LLL.out)))
          exact ret_bk 0 26 rfl w.heap.size 26 _ rfl arr256 (R6.out.setRow _) LLL.out rfl ⟨by rw [TL.out], below_setRow B6.out (Nat.le_refl _) _⟩
        · have hp1 : p' ≠ 1 := by rw [← EP.out]; exact P_ne n (by have := HN.out; omega)
          have hp2 : (p' == 1) = false := beq_eq_false_iff_ne.mpr hp1
          have HN2 := Aside0.mk hn
          clear hn hp1
          go_wp2_with fail
          go_roundg k1
          case measure => omega
          case rel =>
            refine ⟨n + 1, by rw [EP.out], by rw [E4.out], ⟨by have := HK.out; omega⟩, ⟨by have := HN.out; have := HN2.out; omega⟩, ⟨below_set BW.out (by omega)⟩, ⟨R4.out.other _ _ (by show w.heap.size ≠ w.heap.size + 1; omega)⟩, ⟨?_⟩⟩
            rw [ET.out]
            exact T4.out.set _ _

end Go.Proofs.Ytingegkipimakaa.Ae
