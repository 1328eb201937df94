/- The reference's words of a key: the walk. -/
import Derived.Test.YtingegkipimakaaAe7
namespace Go.Proofs.Ytingegkipimakaa.Ae
open Go.RowKit Go.Proofs.YtingegkipimakaaW.PrintWords Go.Proofs.YtingegkipimakaaW.PrintLast Go.Proofs.YtingegkipimakaaW.PrintMore Go.Proofs.Ytingegkipimakaa.PA
set_option linter.unusedVariables false
set_option linter.unusedSimpArgs false

/-- Where Words stands: the table's copy, the key's, the words. -/
structure Rw (w W : World) (t key l : List Int) : Prop where
  below : Below w.heap.size w W
  tb : Bk W w.heap.size 26 t
  ky : Bk W (w.heap.size + 1) 23 key
  ws : Bk W (w.heap.size + 1 + 1) 5 l
theorem Rw.set {w W : World} {t key l : List Int} (h : Rw w W t key l) (j : Nat) (v : Int) : Rw w (W.setCell ⟨w.heap.size + 1 + 1, j, none⟩ (.int .u8 v)) t key (l.set j v) :=
  ⟨h.below.setCell (by show w.heap.size ≤ w.heap.size + 1 + 1; omega) _, h.tb.other _ _ (by show w.heap.size ≠ w.heap.size + 1 + 1; omega), h.ky.other _ _ (by show w.heap.size + 1 ≠ w.heap.size + 1 + 1; omega), h.ws.set j v⟩
theorem Rw.alloc {w W : World} {t key l : List Int} (h : Rw w W t key l) (o : Obj) : Rw w (W.alloc o) t key l :=
  ⟨h.below.alloc h.below.size _, h.tb.alloc _, h.ky.alloc _, h.ws.alloc _⟩
theorem Rw.drew {w W : World} {t key l : List Int} (h : Rw w W t key l) : Rw w W.drew t key l := ⟨h.below.drew, h.tb, h.ky, h.ws⟩
theorem Rw.call {w W W1 : World} {t key l : List Int} (h : Rw w W t key l) (hb : Below W.heap.size W W1) : Rw w W1 t key l :=
  ⟨h.below.trans (hb.mono h.below.size), h.tb.below hb h.tb.lt, h.ky.below hb h.ky.lt, h.ws.below hb h.ws.lt⟩
/-- .. and in a round of its second loop. -/
structure Rx (w W : World) (t key l : List Int) (gx : Nat) (x : List Int) : Prop where
  n : Rw w W t key l
  x : Bk W gx 52 x
  lt : w.heap.size + 1 + 1 < gx
theorem Rx.setX {w W : World} {t key l x : List Int} {gx : Nat} (h : Rx w W t key l gx x) (j : Nat) (v : Int) : Rx w (W.setCell ⟨gx, j, none⟩ (.int .u8 v)) t key l gx (x.set j v) := by
  have := h.lt
  exact ⟨⟨h.n.below.setCell (by show w.heap.size ≤ gx; omega) _, h.n.tb.other _ _ (by show w.heap.size ≠ gx; omega), h.n.ky.other _ _ (by show w.heap.size + 1 ≠ gx; omega), h.n.ws.other _ _ (by show w.heap.size + 1 + 1 ≠ gx; omega)⟩, h.x.set j v, h.lt⟩
theorem Rx.setW {w W : World} {t key l x : List Int} {gx : Nat} (h : Rx w W t key l gx x) (j : Nat) (v : Int) : Rx w (W.setCell ⟨w.heap.size + 1 + 1, j, none⟩ (.int .u8 v)) t key (l.set j v) gx x :=
  ⟨h.n.set j v, h.x.other _ _ (by have := h.lt; show gx ≠ w.heap.size + 1 + 1; omega), h.lt⟩
theorem Rx.drew {w W : World} {t key l x : List Int} {gx : Nat} (h : Rx w W t key l gx x) : Rx w W.drew t key l gx x := ⟨h.n.drew, h.x, h.lt⟩
theorem Rx.call {w W W1 : World} {t key l x : List Int} {gx : Nat} (h : Rx w W t key l gx x) (hb : Below W.heap.size W W1) : Rx w W1 t key l gx x := ⟨h.n.call hb, h.x.below hb h.x.lt, h.lt⟩
theorem Rx.alloc {w W : World} {t key l x : List Int} {gx : Nat} (h : Rx w W t key l gx x) (o : Obj) : Rx w (W.alloc o) t key l gx x := ⟨h.n.alloc o, h.x.alloc o, h.lt⟩
/-- .. with y besides. -/
structure Ry (w W : World) (t key l : List Int) (gx : Nat) (x : List Int) (gy : Nat) (y : List Int) : Prop where
  n : Rx w W t key l gx x
  y : Bk W gy 52 y
  lt : gx < gy
theorem Ry.setX {w W : World} {t key l x y : List Int} {gx gy : Nat} (h : Ry w W t key l gx x gy y) (j : Nat) (v : Int) : Ry w (W.setCell ⟨gx, j, none⟩ (.int .u8 v)) t key l gx (x.set j v) gy y :=
  ⟨h.n.setX j v, h.y.other _ _ (by have := h.lt; show gy ≠ gx; omega), h.lt⟩

/-- The first n of the key's bytes. -/
def init1 (key : List Int) : Nat → List Int
  | 0 => List.replicate 240 0
  | n + 1 => (init1 key n).set n (key.getD n 0)
theorem init1_zero (key : List Int) : init1 key 0 = List.replicate 240 0 := rfl
theorem init1_succ (key : List Int) (n : Nat) : init1 key (n + 1) = (init1 key n).set n (key.getD n 0) := rfl
theorem init1_length (key : List Int) (n : Nat) : (init1 key n).length = 240 := by
  induction n with
  | zero => exact List.length_replicate
  | succ n ih => rw [init1_succ, List.length_set, ih]
theorem init1_getD (key : List Int) (n : Nat) (hn : n ≤ 240) (j : Nat) : (init1 key n).getD j 0 = if j < n then key.getD j 0 else 0 := by
  induction n with
  | zero => rw [init1_zero, zeros_getD, if_neg (Nat.not_lt_zero _)]
  | succ m ih =>
    rw [init1_succ, getD_set, init1_length, ih (by omega)]
    by_cases h : m = j
    · subst h; rw [if_pos ⟨rfl, by omega⟩, if_pos (by omega)]
    · rw [if_neg (by omega)]
      by_cases h2 : j < m
      · rw [if_pos h2, if_pos (by omega)]
      · rw [if_neg h2, if_neg (by omega)]
theorem getD_ext {a b : List Int} (h : a.length = b.length) (e : ∀ j, a.getD j 0 = b.getD j 0) : a = b := by
  apply List.ext_getElem h
  intro j h1 h2
  have := e j
  rw [List.getD_eq_getElem?_getD, List.getD_eq_getElem?_getD, List.getElem?_eq_getElem h1, List.getElem?_eq_getElem h2] at this
  exact this
theorem init1_init4 (key : List Int) : init1 key 32 = init4 key 8 :=
  getD_ext (by rw [init1_length, init4_length]) fun j => by rw [init1_getD key 32 (by omega), init4_getD key 8 (by omega)]
/-- Four bytes out of the words. -/
def ldL (l : List Int) (b : Nat) : Nat → List Int
  | 0 => [0, 0, 0, 0]
  | k + 1 => (ldL l b k).set k (l.getD (b + k) 0)
theorem ldL_length (l : List Int) (b k : Nat) : (ldL l b k).length = 4 := by
  induction k with
  | zero => rfl
  | succ k ih => rw [ldL, List.length_set, ih]
theorem ldL_four (l : List Int) (i : Nat) (h : 8 ≤ i) : ldL l (4 * i - 4) 4 = lastL l i := by
  obtain ⟨b, hb⟩ : ∃ b, b = 4 * i - 4 := ⟨_, rfl⟩
  have e : (i - 1) * 4 = b := by omega
  rw [← hb]
  unfold lastL
  rw [e]
  rfl
theorem u8s_made (m : Nat) : u8s (List.replicate m 0) = madeCells #[Value.int .u8 0] m := by
  apply Array.ext
  · simp [size_madeCells]
  · intro i h1 h2
    simp [madeCells, Nat.mod_one]
theorem wrd2_by (t key : List Int) (n : Nat) : 0 ≤ (wrd t key n).2 ∧ (wrd t key n).2 < 256 := by
  induction n with
  | zero => rw [wrd_zero]; show (0 : Int) ≤ 1 ∧ (1 : Int) < 256; decide
  | succ n ih =>
    rw [wrd_succ]
    dsimp only
    split
    · unfold twice
      split
      · omega
      · exact bits_by _ _ _
    · exact ih
set_option maxRecDepth 100000 in
theorem times2_all : ∀ n < 256, scriniumref05_Times.f 300 ((n : Nat) : Int) 2 = some (twice (n : Int)) := by decide +kernel
theorem times2 (a : Int) (h0 : 0 ≤ a) (h1 : a < 256) : scriniumref05_Times.f 300 a 2 = some (twice a) := by
  obtain ⟨n, rfl⟩ := Int.eq_ofNat_of_zero_le h0
  exact times2_all n (by omega)

attribute [local irreducible] wrd init4 init1 wordsL in
set_option maxHeartbeats 1000000 in
set_option maxRecDepth 20000 in
theorem words_calls (w : World) (t key : List Int) (ht : t.length = 256) (htb : By t) (hk : key.length = 32) (hkb : By key) :
    Calls Try.prog 15 #[.agg (u8s t), .agg (u8s key)] w fun e w' => ∃ g, e = .returned (.slice (some ⟨g, 0, none⟩) 240 240) ∧ w.heap.size ≤ g ∧ Bk w' g 5 (wordsL t key) ∧ Below w.heap.size w w' := by
  obtain ⟨z, hz240⟩ : ∃ l, l = List.replicate 240 (0 : Int) := ⟨_, rfl⟩
  have hmk : ∀ W : World, (Instr.makeSlice 32 (.int .i64 240) (.int .i64 240)).run Try.prog W = .ok (.slice (some ⟨W.heap.size, 0, none⟩) 240 240) (W.alloc (.cells (u8s z) 5)) := by
    intro W
    have e := print_make (P := Try.prog) 32 5 .u8 1 (by kernel_rfl) (by kernel_rfl) (by omega) 240 (by omega) W
    rw [hz240, u8s_made]
    exact e
  have HZ := Aside0.mk hz240
  have HT := Aside0.mk ht
  have HTB := Aside0.mk htb
  have HK := Aside0.mk hk
  have HKB := Aside0.mk hkb
  clear hz240 ht htb hk hkb
  go_enter Try.func15, Try.ntmps15
  go_wp2_with fail
  have N0 := Aside0.mk (show Rw w (((w.alloc (Obj.cells (u8s t) 26)).alloc (Obj.cells (u8s key) 23)).alloc (Obj.cells (u8s z) 5)) t key z from
    ⟨(((Below.refl _ _).alloc (Nat.le_refl _) _).alloc (by rw [alloc_size]; omega) _).alloc (by rw [alloc_size, alloc_size]; omega) _, ((Bk.new _ _ _).alloc _).alloc _, Bk.alloc (by unfold Bk; exact heap_alloc2_new _ _ _) _,
     by have := Bk.new ((w.alloc (Obj.cells (u8s t) 26)).alloc (Obj.cells (u8s key) 23)) 5 z; rw [alloc_size, alloc_size] at this; exact this⟩)
  clear hmk
  go_loopg [6] 32 (fun kq v6 w' => ∃ (n : Nat), v6 = .int .i64 (n : Int) ∧ Aside0 (n + kq = 32) ∧ Aside0 (Rw w w' t key (init1 key n)))
  case atStart => exact ⟨0, rfl, ⟨rfl⟩, ⟨by rw [init1_zero, ← HZ.out]; exact N0.out⟩⟩
  case round =>
    clear N0
    obtain ⟨n, rfl, HQ, HN⟩ := hrel
    have hq := HQ.out
    cases gk with
    | zero =>
      obtain rfl : n = 32 := by omega
      clear hq HQ
      go_wp2_with fail
      go_loopg [7, 8] 52 (fun kq v7 v8 w' => ∃ (n : Nat), v7 = .int .u8 (wrd t key n).2 ∧ v8 = .int .i64 ((n + 8 : Nat) : Int) ∧ Aside0 (n + kq = 52) ∧ Aside0 (Rw w w' t key (wrd t key n).1))
      case atStart => exact ⟨0, by rw [wrd_zero], rfl, ⟨rfl⟩, by rw [wrd_zero, ← init1_init4]; exact HN⟩
      case round =>
        clear HN
        obtain ⟨n, rfl, rfl, HQ, HN⟩ := hrel
        have hq := HQ.out
        cases gk with
        | zero =>
          obtain rfl : n = 52 := by omega
          clear hq HQ
          go_wp2_with fail
          go_ret
          exact ⟨_, rfl, by omega, by rw [← wrd_end]; exact HN.out.ws, HN.out.below⟩
        | succ k1 =>
          have hn : n < 52 := by omega
          obtain ⟨i, hi⟩ : ∃ i, i = n + 8 := ⟨_, rfl⟩
          obtain ⟨l, hl⟩ : ∃ l, (wrd t key n).1 = l := ⟨_, rfl⟩
          obtain ⟨more, hmore⟩ : ∃ l, (wrd t key n).2 = l := ⟨_, rfl⟩
          have hll : l.length = 240 := by rw [← hl]; exact wrd_length _ _ _
          have hmb := wrd2_by t key n
          rw [hmore] at hmb
          obtain ⟨mb0, mb1⟩ := hmb
          rw [hl] at HN
          rw [hmore, ← hi]
          have HI := Aside0.mk hi
          have HL := Aside0.mk hl
          have HM := Aside0.mk hmore
          have hi1 : (i : Int) < 60 := by omega
          have hi8 : 8 ≤ (i : Int) := by omega
          have i0 : 8 ≤ i := by omega
          have hlb : By l := by rw [← hl]; exact wrd_by _ HKB.out _
          have HLB := Aside0.mk hlb
          have HW := Aside0.mk (show wrd t key (n + 1) = (keyIn l i (yL t l more i) 4, if i % 8 = 0 then twice more else more) by rw [wrd_succ, hl, hmore, hi])
          have HLL := Aside0.mk hll
          clear hq hi hl hmore hll hlb
          go_wp2_with fail
          have N2 := Aside0.mk (show Rx w (wr.alloc (Obj.cells #[Value.int .u8 0, .int .u8 0, .int .u8 0, .int .u8 0] 52)) t key l wr.heap.size [0, 0, 0, 0] from ⟨HN.out.alloc _, Bk.new wr _ [0, 0, 0, 0], HN.out.ws.lt⟩)
          clear HN
          generalize wr.alloc (Obj.cells #[Value.int .u8 0, .int .u8 0, .int .u8 0, .int .u8 0] 52) = W2 at N2 ⊢
          generalize wr.heap.size = gx at N2 ⊢
          go_loopg [10] 4 (fun kr v10 w' => ∃ (k : Nat), v10 = .int .i64 (k : Int) ∧ Aside0 (k + kr = 4) ∧ Aside0 (Rx w w' t key l gx (ldL l (4 * i - 4) k)))
          case atStart => exact ⟨0, rfl, ⟨rfl⟩, N2⟩
          case round =>
            clear N2
            obtain ⟨k, rfl, HK2, NX⟩ := hrel
            have hk2 := HK2.out
            cases gk with
            | succ k2 =>
              have hk : k < 4 := by omega
              have hk3 : (k : Int) < 4 := by omega
              obtain ⟨a, ha⟩ : ∃ a, a = 4 * i - 4 + k := ⟨_, rfl⟩
              have c0 := NX.out.n.ws.cell a (by rw [HLL.out]; omega)
              have c1 := NX.out.x.cell k (by rw [ldL_length]; exact hk)
              have f1 := NX.out.x.frozen k
              have e1 : (4 * (i : Int) - 4 + (k : Int)).toNat = a := by omega
              have a0 : 0 ≤ 4 * (i : Int) - 4 + (k : Int) := by omega
              have a1 : 4 * (i : Int) - 4 + (k : Int) < 240 := by omega
              have HA := Aside0.mk ha
              clear hk2 ha
              go_wp2_with fail
              go_roundg k2
              case measure => clear e1; omega
              case rel =>
                refine ⟨k + 1, by simp, ⟨by have := HK2.out; clear e1; omega⟩, ⟨?_⟩⟩
                rw [show ldL l (4 * i - 4) (k + 1) = (ldL l (4 * i - 4) k).set k (l.getD a 0) from by rw [HA.out]; rfl]
                exact NX.out.setX k _
            | zero =>
              obtain rfl : k = 4 := by omega
              clear hk2 HK2
              have hx4 := ldL_four l i i0
              rw [hx4] at NX
              obtain ⟨x0, e0⟩ : ∃ x, l.getD ((i - 1) * 4) 0 = x := ⟨_, rfl⟩
              obtain ⟨x1, e1⟩ : ∃ x, l.getD ((i - 1) * 4 + 1) 0 = x := ⟨_, rfl⟩
              obtain ⟨x2, e2⟩ : ∃ x, l.getD ((i - 1) * 4 + 2) 0 = x := ⟨_, rfl⟩
              obtain ⟨x3, e3⟩ : ∃ x, l.getD ((i - 1) * 4 + 3) 0 = x := ⟨_, rfl⟩
              have b0 := HLB.out ((i - 1) * 4)
              have b1 := HLB.out ((i - 1) * 4 + 1)
              have b2 := HLB.out ((i - 1) * 4 + 2)
              have b3 := HLB.out ((i - 1) * 4 + 3)
              rw [e0] at b0
              rw [e1] at b1
              rw [e2] at b2
              rw [e3] at b3
              obtain ⟨lo0, up0⟩ := b0
              obtain ⟨lo1, up1⟩ := b1
              obtain ⟨lo2, up2⟩ := b2
              obtain ⟨lo3, up3⟩ := b3
              have hxx : lastL l i = [x0, x1, x2, x3] := by rw [← e0, ← e1, ← e2, ← e3]; rfl
              rw [hxx] at NX
              have HX := Aside0.mk hxx
              clear hx4 hxx e0 e1 e2 e3
              by_cases m0 : i % 8 = 0
              · have m1 : ((i : Int) % 8 == 0) = true := by rw [beq_iff_eq]; omega
                have m5 : ((i : Int) % 8 == 4) = false := by rw [beq_eq_false_iff_ne]; omega
                have NY := Aside0.mk (show Ry w (wr.alloc (Obj.cells #[Value.int .u8 x0, .int .u8 x1, .int .u8 x2, .int .u8 x3] 52)) t key l gx [x0, x1, x2, x3] wr.heap.size [x0, x1, x2, x3] from ⟨NX.out.alloc _, Bk.new wr _ [x0, x1, x2, x3], NX.out.x.lt⟩)
                obtain ⟨y0, hy0⟩ : ∃ y, t.getD x0.toNat 0 = y := ⟨_, rfl⟩
                have t0 := NY.out.n.n.tb.cell x0.toNat (by rw [HT.out]; omega)
                rw [hy0] at t0
                have HY0 := Aside0.mk hy0
                clear hy0
                have x0c := NY.out.n.x.cell 0 (show 0 < 4 by decide)
                have x0f := NY.out.n.x.frozen 0
                have y0c := NY.out.y.cell 0 (show 0 < 4 by decide)
                obtain ⟨y1, hy1⟩ : ∃ y, t.getD x1.toNat 0 = y := ⟨_, rfl⟩
                have t1 := NY.out.n.n.tb.cell x1.toNat (by rw [HT.out]; omega)
                rw [hy1] at t1
                have HY1 := Aside0.mk hy1
                clear hy1
                have x1c := NY.out.n.x.cell 1 (show 1 < 4 by decide)
                have x1f := NY.out.n.x.frozen 1
                have y1c := NY.out.y.cell 1 (show 1 < 4 by decide)
                obtain ⟨y2, hy2⟩ : ∃ y, t.getD x2.toNat 0 = y := ⟨_, rfl⟩
                have t2 := NY.out.n.n.tb.cell x2.toNat (by rw [HT.out]; omega)
                rw [hy2] at t2
                have HY2 := Aside0.mk hy2
                clear hy2
                have x2c := NY.out.n.x.cell 2 (show 2 < 4 by decide)
                have x2f := NY.out.n.x.frozen 2
                have y2c := NY.out.y.cell 2 (show 2 < 4 by decide)
                obtain ⟨y3, hy3⟩ : ∃ y, t.getD x3.toNat 0 = y := ⟨_, rfl⟩
                have t3 := NY.out.n.n.tb.cell x3.toNat (by rw [HT.out]; omega)
                rw [hy3] at t3
                have HY3 := Aside0.mk hy3
                clear hy3
                have x3c := NY.out.n.x.cell 3 (show 3 < 4 by decide)
                have x3f := NY.out.n.x.frozen 3
                have y3c := NY.out.y.cell 3 (show 3 < 4 by decide)
                have g1 : ¬ gx = wr.heap.size := Nat.ne_of_lt NX.out.x.lt
                have g2 : ¬ wr.heap.size = gx := fun h => g1 h.symm
                have g3 : ¬ gx = w.heap.size := by have := NX.out.lt; omega
                have g4 : ¬ w.heap.size = gx := fun h => g3 h.symm
                go_wp2_with (first | ((with_reducible refine load_bk (o := { dst := some _, op := .load 52 (.tmp 9), type := _, pos := _, after := _, guard := _ }) 52 (.tmp 9) rfl rfl gx 52 [x0, x1, x2, x3] ?_ arr4 ?_ ?_ ?_); (rfl); (exact NX.out.x); (rfl)))
                refine (scriniumref05_Times.calls 300 _ _ _ _ (times2 more mb0 mb1)).mono ?_
                rintro e w9 ⟨rfl, hd⟩
                obtain ⟨xs, hxs⟩ : ∃ xs, xs = [Go.bits .xor .u8 y1 more, y2, y3, y0] := ⟨_, rfl⟩
                have NX0 := (((NY.out.setX 0 (Go.bits .xor .u8 y1 more)).setX 1 y2).setX 2 y3).setX 3 y0
                clear NX
                have NX := Aside0.mk (show Rx w w9 t key l gx xs from by rw [hxs]; exact NX0.n.call (drawn_below hd))
                have HXL := Aside0.mk (show xs.length = 4 by rw [hxs]; rfl)
                have HYL := Aside0.mk (show yL t l more i = xs by unfold yL; rw [if_pos m0, HX.out, hxs, ← HY0.out, ← HY1.out, ← HY2.out, ← HY3.out]; rfl)
                have HMM := Aside0.mk (show (if i % 8 = 0 then twice more else more) = twice more from if_pos m0)
                clear NX0 NY hd hxs t0 t1 t2 t3 x0c x1c x2c x3c x0f x1f x2f x3f y0c y1c y2c y3c g1 g2 g3 g4
                go_wp2_with fail
                go_loopg [13] 4 (fun kr v13 w' => ∃ (k : Nat), v13 = .int .i64 (k : Int) ∧ Aside0 (k + kr = 4) ∧ Aside0 (Rx w w' t key (keyIn l i xs k) gx xs))
                case atStart => exact ⟨0, rfl, ⟨rfl⟩, NX⟩
                case round =>
                  clear NX
                  obtain ⟨k, rfl, HK2, NX⟩ := hrel
                  have hk2 := HK2.out
                  cases gk with
                  | zero =>
                    obtain rfl : k = 4 := by omega
                    clear hk2 HK2
                    go_wp2_with fail
                    go_roundg k1
                    case measure => omega
                    case rel =>
                      refine ⟨n + 1, by rw [HW.out, HMM.out], by congr 1; have := HI.out; omega, ⟨by have := HQ.out; omega⟩, ⟨?_⟩⟩
                      rw [HW.out, HYL.out]
                      exact NX.out.n
                  | succ k2 =>
                    have hk : k < 4 := by omega
                    have hk3 : (k : Int) < 4 := by omega
                    obtain ⟨a, ha⟩ : ∃ a, a = i * 4 + k := ⟨_, rfl⟩
                    obtain ⟨b, hb⟩ : ∃ b, b = (i - 8) * 4 + k := ⟨_, rfl⟩
                    have c0 := NX.out.n.ws.cell b (by rw [keyIn_length, HLL.out]; omega)
                    have c1 := NX.out.n.ws.cell a (by rw [keyIn_length, HLL.out]; omega)
                    have c2 := NX.out.x.cell k (by rw [HXL.out]; exact hk)
                    have f1 := NX.out.n.ws.frozen a
                    have a1 : (a : Int) < 240 := by omega
                    have b1 : (b : Int) < 240 := by omega
                    have E1 : IntKind.i64.wrap (IntKind.i64.wrap (4 * (i : Int)) + (k : Int)) = (a : Int) := by
                      rw [IntWalk.i64_in (4 * (i : Int)) (by omega), IntWalk.i64_in _ (by omega)]; omega
                    have E2 : IntKind.i64.wrap (IntKind.i64.wrap (IntKind.i64.wrap (4 * (i : Int)) - 32) + (k : Int)) = (b : Int) := by
                      clear E1; rw [IntWalk.i64_in (4 * (i : Int)) (by omega), IntWalk.i64_in (4 * (i : Int) - 32) (by omega), IntWalk.i64_in _ (by omega)]; omega
                    have HA := Aside0.mk ha
                    have HB := Aside0.mk hb
                    clear hk2 ha hb
                    go_wp2_with fail
                    go_still_tail 17, (by kernel_rfl)
                    change wpList _ _ _ _ _ wr.drew
                    go_wp2_with fail
                    go_roundg k2
                    case measure => clear E1 E2; omega
                    case rel =>
                      refine ⟨k + 1, by simp, ⟨by have := HK2.out; clear E1 E2; omega⟩, ⟨?_⟩⟩
                      have e := NX.out.drew.setW a (Go.bits .xor .u8 ((keyIn l i xs k).getD b 0) (xs.getD k 0))
                      rw [HA.out, HB.out] at e
                      rw [HA.out]
                      rw [HB.out]
                      exact e
              · by_cases m4 : i % 8 = 4
                · have m1 : ((i : Int) % 8 == 0) = false := by rw [beq_eq_false_iff_ne]; omega
                  have m5 : ((i : Int) % 8 == 4) = true := by rw [beq_iff_eq]; omega
                  obtain ⟨xs0, hxs0⟩ : ∃ xs, xs = [x0, x1, x2, x3] := ⟨_, rfl⟩
                  rw [← hxs0] at NX
                  have HX0 := Aside0.mk hxs0
                  clear hxs0
                  have HXB := Aside0.mk (show By xs0 by rw [HX0.out]; intro j; match j with | 0 => exact ⟨lo0, up0⟩ | 1 => exact ⟨lo1, up1⟩ | 2 => exact ⟨lo2, up2⟩ | 3 => exact ⟨lo3, up3⟩ | j + 4 => exact ⟨Int.le_refl 0, (by decide : (0 : Int) < 256)⟩)
                  have HX4 := Aside0.mk (show xs0.length = 4 by rw [HX0.out]; rfl)
                  go_wp2_with fail
                  go_loopg [12] 4 (fun kr v12 w' => ∃ (k : Nat), v12 = .int .i64 (k : Int) ∧ Aside0 (k + kr = 4) ∧ Aside0 (Rx w w' t key l gx (mapIn t xs0 k)))
                  case atStart => exact ⟨0, rfl, ⟨rfl⟩, NX⟩
                  case round =>
                    clear NX
                    obtain ⟨k, rfl, HK2, NX⟩ := hrel
                    have hk2 := HK2.out
                    cases gk with
                    | zero =>
                      obtain rfl : k = 4 := by omega
                      clear hk2 HK2
                      obtain ⟨xs, hxs⟩ : ∃ xs, xs = mapIn t xs0 4 := ⟨_, rfl⟩
                      rw [← hxs] at NX
                      have HXL := Aside0.mk (show xs.length = 4 by rw [hxs, mapIn_length, HX4.out])
                      have HYL := Aside0.mk (show yL t l more i = xs by unfold yL; rw [if_neg m0, if_pos m4, HX.out, hxs, HX0.out])
                      have HMM := Aside0.mk (show (if i % 8 = 0 then twice more else more) = more from if_neg m0)
                      clear hxs
                      go_wp2_with fail
                      go_loopg [13] 4 (fun kr v13 w' => ∃ (k : Nat), v13 = .int .i64 (k : Int) ∧ Aside0 (k + kr = 4) ∧ Aside0 (Rx w w' t key (keyIn l i xs k) gx xs))
                      case atStart => exact ⟨0, rfl, ⟨rfl⟩, NX⟩
                      case round =>
                        clear NX
                        obtain ⟨k, rfl, HK2, NX⟩ := hrel
                        have hk2 := HK2.out
                        cases gk with
                        | zero =>
                          obtain rfl : k = 4 := by omega
                          clear hk2 HK2
                          go_wp2_with fail
                          go_roundg k1
                          case measure => omega
                          case rel =>
                            refine ⟨n + 1, by rw [HW.out, HMM.out], by congr 1; have := HI.out; omega, ⟨by have := HQ.out; omega⟩, ⟨?_⟩⟩
                            rw [HW.out, HYL.out]
                            exact NX.out.n
                        | succ k2 =>
                          have hk : k < 4 := by omega
                          have hk3 : (k : Int) < 4 := by omega
                          obtain ⟨a, ha⟩ : ∃ a, a = i * 4 + k := ⟨_, rfl⟩
                          obtain ⟨b, hb⟩ : ∃ b, b = (i - 8) * 4 + k := ⟨_, rfl⟩
                          have c0 := NX.out.n.ws.cell b (by rw [keyIn_length, HLL.out]; omega)
                          have c1 := NX.out.n.ws.cell a (by rw [keyIn_length, HLL.out]; omega)
                          have c2 := NX.out.x.cell k (by rw [HXL.out]; exact hk)
                          have f1 := NX.out.n.ws.frozen a
                          have a1 : (a : Int) < 240 := by omega
                          have b1 : (b : Int) < 240 := by omega
                          have E1 : IntKind.i64.wrap (IntKind.i64.wrap (4 * (i : Int)) + (k : Int)) = (a : Int) := by
                            rw [IntWalk.i64_in (4 * (i : Int)) (by omega), IntWalk.i64_in _ (by omega)]; omega
                          have E2 : IntKind.i64.wrap (IntKind.i64.wrap (IntKind.i64.wrap (4 * (i : Int)) - 32) + (k : Int)) = (b : Int) := by
                            clear E1; rw [IntWalk.i64_in (4 * (i : Int)) (by omega), IntWalk.i64_in (4 * (i : Int) - 32) (by omega), IntWalk.i64_in _ (by omega)]; omega
                          have HA := Aside0.mk ha
                          have HB := Aside0.mk hb
                          clear hk2 ha hb
                          go_wp2_with fail
                          go_still_tail 17, (by kernel_rfl)
                          change wpList _ _ _ _ _ wr.drew
                          go_wp2_with fail
                          go_roundg k2
                          case measure => clear E1 E2; omega
                          case rel =>
                            refine ⟨k + 1, by simp, ⟨by have := HK2.out; clear E1 E2; omega⟩, ⟨?_⟩⟩
                            have e := NX.out.drew.setW a (Go.bits .xor .u8 ((keyIn l i xs k).getD b 0) (xs.getD k 0))
                            rw [HA.out, HB.out] at e
                            rw [HA.out]
                            rw [HB.out]
                            exact e
                    | succ k2 =>
                      have hk : k < 4 := by omega
                      have hk3 : (k : Int) < 4 := by omega
                      obtain ⟨x, hx⟩ : ∃ x, (mapIn t xs0 k).getD k 0 = x := ⟨_, rfl⟩
                      have c0 := NX.out.x.cell k (by rw [mapIn_length, HX4.out]; exact hk)
                      have f0 := NX.out.x.frozen k
                      rw [hx] at c0
                      have hxe : x = xs0.getD k 0 := by rw [← hx]; exact mapIn_at t xs0 k k (Nat.le_refl _)
                      obtain ⟨p0, p1⟩ := HXB.out k
                      rw [← hxe] at p0 p1
                      have c1 := NX.out.n.tb.cell x.toNat (by rw [HT.out]; omega)
                      have HXE := Aside0.mk hx
                      clear hk2 hx hxe
                      go_wp2_with fail
                      go_roundg k2
                      case measure => omega
                      case rel =>
                        refine ⟨k + 1, by simp, ⟨by have := HK2.out; omega⟩, ⟨?_⟩⟩
                        rw [show mapIn t xs0 (k + 1) = (mapIn t xs0 k).set k (t.getD x.toNat 0) from by rw [← HXE.out]; rfl]
                        exact NX.out.setX k _
                · have m1 : ((i : Int) % 8 == 0) = false := by rw [beq_eq_false_iff_ne]; omega
                  have m5 : ((i : Int) % 8 == 4) = false := by rw [beq_eq_false_iff_ne]; omega
                  obtain ⟨xs, hxs⟩ : ∃ xs, xs = [x0, x1, x2, x3] := ⟨_, rfl⟩
                  rw [← hxs] at NX
                  have HXL := Aside0.mk (show xs.length = 4 by rw [hxs]; rfl)
                  have HYL := Aside0.mk (show yL t l more i = xs by unfold yL; rw [if_neg m0, if_neg m4, HX.out, hxs])
                  have HMM := Aside0.mk (show (if i % 8 = 0 then twice more else more) = more from if_neg m0)
                  clear hxs
                  go_wp2_with fail
                  go_loopg [13] 4 (fun kr v13 w' => ∃ (k : Nat), v13 = .int .i64 (k : Int) ∧ Aside0 (k + kr = 4) ∧ Aside0 (Rx w w' t key (keyIn l i xs k) gx xs))
                  case atStart => exact ⟨0, rfl, ⟨rfl⟩, NX⟩
                  case round =>
                    clear NX
                    obtain ⟨k, rfl, HK2, NX⟩ := hrel
                    have hk2 := HK2.out
                    cases gk with
                    | zero =>
                      obtain rfl : k = 4 := by omega
                      clear hk2 HK2
                      go_wp2_with fail
                      go_roundg k1
                      case measure => omega
                      case rel =>
                        refine ⟨n + 1, by rw [HW.out, HMM.out], by congr 1; have := HI.out; omega, ⟨by have := HQ.out; omega⟩, ⟨?_⟩⟩
                        rw [HW.out, HYL.out]
                        exact NX.out.n
                    | succ k2 =>
                      have hk : k < 4 := by omega
                      have hk3 : (k : Int) < 4 := by omega
                      obtain ⟨a, ha⟩ : ∃ a, a = i * 4 + k := ⟨_, rfl⟩
                      obtain ⟨b, hb⟩ : ∃ b, b = (i - 8) * 4 + k := ⟨_, rfl⟩
                      have c0 := NX.out.n.ws.cell b (by rw [keyIn_length, HLL.out]; omega)
                      have c1 := NX.out.n.ws.cell a (by rw [keyIn_length, HLL.out]; omega)
                      have c2 := NX.out.x.cell k (by rw [HXL.out]; exact hk)
                      have f1 := NX.out.n.ws.frozen a
                      have a1 : (a : Int) < 240 := by omega
                      have b1 : (b : Int) < 240 := by omega
                      have E1 : IntKind.i64.wrap (IntKind.i64.wrap (4 * (i : Int)) + (k : Int)) = (a : Int) := by
                        rw [IntWalk.i64_in (4 * (i : Int)) (by omega), IntWalk.i64_in _ (by omega)]; omega
                      have E2 : IntKind.i64.wrap (IntKind.i64.wrap (IntKind.i64.wrap (4 * (i : Int)) - 32) + (k : Int)) = (b : Int) := by
                        clear E1; rw [IntWalk.i64_in (4 * (i : Int)) (by omega), IntWalk.i64_in (4 * (i : Int) - 32) (by omega), IntWalk.i64_in _ (by omega)]; omega
                      have HA := Aside0.mk ha
                      have HB := Aside0.mk hb
                      clear hk2 ha hb
                      go_wp2_with fail
                      go_still_tail 17, (by kernel_rfl)
                      change wpList _ _ _ _ _ wr.drew
                      go_wp2_with fail
                      go_roundg k2
                      case measure => clear E1 E2; omega
                      case rel =>
                        refine ⟨k + 1, by simp, ⟨by have := HK2.out; clear E1 E2; omega⟩, ⟨?_⟩⟩
                        have e := NX.out.drew.setW a (Go.bits .xor .u8 ((keyIn l i xs k).getD b 0) (xs.getD k 0))
                        rw [HA.out, HB.out] at e
                        rw [HA.out]
                        rw [HB.out]
                        exact e
    | succ k1 =>
      have hn : n < 32 := by omega
      have hkl := HK.out
      have c0 := HN.out.ky.cell n (by omega)
      have d0 := HN.out.ws.cell n (by rw [init1_length]; omega)
      have f0 := HN.out.ws.frozen n
      clear hkl hq
      go_wp2_with fail
      go_roundg k1
      case measure => omega
      case rel => exact ⟨n + 1, by simp, ⟨by have := HQ.out; omega⟩, ⟨by rw [init1_succ]; exact HN.out.set n _⟩⟩

end Go.Proofs.Ytingegkipimakaa.Ae
