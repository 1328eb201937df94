/- The reference's block: the walk. -/
import Derived.Test.YtingegkipimakaaAe8
namespace Go.Proofs.Ytingegkipimakaa.Ae
open Go.RowKit Go.Proofs.YtingegkipimakaaW.PrintWords Go.Proofs.YtingegkipimakaaW.PrintLast Go.Proofs.YtingegkipimakaaW.PrintMore Go.Proofs.Ytingegkipimakaa.PA
set_option linter.unusedVariables false
set_option linter.unusedSimpArgs false

set_option maxHeartbeats 8000000 in
set_option maxRecDepth 100000 in
theorem times_same (k : Nat) (a0 : Int) (a1 : Int) (r : Int) (w : World) (h : scriniumref05_Times.f k a0 a1 = some r) :
    Calls Try.prog 28 #[.int .u8 a0, .int .u8 a1] w fun e w' => e = .returned (.int .u8 r) ∧ w' = w := by
  have H : (scriniumref05_Times.l0 k (wrap64 (a0)) 0 (wrap64 (a1))) = some r := h
  clear h
  have H' := Aside0.mk H
  clear H
  go_enter Try.func28, Try.ntmps28
  go_wp2
  go_loopg [5, 6, 7] k (fun kq v5 v6 v7 w' => ∃ (x5_1 : Int) (x6_1 : Int) (x7_1 : Int), v5 = .int .i64 x5_1 ∧ v6 = .int .i64 x6_1 ∧ v7 = .int .i64 x7_1 ∧ Aside0 (scriniumref05_Times.l0 kq x5_1 x6_1 x7_1 = some r) ∧ Aside0 (kq ≤ k) ∧ w' = w)
  case atStart => exact ⟨(wrap64 (a0)), (0), (wrap64 (a1)), (by first | rfl | (simp; done) | (simp [*]; done)), (by first | rfl | (simp; done) | (simp [*]; done)), (by first | rfl | (simp; done) | (simp [*]; done)), H', ⟨Nat.le_refl _⟩, rfl⟩
  case round =>
    clear H'
    try clear c2
    try clear p2
    obtain ⟨x5_1, x6_1, x7_1, rfl, rfl, rfl, HA, HK1, rfl⟩ := hrel
    cases gk with
    | zero => exact absurd HA.out (by simp [scriniumref05_Times.l0])
    | succ k1 =>
      have H := HA.out
      clear HA
      simp only [scriniumref05_Times.l0] at H
      by_cases c3 : x7_1 > 0
      · rw [if_pos c3] at H
        have c3b0 : decide (0 < x7_1) = true := decide_eq_true c3
        clear c3
        by_cases c4 : (Int.tmod x7_1 2) = 1
        · rw [if_pos c4] at H
          have c4b0 : ((Int.tmod x7_1 2) == 1) = true := beq_iff_eq.mpr c4
          have c4b1 : ((Int.tmod x7_1 2) != 1) = false := bne_eq_false_iff_eq.mpr c4
          clear c4
          by_cases c5 : (wrap64 (2 * x5_1)) > 255
          · rw [if_pos c5] at H
            have c5b0 : decide (255 < (wrap64 (2 * x5_1))) = true := decide_eq_true c5
            clear c5
            have H' := Aside0.mk H
            clear H
            go_wp2
            go_roundg k1
            case measure => have := HK1.out; omega
            case rel => exact ⟨(Go.bits .xor .i64 (wrap64 (2 * x5_1)) 283), (Go.bits .xor .i64 x6_1 x5_1), (wrap64 (Int.tdiv x7_1 2)), (by first | rfl | (simp; done) | (simp [*]; done)), (by first | rfl | (simp; done) | (simp [*]; done)), (by first | rfl | (simp; done) | (simp [*]; done)), H', ⟨by have := HK1.out; omega⟩, rfl⟩
          · rw [if_neg c5] at H
            have c5b0 : decide (255 < (wrap64 (2 * x5_1))) = false := decide_eq_false c5
            clear c5
            have H' := Aside0.mk H
            clear H
            go_wp2
            go_roundg k1
            case measure => have := HK1.out; omega
            case rel => exact ⟨(wrap64 (2 * x5_1)), (Go.bits .xor .i64 x6_1 x5_1), (wrap64 (Int.tdiv x7_1 2)), (by first | rfl | (simp; done) | (simp [*]; done)), (by first | rfl | (simp; done) | (simp [*]; done)), (by first | rfl | (simp; done) | (simp [*]; done)), H', ⟨by have := HK1.out; omega⟩, rfl⟩
        · rw [if_neg c4] at H
          have c4b0 : ((Int.tmod x7_1 2) == 1) = false := beq_eq_false_iff_ne.mpr c4
          have c4b1 : ((Int.tmod x7_1 2) != 1) = true := bne_iff_ne.mpr c4
          by_cases c6 : (wrap64 (2 * x5_1)) > 255
          · rw [if_pos c6] at H
            have c6b0 : decide (255 < (wrap64 (2 * x5_1))) = true := decide_eq_true c6
            clear c6
            have H' := Aside0.mk H
            clear H
            go_wp2
            go_roundg k1
            case measure => have := HK1.out; omega
            case rel => exact ⟨(Go.bits .xor .i64 (wrap64 (2 * x5_1)) 283), (x6_1), (wrap64 (Int.tdiv x7_1 2)), (by first | rfl | (simp; done) | (simp [*]; done)), (by first | rfl | (simp; done) | (simp [*]; done)), (by first | rfl | (simp; done) | (simp [*]; done)), H', ⟨by have := HK1.out; omega⟩, rfl⟩
          · rw [if_neg c6] at H
            have c6b0 : decide (255 < (wrap64 (2 * x5_1))) = false := decide_eq_false c6
            clear c6
            have H' := Aside0.mk H
            clear H
            go_wp2
            go_roundg k1
            case measure => have := HK1.out; omega
            case rel => exact ⟨(wrap64 (2 * x5_1)), (x6_1), (wrap64 (Int.tdiv x7_1 2)), (by first | rfl | (simp; done) | (simp [*]; done)), (by first | rfl | (simp; done) | (simp [*]; done)), (by first | rfl | (simp; done) | (simp [*]; done)), H', ⟨by have := HK1.out; omega⟩, rfl⟩
      · rw [if_neg c3] at H
        have c3b0 : decide (0 < x7_1) = false := decide_eq_false c3
        clear c3
        obtain rfl := Option.some.inj H
        go_wp2
        go_ret
        exact ⟨by first | rfl | (simp; done) | (simp [*]; done), rfl⟩

-- NOT PRINTED: function 14 (scriniumref05_Block)

-- NOT PRINTED: function 15 (scriniumref05_Words)

-- NOT PRINTED: function 3 (scriniumlaw05_AesBlock)

/-- The first n cells are f's. -/
def fillL (f : Nat → Int) (z : List Int) : Nat → List Int
  | 0 => z
  | n + 1 => (fillL f z n).set n (f n)
theorem fillL_zero (f : Nat → Int) (z : List Int) : fillL f z 0 = z := rfl
theorem fillL_succ (f : Nat → Int) (z : List Int) (n : Nat) : fillL f z (n + 1) = (fillL f z n).set n (f n) := rfl
theorem fillL_length (f : Nat → Int) (z : List Int) (n : Nat) : (fillL f z n).length = z.length := by
  induction n with
  | zero => rfl
  | succ n ih => rw [fillL_succ, List.length_set, ih]
theorem fillL_getD (f : Nat → Int) (z : List Int) (n : Nat) (hn : n ≤ z.length) (j : Nat) : (fillL f z n).getD j 0 = if j < n then f j else z.getD j 0 := by
  induction n with
  | zero => rw [fillL_zero, if_neg (Nat.not_lt_zero _)]
  | succ m ih =>
    rw [fillL_succ, getD_set, fillL_length, ih (by omega)]
    by_cases h : m = j
    · subst h; rw [if_pos ⟨rfl, by omega⟩, if_pos (by omega)]
    · rw [if_neg (by omega)]
      by_cases h2 : j < m
      · rw [if_pos h2, if_pos (by omega)]
      · rw [if_neg h2, if_neg (by omega)]
theorem fillL_at (f : Nat → Int) (z : List Int) (n : Nat) (hn : n ≤ z.length) : (fillL f z n).getD n 0 = z.getD n 0 := by
  rw [fillL_getD f z n hn, if_neg (Nat.lt_irrefl _)]
theorem fillL_by {f : Nat → Int} (hf : ∀ n, 0 ≤ f n ∧ f n < 256) {z : List Int} (hz : By z) (n : Nat) : By (fillL f z n) := by
  induction n with
  | zero => exact hz
  | succ n ih => exact ih.set _ _ (hf n).1 (hf n).2

def xo (a b : Int) : Int := Go.bits .xor .u8 a b
def ry (t s : List Int) (n : Nat) : Int := t.getD (s.getD (4 * ((n / 4 + n % 4) % 4) + n % 4) 0).toNat 0
def rz (y : List Int) (n : Nat) : Int := Go.bits .xor .u8 (Go.bits .xor .u8 (Go.bits .xor .u8 (twice (y.getD n 0)) (Go.bits .xor .u8 (twice (y.getD (4 * (n / 4) + (n % 4 + 1) % 4) 0)) (y.getD (4 * (n / 4) + (n % 4 + 1) % 4) 0))) (y.getD (4 * (n / 4) + (n % 4 + 2) % 4) 0)) (y.getD (4 * (n / 4) + (n % 4 + 3) % 4) 0)
def zs : List Int := List.replicate 16 0
def yR (t s : List Int) : List Int := fillL (ry t s) zs 16
def zR (t s : List Int) : List Int := fillL (rz (yR t s)) zs 16
def kR (ws : List Int) (b : Nat) (y : List Int) (i : Nat) : Int := Go.bits .xor .u8 (y.getD i 0) (ws.getD (b + i) 0)
def rnd (t ws : List Int) : Nat → List Int → List Int
  | 0, x => fillL (kR ws 0 x) x 16
  | r + 1, x => fillL (kR ws (16 * (r + 1)) (if r + 1 < 14 then zR t (rnd t ws r x) else yR t (rnd t ws r x))) (rnd t ws r x) 16
theorem zs_length : zs.length = 16 := rfl
theorem yR_length (t s : List Int) : (yR t s).length = 16 := by rw [yR, fillL_length]; rfl
theorem zR_length (t s : List Int) : (zR t s).length = 16 := by rw [zR, fillL_length]; rfl
theorem rnd_length (t ws : List Int) {x : List Int} (hx : x.length = 16) (r : Nat) : (rnd t ws r x).length = 16 := by
  induction r with
  | zero => rw [rnd, fillL_length, hx]
  | succ r ih => rw [rnd, fillL_length, ih]
theorem rnd_by (t ws : List Int) {x : List Int} (hx : By x) (r : Nat) : By (rnd t ws r x) := by
  induction r with
  | zero => exact fillL_by (fun n => bits_by _ _ _) hx _
  | succ r ih => exact fillL_by (fun n => bits_by _ _ _) ih _
theorem yR_by {t : List Int} (ht : By t) (s : List Int) : By (yR t s) := fillL_by (fun n => ht _) (By.zeros 16) _
theorem rnd_zero (t ws x : List Int) : rnd t ws 0 x = fillL (kR ws 0 x) x 16 := rfl
theorem rnd_succ (t ws x : List Int) (r : Nat) : rnd t ws (r + 1) x = fillL (kR ws (16 * (r + 1)) (if r + 1 < 14 then zR t (rnd t ws r x) else yR t (rnd t ws r x))) (rnd t ws r x) 16 := rfl
set_option maxRecDepth 100000 in
theorem times3_all : ∀ n < 256, scriniumref05_Times.f 300 ((n : Nat) : Int) 3 = some (Go.bits .xor .u8 (twice (n : Int)) (n : Int)) := by decide +kernel
theorem times3 (a : Int) (h0 : 0 ≤ a) (h1 : a < 256) : scriniumref05_Times.f 300 a 3 = some (Go.bits .xor .u8 (twice a) a) := by
  obtain ⟨n, rfl⟩ := Int.eq_ofNat_of_zero_le h0
  exact times3_all n (by omega)

/-- Where the reference's Block stands. -/
structure Rb (w W : World) (g : Nat) (t ws s : List Int) : Prop where
  below : Below w.heap.size w W
  tb : Bk W w.heap.size 26 t
  out : Bk W (w.heap.size + 1 + 1) 24 zs
  s : Bk W (w.heap.size + 1 + 1 + 1) 24 s
  ws : Bk W g 5 ws
  lt : g < w.heap.size
theorem Rb.set {w W : World} {g : Nat} {t ws s : List Int} (h : Rb w W g t ws s) (j : Nat) (v : Int) : Rb w (W.setCell ⟨w.heap.size + 1 + 1 + 1, j, none⟩ (.int .u8 v)) g t ws (s.set j v) :=
  ⟨h.below.setCell (by show w.heap.size ≤ w.heap.size + 1 + 1 + 1; omega) _, h.tb.other _ _ (by show w.heap.size ≠ w.heap.size + 1 + 1 + 1; omega), h.out.other _ _ (by show w.heap.size + 1 + 1 ≠ w.heap.size + 1 + 1 + 1; omega), h.s.set j v, h.ws.other _ _ (by have := h.lt; show g ≠ w.heap.size + 1 + 1 + 1; omega), h.lt⟩
theorem Rb.setX {w W : World} {g : Nat} {t ws s : List Int} (h : Rb w W g t ws s) (gx j : Nat) (v : Int) (hx : w.heap.size + 1 + 1 + 1 < gx) : Rb w (W.setCell ⟨gx, j, none⟩ (.int .u8 v)) g t ws s :=
  ⟨h.below.setCell (by show w.heap.size ≤ gx; omega) _, h.tb.other _ _ (by show w.heap.size ≠ gx; omega), h.out.other _ _ (by show w.heap.size + 1 + 1 ≠ gx; omega), h.s.other _ _ (by show w.heap.size + 1 + 1 + 1 ≠ gx; omega), h.ws.other _ _ (by have := h.lt; show g ≠ gx; omega), h.lt⟩
theorem Rb.rowX {w W : World} {g : Nat} {t ws s : List Int} (h : Rb w W g t ws s) (gx : Nat) (l : List Int) (hx : w.heap.size + 1 + 1 + 1 < gx) : Rb w (W.setRow gx (u8s l)) g t ws s :=
  ⟨below_setRow h.below (by omega) _, h.tb.rowOther _ _ (by omega), h.out.rowOther _ _ (by omega), h.s.rowOther _ _ (by omega), h.ws.rowOther _ _ (by have := h.lt; omega), h.lt⟩
theorem Rb.alloc {w W : World} {g : Nat} {t ws s : List Int} (h : Rb w W g t ws s) (o : Obj) : Rb w (W.alloc o) g t ws s :=
  ⟨h.below.alloc h.below.size _, h.tb.alloc _, h.out.alloc _, h.s.alloc _, h.ws.alloc _, h.lt⟩
theorem Rb.drew {w W : World} {g : Nat} {t ws s : List Int} (h : Rb w W g t ws s) : Rb w W.drew g t ws s := ⟨h.below.drew, h.tb, h.out, h.s, h.ws, h.lt⟩
structure Rc (w W : World) (g : Nat) (t ws s : List Int) (gy : Nat) (y : List Int) : Prop where
  n : Rb w W g t ws s
  y : Bk W gy 24 y
  lt : w.heap.size + 1 + 1 + 1 < gy
theorem Rc.setY {w W : World} {g gy : Nat} {t ws s y : List Int} (h : Rc w W g t ws s gy y) (j : Nat) (v : Int) : Rc w (W.setCell ⟨gy, j, none⟩ (.int .u8 v)) g t ws s gy (y.set j v) :=
  ⟨h.n.setX gy j v h.lt, h.y.set j v, h.lt⟩
theorem Rc.setS {w W : World} {g gy : Nat} {t ws s y : List Int} (h : Rc w W g t ws s gy y) (j : Nat) (v : Int) : Rc w (W.setCell ⟨w.heap.size + 1 + 1 + 1, j, none⟩ (.int .u8 v)) g t ws (s.set j v) gy y :=
  ⟨h.n.set j v, h.y.other _ _ (by have := h.lt; show gy ≠ w.heap.size + 1 + 1 + 1; omega), h.lt⟩
theorem Rc.alloc {w W : World} {g gy : Nat} {t ws s y : List Int} (h : Rc w W g t ws s gy y) (o : Obj) : Rc w (W.alloc o) g t ws s gy y := ⟨h.n.alloc o, h.y.alloc o, h.lt⟩
theorem Rc.drew {w W : World} {g gy : Nat} {t ws s y : List Int} (h : Rc w W g t ws s gy y) : Rc w W.drew g t ws s gy y := ⟨h.n.drew, h.y, h.lt⟩
structure Rd (w W : World) (g : Nat) (t ws s : List Int) (gy : Nat) (y : List Int) (gz : Nat) (z : List Int) : Prop where
  n : Rc w W g t ws s gy y
  z : Bk W gz 24 z
  lt : gy < gz
theorem Rd.setZ {w W : World} {g gy gz : Nat} {t ws s y z : List Int} (h : Rd w W g t ws s gy y gz z) (j : Nat) (v : Int) : Rd w (W.setCell ⟨gz, j, none⟩ (.int .u8 v)) g t ws s gy y gz (z.set j v) :=
  ⟨⟨h.n.n.setX gz j v (by have := h.n.lt; have := h.lt; omega), h.n.y.other _ _ (by have := h.lt; show gy ≠ gz; omega), h.n.lt⟩, h.z.set j v, h.lt⟩
theorem Rd.drew {w W : World} {g gy gz : Nat} {t ws s y z : List Int} (h : Rd w W g t ws s gy y gz z) : Rd w W.drew g t ws s gy y gz z := ⟨h.n.drew, h.z, h.lt⟩
theorem Rd.row {w W : World} {g gy gz : Nat} {t ws s y z : List Int} (h : Rd w W g t ws s gy y gz z) (l : List Int) : Rc w (W.setRow gy (u8s l)) g t ws s gy l :=
  ⟨h.n.n.rowX gy l h.n.lt, h.n.y.setRow _, h.n.lt⟩

attribute [local irreducible] rnd fillL yR zR ry rz kR in
set_option maxHeartbeats 2000000 in
set_option maxRecDepth 20000 in
theorem refblock_calls (w : World) (g : Nat) (t ws x : List Int) (ht : t.length = 256) (htb : By t) (hg : Bk w g 5 ws) (hws : ws.length = 240) (hx : x.length = 16) (hxb : By x) :
    Calls Try.prog 14 #[.agg (u8s t), .slice (some ⟨g, 0, none⟩) 240 240, .agg (u8s x)] w fun e w' => e = .returned (.agg (u8s (rnd t ws 14 x))) ∧ Below w.heap.size w w' := by
  have HT := Aside0.mk ht
  have HTB := Aside0.mk htb
  have HXL := Aside0.mk hx
  have HXB := Aside0.mk hxb
  have HWL := Aside0.mk hws
  have HG := Aside0.mk hg
  clear ht htb hg hws hx hxb
  go_enter Try.func14, Try.ntmps14
  have b1 := Bk.new w 26 t
  have b2 := Bk.new (w.alloc (Obj.cells (u8s t) 26)) 24 x
  rw [alloc_size] at b2
  have b3 := Bk.new ((w.alloc (Obj.cells (u8s t) 26)).alloc (Obj.cells (u8s x) 24)) 24 zs
  rw [alloc_size, alloc_size] at b3
  have b4 := Bk.new (((w.alloc (Obj.cells (u8s t) 26)).alloc (Obj.cells (u8s x) 24)).alloc (Obj.cells (u8s zs) 24)) 24 zs
  rw [alloc_size, alloc_size, alloc_size] at b4
  have B0 : Below w.heap.size w (((((w.alloc (Obj.cells (u8s t) 26)).alloc (Obj.cells (u8s x) 24)).alloc (Obj.cells (u8s zs) 24))).alloc (Obj.cells (u8s zs) 24)) := (((((Below.refl _ _).alloc (Nat.le_refl _) _).alloc (by rw [alloc_size]; omega) _).alloc (by rw [alloc_size, alloc_size]; omega) _).alloc (by rw [alloc_size, alloc_size, alloc_size]; omega) _)
  have X2 := Aside0.mk (b2.alloc (Obj.cells (u8s zs) 24))
  have S4 := Aside0.mk b4
  have N0 := Aside0.mk (show Rb w ((((((w.alloc (Obj.cells (u8s t) 26)).alloc (Obj.cells (u8s x) 24)).alloc (Obj.cells (u8s zs) 24))).alloc (Obj.cells (u8s zs) 24)).setRow (w.heap.size + 1 + 1 + 1) (u8s x)) g t ws x from
    ⟨below_setRow B0 (by omega) _, (((b1.alloc _).alloc _).alloc _).rowOther _ _ (by omega), (b3.alloc _).rowOther _ _ (by omega), b4.setRow _, (HG.out.below B0 HG.out.lt).rowOther _ _ (by have := HG.out.lt; omega), HG.out.lt⟩)
  have HZ16 := Aside0.mk zs_length
  clear b1 b2 b3 b4 B0
  go_wp2_with (first | ((with_reducible refine load_bk (o := { dst := some _, op := .load 24 (.tmp 5), type := _, pos := _, after := _, guard := _ }) 24 (.tmp 5) rfl rfl (w.heap.size + 1) 24 x ?_ arr16 ?_ ?_ ?_); (rfl); (exact X2.out); (exact HXL.out)) | ((with_reducible refine store_bk (o := { dst := none, op := .store 24 (.tmp 7) (.tmp 17), type := _, pos := _, after := _, guard := _ }) 24 (.tmp 7) (.tmp 17) rfl rfl (w.heap.size + 1 + 1 + 1) 24 zs x ?_ ?_ arr16 ?_ ?_ ?_ ?_); (rfl); (rfl); (exact S4.out); (exact HZ16.out); (exact HXL.out)))
  clear X2 S4
  go_loopg [8] 16 (fun kq v8 w' => ∃ (n : Nat), v8 = .int .i64 (n : Int) ∧ Aside0 (n + kq = 16) ∧ Aside0 (Rb w w' g t ws (fillL (kR ws 0 x) x n)))
  case atStart => exact ⟨0, rfl, ⟨rfl⟩, ⟨by rw [fillL_zero]; exact N0.out⟩⟩
  case round =>
    clear N0
    obtain ⟨n, rfl, HQ, HN⟩ := hrel
    have hq := HQ.out
    cases gk with
    | succ k1 =>
      have hn : n < 16 := by omega
      have hn3 : (n : Int) < 16 := by omega
      have hnx : n ≤ x.length := by rw [HXL.out]; omega
      have c0 := HN.out.s.cell n (by rw [fillL_length, HXL.out]; exact hn)
      rw [fillL_at _ _ _ hnx] at c0
      have c1 := HN.out.ws.cell n (by rw [HWL.out]; omega)
      have f0 := HN.out.s.frozen n
      have hn4 : (n : Int) < 240 := by omega
      clear hq hnx
      go_wp2_with fail
      go_still_tail 9, (by kernel_rfl)
      change wpList _ _ _ _ _ wr.drew
      go_wp2_with fail
      go_roundg k1
      case measure => omega
      case rel =>
        refine ⟨n + 1, by simp, ⟨by have := HQ.out; omega⟩, ⟨?_⟩⟩
        rw [fillL_succ, show kR ws 0 x n = Go.bits .xor .u8 (x.getD n 0) (ws.getD n 0) from by unfold kR; rw [Nat.zero_add]]
        exact HN.out.drew.set n _
    | zero =>
      obtain rfl : n = 16 := by omega
      clear hq HQ
      rw [← rnd_zero t] at HN
      go_wp2_with fail
      go_loopg [9] 14 (fun kq v9 w' => ∃ (r : Nat), v9 = .int .i64 ((r + 1 : Nat) : Int) ∧ Aside0 (r + kq = 14) ∧ Aside0 (Rb w w' g t ws (rnd t ws r x)))
      case atStart => exact ⟨0, rfl, ⟨rfl⟩, HN⟩
      case round =>
        clear HN
        obtain ⟨r, rfl, HQ, HN⟩ := hrel
        have hq := HQ.out
        cases gk with
        | zero =>
          obtain rfl : r = 14 := by omega
          clear hq HQ
          go_wp2_with (first | ((with_reducible refine load_bk (o := { dst := some _, op := .load 24 (.tmp 7), type := _, pos := _, after := _, guard := _ }) 24 (.tmp 7) rfl rfl (w.heap.size + 1 + 1 + 1) 24 (rnd t ws 14 x) ?_ arr16 ?_ ?_ ?_); (rfl); (exact HN.out.s); (exact (rnd_length t ws HXL.out 14))) | ((with_reducible refine store_bk (o := { dst := none, op := .store 24 (.tmp 6) (.tmp 130), type := _, pos := _, after := _, guard := _ }) 24 (.tmp 6) (.tmp 130) rfl rfl (w.heap.size + 1 + 1) 24 zs (rnd t ws 14 x) ?_ ?_ arr16 ?_ ?_ ?_ ?_); (rfl); (rfl); (exact HN.out.out); (exact HZ16.out); (exact (rnd_length t ws HXL.out 14))))
          exact ret_bk 6 24 rfl (w.heap.size + 1 + 1) 24 _ rfl arr16 (HN.out.out.setRow _) (rnd_length t ws HXL.out 14) rfl ⟨rfl, below_setRow HN.out.below (by omega) _⟩
        | succ k1 =>
          have hr : r < 14 := by omega
          obtain ⟨R, hR⟩ : ∃ R, R = r + 1 := ⟨_, rfl⟩
          obtain ⟨s, hs⟩ : ∃ s, s = rnd t ws r x := ⟨_, rfl⟩
          have hsl : s.length = 16 := by rw [hs]; exact rnd_length t ws HXL.out r
          have hsb : By s := by rw [hs]; exact rnd_by t ws HXB.out r
          rw [← hs] at HN
          rw [← hR]
          have HR := Aside0.mk hR
          have HS := Aside0.mk hs
          have HSL := Aside0.mk hsl
          have HSB := Aside0.mk hsb
          have hR1 : R ≤ 14 := by omega
          have hR3 : (R : Int) ≤ 14 := by omega
          clear hq hR hs hsl hsb
          go_wp2_with fail
          have N2 := Aside0.mk (show Rc w (wr.alloc (Obj.cells #[Value.int .u8 0, .int .u8 0, .int .u8 0, .int .u8 0, .int .u8 0, .int .u8 0, .int .u8 0, .int .u8 0, .int .u8 0, .int .u8 0, .int .u8 0, .int .u8 0, .int .u8 0, .int .u8 0, .int .u8 0, .int .u8 0] 24)) g t ws s wr.heap.size zs from ⟨HN.out.alloc _, Bk.new wr _ zs, HN.out.s.lt⟩)
          clear HN
          generalize wr.alloc (Obj.cells #[Value.int .u8 0, .int .u8 0, .int .u8 0, .int .u8 0, .int .u8 0, .int .u8 0, .int .u8 0, .int .u8 0, .int .u8 0, .int .u8 0, .int .u8 0, .int .u8 0, .int .u8 0, .int .u8 0, .int .u8 0, .int .u8 0] 24) = W2 at N2 ⊢
          generalize wr.heap.size = gy at N2 ⊢
          go_loopg [11] 4 (fun kc v11 w' => ∃ (c : Nat), v11 = .int .i64 (c : Int) ∧ Aside0 (c + kc = 4) ∧ Aside0 (Rc w w' g t ws s gy (fillL (ry t s) zs (4 * c))))
          case atStart => exact ⟨0, rfl, ⟨rfl⟩, ⟨by rw [show 4 * 0 = 0 from rfl, fillL_zero]; exact N2.out⟩⟩
          case round =>
            clear N2
            obtain ⟨c, rfl, HC, NY⟩ := hrel
            have hc := HC.out
            cases gk with
            | succ kc1 =>
              have hc4 : c < 4 := by omega
              have hc4i : (c : Int) < 4 := by omega
              clear hc
              go_wp2_with fail
              go_loopg [12] 4 (fun kr v12 w' => ∃ (k : Nat), v12 = .int .i64 (k : Int) ∧ Aside0 (k + kr = 4) ∧ Aside0 (Rc w w' g t ws s gy (fillL (ry t s) zs (4 * c + k))))
              case atStart => exact ⟨0, rfl, ⟨rfl⟩, NY⟩
              case round =>
                clear NY
                obtain ⟨k, rfl, HK2, NY⟩ := hrel
                have hk2 := HK2.out
                cases gk with
                | zero =>
                  obtain rfl : k = 4 := by omega
                  clear hk2 HK2
                  go_wp2_with fail
                  go_roundg kc1
                  case measure => omega
                  case rel => exact ⟨c + 1, by simp, ⟨by have := HC.out; omega⟩, NY⟩
                | succ k2 =>
                  have hk : k < 4 := by omega
                  have hk3 : (k : Int) < 4 := by omega
                  obtain ⟨n, hn⟩ : ∃ n, n = 4 * c + k := ⟨_, rfl⟩
                  obtain ⟨m, hm⟩ : ∃ m, m = 4 * ((c + k) % 4) + k := ⟨_, rfl⟩
                  rw [← hn] at NY
                  obtain ⟨z, hz⟩ : ∃ z, s.getD m 0 = z := ⟨_, rfl⟩
                  have c0 := NY.out.n.s.cell m (by rw [HSL.out]; omega)
                  obtain ⟨z0, z1⟩ := HSB.out m
                  rw [hz] at c0 z0 z1
                  have c1 := NY.out.n.tb.cell z.toNat (by rw [HT.out]; omega)
                  have c2 := NY.out.y.cell n (by rw [fillL_length, zs_length]; omega)
                  have f2 := NY.out.y.frozen n
                  have q1 : (4 * (c : Int) + (k : Int)).toNat = n := by omega
                  have q2 : (4 * (((c : Int) + (k : Int)) % 4) + (k : Int)).toNat = m := by
                    have e : ((c : Int) + (k : Int)) % 4 = (((c + k) % 4 : Nat) : Int) := by clear q1; omega
                    rw [e]; clear q1 e; omega
                  have q3 : 4 * (c : Int) + (k : Int) < 16 := by omega
                  have q4 : 4 * (((c : Int) + (k : Int)) % 4) + (k : Int) < 16 := by omega
                  have q5 : 0 ≤ 4 * (((c : Int) + (k : Int)) % 4) + (k : Int) := by omega
                  have HF := Aside0.mk (show ry t s n = t.getD z.toNat 0 from by unfold ry; rw [show n / 4 = c by omega, show n % 4 = k by omega, ← hm, hz])
                  have HNN := Aside0.mk hn
                  clear hk2 hn hm hz
                  go_wp2_with fail
                  go_roundg k2
                  case measure => clear q1 q2; omega
                  case rel =>
                    refine ⟨k + 1, by simp, ⟨by have := HK2.out; clear q1 q2; omega⟩, ⟨?_⟩⟩
                    rw [show 4 * c + (k + 1) = n + 1 from by rw [HNN.out]; rfl, fillL_succ, HF.out]
                    exact NY.out.setY n _
            | zero =>
              obtain rfl : c = 4 := by omega
              clear hc HC
              obtain ⟨y1, hy1⟩ : ∃ y, y = yR t s := ⟨_, rfl⟩
              have hyl := yR_length t s
              have hyb := yR_by HTB.out s
              rw [← hy1] at hyl hyb
              have NY0 := Aside0.mk (show Rc w wr g t ws s gy y1 from by rw [hy1, yR]; exact NY.out)
              clear NY
              have HY1 := Aside0.mk hy1
              have HYL1 := Aside0.mk hyl
              have HYB1 := Aside0.mk hyb
              clear hy1 hyl hyb
              by_cases hr14 : R < 14
              · have hr15 : (R : Int) < 14 := by omega
                go_wp2_with fail
                have N2 := Aside0.mk (show Rd w (wr.alloc (Obj.cells #[Value.int .u8 0, .int .u8 0, .int .u8 0, .int .u8 0, .int .u8 0, .int .u8 0, .int .u8 0, .int .u8 0, .int .u8 0, .int .u8 0, .int .u8 0, .int .u8 0, .int .u8 0, .int .u8 0, .int .u8 0, .int .u8 0] 24)) g t ws s gy y1 wr.heap.size zs from ⟨NY0.out.alloc _, Bk.new wr _ zs, NY0.out.y.lt⟩)
                clear NY0
                generalize wr.alloc (Obj.cells #[Value.int .u8 0, .int .u8 0, .int .u8 0, .int .u8 0, .int .u8 0, .int .u8 0, .int .u8 0, .int .u8 0, .int .u8 0, .int .u8 0, .int .u8 0, .int .u8 0, .int .u8 0, .int .u8 0, .int .u8 0, .int .u8 0] 24) = W3 at N2 ⊢
                generalize wr.heap.size = gz at N2 ⊢
                go_loopg [14] 4 (fun kc v14 w' => ∃ (c : Nat), v14 = .int .i64 (c : Int) ∧ Aside0 (c + kc = 4) ∧ Aside0 (Rd w w' g t ws s gy y1 gz (fillL (rz y1) zs (4 * c))))
                case atStart => exact ⟨0, rfl, ⟨rfl⟩, ⟨by rw [show 4 * 0 = 0 from rfl, fillL_zero]; exact N2.out⟩⟩
                case round =>
                  clear N2
                  obtain ⟨c, rfl, HC, NZ⟩ := hrel
                  have hc := HC.out
                  cases gk with
                  | succ kc1 =>
                    have hc4 : c < 4 := by omega
                    have hc4i : (c : Int) < 4 := by omega
                    clear hc
                    go_wp2_with fail
                    go_loopg [15] 4 (fun kr v15 w' => ∃ (k : Nat), v15 = .int .i64 (k : Int) ∧ Aside0 (k + kr = 4) ∧ Aside0 (Rd w w' g t ws s gy y1 gz (fillL (rz y1) zs (4 * c + k))))
                    case atStart => exact ⟨0, rfl, ⟨rfl⟩, NZ⟩
                    case round =>
                      clear NZ
                      obtain ⟨k, rfl, HK2, NZ⟩ := hrel
                      have hk2 := HK2.out
                      cases gk with
                      | zero =>
                        obtain rfl : k = 4 := by omega
                        clear hk2 HK2
                        go_wp2_with fail
                        go_roundg kc1
                        case measure => omega
                        case rel => exact ⟨c + 1, by simp, ⟨by have := HC.out; omega⟩, NZ⟩
                      | succ k2 =>
                        have hk : k < 4 := by omega
                        have hk3 : (k : Int) < 4 := by omega
                        obtain ⟨n, hn⟩ : ∃ n, n = 4 * c + k := ⟨_, rfl⟩
                        obtain ⟨p1, hp1⟩ : ∃ m, m = 4 * c + (k + 1) % 4 := ⟨_, rfl⟩
                        obtain ⟨p2, hp2⟩ : ∃ m, m = 4 * c + (k + 2) % 4 := ⟨_, rfl⟩
                        obtain ⟨p3, hp3⟩ : ∃ m, m = 4 * c + (k + 3) % 4 := ⟨_, rfl⟩
                        rw [← hn] at NZ
                        have HF := Aside0.mk (show rz y1 n = Go.bits .xor .u8 (Go.bits .xor .u8 (Go.bits .xor .u8 (twice (y1.getD n 0)) (Go.bits .xor .u8 (twice (y1.getD p1 0)) (y1.getD p1 0))) (y1.getD p2 0)) (y1.getD p3 0) from by unfold rz; rw [show n / 4 = c by omega, show n % 4 = k by omega, ← hp1, ← hp2, ← hp3])
                        have E0 : IntKind.i64.wrap (IntKind.i64.wrap (4 * (c : Int)) + (k : Int)) = (n : Int) := by
                          rw [IntWalk.i64_in (4 * (c : Int)) (by omega), IntWalk.i64_in _ (by omega)]; omega
                        have E1 : IntKind.i64.wrap (IntKind.i64.wrap (4 * (c : Int)) + (IntKind.i64.wrap ((k : Int) + 1)).tmod 4) = (p1 : Int) := by
                          clear E0; rw [IntWalk.i64_in (4 * (c : Int)) (by omega), IntWalk.i64_in ((k : Int) + 1) (by omega), Int.tmod_eq_emod_of_nonneg (by omega), IntWalk.i64_in _ (by omega)]; omega
                        have E2 : IntKind.i64.wrap (IntKind.i64.wrap (4 * (c : Int)) + (IntKind.i64.wrap ((k : Int) + 2)).tmod 4) = (p2 : Int) := by
                          clear E0 E1; rw [IntWalk.i64_in (4 * (c : Int)) (by omega), IntWalk.i64_in ((k : Int) + 2) (by omega), Int.tmod_eq_emod_of_nonneg (by omega), IntWalk.i64_in _ (by omega)]; omega
                        have E3 : IntKind.i64.wrap (IntKind.i64.wrap (4 * (c : Int)) + (IntKind.i64.wrap ((k : Int) + 3)).tmod 4) = (p3 : Int) := by
                          clear E0 E1 E2; rw [IntWalk.i64_in (4 * (c : Int)) (by omega), IntWalk.i64_in ((k : Int) + 3) (by omega), Int.tmod_eq_emod_of_nonneg (by omega), IntWalk.i64_in _ (by omega)]; omega
                        have hnn : n < 16 ∧ p1 < 16 ∧ p2 < 16 ∧ p3 < 16 := by clear E0 E1 E2 E3; omega
                        obtain ⟨n16, p16, p26, p36⟩ := hnn
                        have i0 : (n : Int) < 16 := by clear E0 E1 E2 E3; omega
                        have i1 : (p1 : Int) < 16 := by clear E0 E1 E2 E3; omega
                        have i2 : (p2 : Int) < 16 := by clear E0 E1 E2 E3; omega
                        have i3 : (p3 : Int) < 16 := by clear E0 E1 E2 E3; omega
                        have c0 := NZ.out.n.y.cell n (by rw [HYL1.out]; exact n16)
                        have c1 := NZ.out.n.y.cell p1 (by rw [HYL1.out]; exact p16)
                        have c2 := NZ.out.n.y.cell p2 (by rw [HYL1.out]; exact p26)
                        have c3 := NZ.out.n.y.cell p3 (by rw [HYL1.out]; exact p36)
                        have c4 := NZ.out.z.cell n (by rw [fillL_length]; exact n16)
                        have f4 := NZ.out.z.frozen n
                        obtain ⟨u0, u1⟩ := HYB1.out n
                        obtain ⟨o0, o1⟩ := HYB1.out p1
                        obtain ⟨a0, ha0⟩ : ∃ a, y1.getD n 0 = a := ⟨_, rfl⟩
                        obtain ⟨a1, ha1⟩ : ∃ a, y1.getD p1 0 = a := ⟨_, rfl⟩
                        obtain ⟨a2, ha2⟩ : ∃ a, y1.getD p2 0 = a := ⟨_, rfl⟩
                        obtain ⟨a3, ha3⟩ : ∃ a, y1.getD p3 0 = a := ⟨_, rfl⟩
                        rw [ha0] at c0 u0 u1
                        rw [ha1] at c1 o0 o1
                        rw [ha2] at c2
                        rw [ha3] at c3
                        rw [ha0, ha1, ha2, ha3] at HF
                        have T2 := Aside0.mk (times2 a0 u0 u1)
                        have T3 := Aside0.mk (times3 a1 o0 o1)
                        have HNN := Aside0.mk hn
                        clear hk2 hn hp1 hp2 hp3 ha0 ha1 ha2 ha3
                        go_wp2_with fail
                        go_still_tail 39, (by kernel_rfl)
                        still_call (times_same 300 _ _ _ _ T2.out)
                        repeat still_step
                        still_call (times_same 300 _ _ _ _ T3.out)
                        repeat still_step
                        refine wpStill_nil ?_
                        change wpList _ _ _ _ _ wr.drew
                        go_wp2_with fail
                        go_roundg k2
                        case measure => clear E0 E1 E2 E3; omega
                        case rel =>
                          refine ⟨k + 1, by simp, ⟨by have := HK2.out; clear E0 E1 E2 E3; omega⟩, ⟨?_⟩⟩
                          rw [show 4 * c + (k + 1) = n + 1 from by rw [HNN.out]; rfl, fillL_succ, HF.out]
                          exact NZ.out.drew.setZ n _
                  | zero =>
                    obtain rfl : c = 4 := by omega
                    clear hc HC
                    obtain ⟨y, hy⟩ : ∃ y, y = zR t s := ⟨_, rfl⟩
                    have hyl := zR_length t s
                    rw [← hy] at hyl
                    have NZ0 := Aside0.mk (show Rd w wr g t ws s gy y1 gz y from by rw [hy, zR, ← HY1.out]; exact NZ.out)
                    clear NZ
                    have HYY := Aside0.mk (show y = if R < 14 then zR t s else yR t s from by rw [if_pos hr14]; exact hy)
                    have HYL := Aside0.mk hyl
                    clear hy hyl
                    go_wp2_with (first | ((with_reducible refine load_bk (o := { dst := some _, op := .load 24 (.tmp 13), type := _, pos := _, after := _, guard := _ }) 24 (.tmp 13) rfl rfl gz 24 y ?_ arr16 ?_ ?_ ?_); (rfl); (exact NZ0.out.z); (exact HYL.out)) | ((with_reducible refine store_bk (o := { dst := none, op := .store 24 (.tmp 10) (.tmp 112), type := _, pos := _, after := _, guard := _ }) 24 (.tmp 10) (.tmp 112) rfl rfl gy 24 y1 y ?_ ?_ arr16 ?_ ?_ ?_ ?_); (rfl); (rfl); (exact NZ0.out.n.y); (exact HYL1.out); (exact HYL.out)))
                    have NY := Aside0.mk (NZ0.out.row y)
                    clear NZ0
                    go_loopg [16] 16 (fun kn v16 w' => ∃ (n : Nat), v16 = .int .i64 (n : Int) ∧ Aside0 (n + kn = 16) ∧ Aside0 (Rc w w' g t ws (fillL (kR ws (16 * R) y) s n) gy y))
                    case atStart => exact ⟨0, rfl, ⟨rfl⟩, ⟨by rw [fillL_zero]; exact NY.out⟩⟩
                    case round =>
                      clear NY
                      obtain ⟨n, rfl, HK2, NY⟩ := hrel
                      have hk2 := HK2.out
                      cases gk with
                      | zero =>
                        obtain rfl : n = 16 := by omega
                        clear hk2 HK2
                        go_wp2_with fail
                        go_roundg k1
                        case measure => omega
                        case rel =>
                          refine ⟨r + 1, by rw [HR.out]; exact congrArg (Value.int .i64) (by omega), ⟨by have := HQ.out; omega⟩, ⟨?_⟩⟩
                          rw [rnd_succ, ← HS.out, ← HR.out, ← HYY.out]
                          exact NY.out.n
                      | succ k2 =>
                        have hn : n < 16 := by omega
                        have hn3 : (n : Int) < 16 := by omega
                        obtain ⟨m, hm⟩ : ∃ m, m = 16 * R + n := ⟨_, rfl⟩
                        have m1 : (m : Int) < 240 := by omega
                        have c0 := NY.out.n.s.cell n (by rw [fillL_length, HSL.out]; exact hn)
                        have c1 := NY.out.y.cell n (by rw [HYL.out]; exact hn)
                        have c2 := NY.out.n.ws.cell m (by rw [HWL.out]; omega)
                        have f0 := NY.out.n.s.frozen n
                        have E1 : IntKind.i64.wrap (IntKind.i64.wrap (16 * (R : Int)) + (n : Int)) = (m : Int) := by
                          rw [IntWalk.i64_in (16 * (R : Int)) (by omega), IntWalk.i64_in _ (by omega)]; omega
                        have HMM := Aside0.mk hm
                        clear hk2 hm
                        go_wp2_with fail
                        go_still_tail 12, (by kernel_rfl)
                        change wpList _ _ _ _ _ wr.drew
                        go_wp2_with fail
                        go_roundg k2
                        case measure => clear E1; omega
                        case rel =>
                          refine ⟨n + 1, by simp, ⟨by have := HK2.out; clear E1; omega⟩, ⟨?_⟩⟩
                          rw [fillL_succ, show kR ws (16 * R) y n = Go.bits .xor .u8 (y.getD n 0) (ws.getD m 0) from by rw [HMM.out]; unfold kR; rfl]
                          exact NY.out.drew.setS n _
              · have hr15 : ¬ (R : Int) < 14 := by omega
                obtain ⟨y, hy⟩ : ∃ y, y = y1 := ⟨_, rfl⟩
                have NY := Aside0.mk (show Rc w wr g t ws s gy y from by rw [hy]; exact NY0.out)
                have HYY := Aside0.mk (show y = if R < 14 then zR t s else yR t s from by rw [if_neg hr14, hy, HY1.out])
                have HYL := Aside0.mk (show y.length = 16 from by rw [hy]; exact HYL1.out)
                clear hy NY0
                go_wp2_with fail
                go_loopg [16] 16 (fun kn v16 w' => ∃ (n : Nat), v16 = .int .i64 (n : Int) ∧ Aside0 (n + kn = 16) ∧ Aside0 (Rc w w' g t ws (fillL (kR ws (16 * R) y) s n) gy y))
                case atStart => exact ⟨0, rfl, ⟨rfl⟩, ⟨by rw [fillL_zero]; exact NY.out⟩⟩
                case round =>
                  clear NY
                  obtain ⟨n, rfl, HK2, NY⟩ := hrel
                  have hk2 := HK2.out
                  cases gk with
                  | zero =>
                    obtain rfl : n = 16 := by omega
                    clear hk2 HK2
                    go_wp2_with fail
                    go_roundg k1
                    case measure => omega
                    case rel =>
                      refine ⟨r + 1, by rw [HR.out]; exact congrArg (Value.int .i64) (by omega), ⟨by have := HQ.out; omega⟩, ⟨?_⟩⟩
                      rw [rnd_succ, ← HS.out, ← HR.out, ← HYY.out]
                      exact NY.out.n
                  | succ k2 =>
                    have hn : n < 16 := by omega
                    have hn3 : (n : Int) < 16 := by omega
                    obtain ⟨m, hm⟩ : ∃ m, m = 16 * R + n := ⟨_, rfl⟩
                    have m1 : (m : Int) < 240 := by omega
                    have c0 := NY.out.n.s.cell n (by rw [fillL_length, HSL.out]; exact hn)
                    have c1 := NY.out.y.cell n (by rw [HYL.out]; exact hn)
                    have c2 := NY.out.n.ws.cell m (by rw [HWL.out]; omega)
                    have f0 := NY.out.n.s.frozen n
                    have E1 : IntKind.i64.wrap (IntKind.i64.wrap (16 * (R : Int)) + (n : Int)) = (m : Int) := by
                      rw [IntWalk.i64_in (16 * (R : Int)) (by omega), IntWalk.i64_in _ (by omega)]; omega
                    have HMM := Aside0.mk hm
                    clear hk2 hm
                    go_wp2_with fail
                    go_still_tail 12, (by kernel_rfl)
                    change wpList _ _ _ _ _ wr.drew
                    go_wp2_with fail
                    go_roundg k2
                    case measure => clear E1; omega
                    case rel =>
                      refine ⟨n + 1, by simp, ⟨by have := HK2.out; clear E1; omega⟩, ⟨?_⟩⟩
                      rw [fillL_succ, show kR ws (16 * R) y n = Go.bits .xor .u8 (y.getD n 0) (ws.getD m 0) from by rw [HMM.out]; unfold kR; rfl]
                      exact NY.out.drew.setS n _

end Go.Proofs.Ytingegkipimakaa.Ae
