import Derived.Test.YtahiadghodhkhaaGBb
import Derived.Test.YtahiadghodhkhaaGSb3
namespace Go.Proofs.Ytahiadghodhkhaa.Bl
open Go.RowKit Go.Maps Go.Proofs.YtahiadghodhkhaaW.PrintWords Go.Proofs.YtahiadghodhkhaaW.PrintLast Go.Proofs.YtahiadghodhkhaaW.PrintMore Go.Proofs.Ytahiadghodhkhaa.PB
set_option linter.unusedVariables false
set_option linter.unusedSimpArgs false
def DoR (q : Int) (L : List Ent) (kind num : Int) (k : ByteArray) (t : List Int) (L' : List Ent) (nm code : Int) (bd : List Int) (ns : List ByteArray) : Prop :=
  (Sb.okA kind num k.size t.length = false ∧ L' = L ∧ nm = fnum num ∧ code = 3 ∧ bd = [] ∧ ns = []) ∨
  (Sb.okA kind num k.size t.length = true ∧ nm = num ∧
    ((kind = 1 ∧ bd = [] ∧ ns = [] ∧ ((q < sumE (offE k L) + k.size + t.length ∧ code = 2 ∧ L' = L) ∨ (sumE (offE k L) + k.size + t.length ≤ q ∧ code = 0 ∧ ∃ A c, L' = putE k (.slice A t.length c) t L))) ∨
     (kind = 2 ∧ L' = L ∧ ns = [] ∧ bd = ((findE k L).map (·.2.2)).getD [] ∧ code = if (findE k L).isSome then 0 else 1) ∨
     (kind = 3 ∧ L' = L ∧ bd = [] ∧ code = 0 ∧ ns = nmsE k L) ∨
     (kind = 4 ∧ L' = offE k L ∧ bd = [] ∧ ns = [] ∧ code = if (findE k L).isSome then 0 else 1)))
theorem okA_parts {kind num : Int} {nl bl : Nat} (h : Sb.okA kind num nl bl = true) : 1 ≤ kind ∧ kind ≤ 4 ∧ 0 ≤ num ∧ num ≤ 2147483647 ∧ bl ≤ 60000 ∧ nl ≤ 64 ∧ (kind = 1 ∨ bl = 0) := of_decide_eq_true h
theorem Do_calls (g b : Nat) (q : Int) (L : List Ent) (kind num : Int) (k : ByteArray) (A : Option Addr) (c : Nat) (t : List Int) (w : World) (h : Bl w g b q L) (hl : L.length ≤ 100000) (hq : 0 ≤ q ∧ q ≤ 9223372036854775807)
    (hc : t.length ≤ c) (hr : Bs.C w A t.length t) :
    Calls Try.prog 12 #[.pointer (some ⟨g, 0, none⟩), .agg #[.int .i64 kind, .int .i64 num, .string k, .slice A t.length c]] w fun e w' => ∃ vb vn nm code bd ns L', e = .returned (.agg #[.int .i64 nm, .int .i64 code, vb, vn]) ∧
      Bs.R 5 w' w.heap.size (fun _ => True) vb bd ∧ Kd.string.R 9 w' w.heap.size (fun _ => True) vn ns ∧ Bl w' g b q L' ∧ w.grownBy w' (some b) ∧ DoR q L kind num k t L' nm code bd ns := by
  cases hK : Sb.okA kind num k.size t.length with
  | false =>
    refine (Do_foreign (some ⟨g, 0, none⟩) kind num k A c t w (.inl hK) hc hr).mono ?_
    rintro e w' ⟨vb, vn, rfl, h1, h2, hb⟩
    exact ⟨vb, vn, _, _, _, _, L, rfl, h1, h2, h.kept hb, grown_none hb, .inl ⟨hK, rfl, rfl, rfl, rfl, rfl⟩⟩
  | true =>
    obtain ⟨p1, p2, _, _, p5, p6, _⟩ := okA_parts hK
    have hkd : kind = 1 ∨ kind = 2 ∨ kind = 3 ∨ kind = 4 := by omega
    rcases hkd with rfl | rfl | rfl | rfl
    · refine (Do_put g b q L num k A c t w h hl hK p6 p5 hc hr hq).mono ?_
      rintro e w' ⟨vb, vn, code, L', rfl, h1, h2, h3, h4, h5⟩
      exact ⟨vb, vn, _, _, _, _, L', rfl, h1, h2, h3, h4, .inr ⟨hK, rfl, .inl ⟨rfl, rfl, rfl, h5⟩⟩⟩
    · refine (Do_get g b q L num k A c t w h hK p6 p5 hc hr).mono ?_
      rintro e w' ⟨vb, vn, rfl, h1, h2, h3, h4⟩
      exact ⟨vb, vn, _, _, _, _, L, rfl, h1, h2, h3, grown_none h4, .inr ⟨hK, rfl, .inr (.inl ⟨rfl, rfl, rfl, rfl, rfl⟩)⟩⟩
    · refine (Do_list g b q L num k A c t w h hl hK p6 p5 hc hr).mono ?_
      rintro e w' ⟨vb, vn, rfl, h1, h2, h3, h4⟩
      exact ⟨vb, vn, _, _, _, _, L, rfl, h1, h2, h3, grown_none h4, .inr ⟨hK, rfl, .inr (.inr (.inl ⟨rfl, rfl, rfl, rfl, rfl⟩))⟩⟩
    · refine (Do_drop g b q L num k A c t w h hl hK p6 p5 hc hr).mono ?_
      rintro e w' ⟨vb, vn, rfl, h1, h2, h3, h4⟩
      exact ⟨vb, vn, _, _, _, _, _, rfl, h1, h2, h3, h4, .inr ⟨hK, rfl, .inr (.inr (.inr ⟨rfl, rfl, rfl, rfl, rfl⟩))⟩⟩
theorem DoR.len {q : Int} {L L' : List Ent} {kind num nm code : Int} {k : ByteArray} {t bd : List Int} {ns : List ByteArray} (h : DoR q L kind num k t L' nm code bd ns) : L'.length ≤ L.length + 1 := by
  have ho : (offE k L).length ≤ L.length := List.length_filter_le _ _
  rcases h with ⟨_, rfl, _⟩ | ⟨_, _, ⟨_, _, _, ⟨_, _, rfl⟩ | ⟨_, _, A, c, rfl⟩⟩ | ⟨_, rfl, _⟩ | ⟨_, rfl, _⟩ | ⟨_, rfl, _⟩⟩
  · omega
  · omega
  · unfold putE
    rw [(ins_perm _ _).length_eq, List.length_cons]
    omega
  · omega
  · omega
  · omega
end Go.Proofs.Ytahiadghodhkhaa.Bl
namespace Go.Proofs.Ytahiadghodhkhaa.Bl
open Go.RowKit Go.Maps Go.Proofs.YtahiadghodhkhaaW.PrintWords Go.Proofs.YtahiadghodhkhaaW.PrintLast Go.Proofs.YtahiadghodhkhaaW.PrintMore Go.Proofs.Ytahiadghodhkhaa.PB
set_option linter.unusedVariables false
set_option linter.unusedSimpArgs false
theorem lit1_C (W : World) (x : Int) : Bs.C (W.alloc (.cells #[.int .u8 x] 5)) (some ⟨W.heap.size, 0, none⟩) 1 [x] := (Sb.C_of_R (Sb.R_lit_new .u8 5 W [x] 1 rfl (by decide))).1
set_option maxRecDepth 20000 in
set_option maxHeartbeats 4000000 in
theorem wakes_calls (w : World) : Calls Try.prog 9 #[] w fun e w' => e = .returned (.bool true) ∧ Below w.heap.size w w' := by
  go_enter Try.func9, Try.ntmps9
  go_wp2_with fail
  refine (New_calls 100 w).mono ?_
  rintro e w1 ⟨g, b, rfl, hB, hg, hb, hb1⟩
  have HB1 := Aside0.mk (show Bl w1 g b 100 [] by simpa using hB)
  have B1 := Aside0.mk hb1
  clear hB hb1
  go_wp2_with fail
  refine (Do_get g b 100 [] 0 ⟨#[120]⟩ none 0 [] w1 HB1.out (by decide) (by decide) (by simp) (by simp) (Kd.C_nil _ _)).mono ?_
  rintro e w2 ⟨vb, vn, rfl, hvb, hvn, hB2, hb2⟩
  obtain ⟨A1, c1, rfl, _, _⟩ := Kd.R_reads hvb
  obtain ⟨A2, c2, rfl, _, _⟩ := Kd.R_reads hvn
  have HB2 := Aside0.mk hB2
  have B2 := Aside0.mk (B1.out.trans (hb2.mono B1.out.size))
  have hb2w := HB2.out.lt.2
  clear hvb hvn hB2 hb2
  rw [show (if (findE ⟨#[120]⟩ []).isSome = true then (0 : Int) else 1) = 1 from rfl]
  simp only [findE, List.find?_nil, Option.map_none, Option.getD_none, List.length_nil]
  go_wp2_with fail
  have K1 := Aside0.mk (blk_alloc (blk_new w2 (.cells #[.int .i64 0, .int .i64 1, .slice A1 0 c1, .slice A2 0 c2] 32)) (.cells #[.int .u8 7] 5))
  have B3 := Aside0.mk (below_alloc (below_alloc (Below.refl w2.heap.size w2) (.cells #[.int .i64 0, .int .i64 1, .slice A1 0 c1, .slice A2 0 c2] 32)) (.cells #[.int .u8 7] 5))
  have hs2 : (w2.alloc (.cells #[.int .i64 0, .int .i64 1, .slice A1 0 c1, .slice A2 0 c2] 32)).heap.size = w2.heap.size + 1 := by simp
  have hC7 := Aside0.mk (show Bs.C ((w2.alloc (.cells #[.int .i64 0, .int .i64 1, .slice A1 0 c1, .slice A2 0 c2] 32)).alloc (.cells #[.int .u8 7] 5)) (some ⟨w2.heap.size + 1, 0, none⟩) 1 [7] by have := lit1_C (w2.alloc (.cells #[.int .i64 0, .int .i64 1, .slice A1 0 c1, .slice A2 0 c2] 32)) 7; rw [hs2] at this; exact this)
  clear hs2
  refine (Do_put g b 100 [] 0 ⟨#[120]⟩ (some ⟨w2.heap.size + 1, 0, none⟩) 1 [7] _ (Bl.kept HB2.out B3.out) (by simp) (by decide) (by decide) (by simp) (by simp) hC7.out (by omega)).mono ?_
  rintro e w3 ⟨vb, vn, code, L', rfl, hvb, hvn, hB3, hg3, hres⟩
  obtain ⟨A3, c3, rfl, _, _⟩ := Kd.R_reads hvb
  obtain ⟨A4, c4, rfl, _, _⟩ := Kd.R_reads hvn
  obtain ⟨rfl, A7, c7, rfl⟩ : code = 0 ∧ ∃ A c, L' = putE ⟨#[120]⟩ (.slice A 1 c) [7] [] := by
    rcases hres with ⟨h1, _⟩ | ⟨_, h2, A, c, h3⟩
    · exact absurd h1 (by decide)
    · exact ⟨h2, A, c, h3⟩
  have HB3 := Aside0.mk hB3
  have B3' := Aside0.mk (((B2.out.trans (B3.out.mono B2.out.size)).grown hg3 (Nat.le_trans B2.out.size B3.out.size) (fun j hj => by cases hj; exact hb)))
  have hne : w2.heap.size ≠ b := by omega
  have K13 := Aside0.mk (blk_grown K1.out hg3 (by simpa using hne))
  clear hvb hvn hB3 hg3 hres K1 B3
  go_wp2_with fail
  have B4 := Aside0.mk (below_alloc (Below.refl w3.heap.size w3) (.cells #[.int .i64 0, .int .i64 0, .slice A3 0 c3, .slice A4 0 c4] 32))
  refine (Do_get g b 100 _ 3 ⟨#[120]⟩ none 0 [] _ (Bl.kept HB3.out B4.out) (by decide) (by decide) (by simp) (by simp) (Kd.C_nil _ _)).mono ?_
  rintro e w4 ⟨vb, vn, rfl, hvb, hvn, hB4, hb4⟩
  rw [show (if (findE ⟨#[120]⟩ (putE ⟨#[120]⟩ (.slice A7 1 c7) [7] [])).isSome = true then (0 : Int) else 1) = 0 from rfl]
  rw [show ((findE ⟨#[120]⟩ (putE ⟨#[120]⟩ (.slice A7 1 c7) [7] [])).map (·.2.2)).getD [] = [7] from rfl] at hvb
  obtain ⟨A5, c5, rfl, hc5, hC5⟩ := Kd.R_reads hvb
  obtain ⟨A6, c6, rfl, _, _⟩ := Kd.R_reads hvn
  have K14 := Aside0.mk (blk_below (blk_alloc K13.out _) hb4)
  have K24 := Aside0.mk (blk_below (blk_new w3 _) hb4)
  have HC5 := Aside0.mk hC5
  have B5 := Aside0.mk (B3'.out.trans ((B4.out.mono (Nat.le_refl _)).trans (hb4.mono B4.out.size) |>.mono B3'.out.size))
  have n1 : w2.heap.size < w4.heap.size := blk_lt K14.out
  have n2 : w3.heap.size < w4.heap.size := blk_lt K24.out
  have a1 : w4.cell? ⟨w2.heap.size, 1, none⟩ = some (.int .i64 1) := (blk_cell K14.out 1).trans rfl
  have p1 : w4.cell? ⟨w3.heap.size, 1, none⟩ = some (.int .i64 0) := (blk_cell K24.out 1).trans rfl
  clear hvb hvn hB4 hb4 hC5
  go_wp2_with fail
  have hs4 : (w4.alloc (.cells #[.int .i64 3, .int .i64 0, .slice A5 1 c5, .slice A6 0 c6] 32)).heap.size = w4.heap.size + 1 := by simp
  have hD7 := Aside0.mk (show Bs.C ((w4.alloc (.cells #[.int .i64 3, .int .i64 0, .slice A5 1 c5, .slice A6 0 c6] 32)).alloc (.cells #[.int .u8 7] 5)) (some ⟨w4.heap.size + 1, 0, none⟩) 1 [7] by have := lit1_C (w4.alloc (.cells #[.int .i64 3, .int .i64 0, .slice A5 1 c5, .slice A6 0 c6] 32)) 7; rw [hs4] at this; exact this)
  have B6 := Aside0.mk (below_alloc (below_alloc B5.out (.cells #[.int .i64 3, .int .i64 0, .slice A5 1 c5, .slice A6 0 c6] 32)) (.cells #[.int .u8 7] 5))
  refine (Sb.same_calls_self A5 1 c5 _ 1 1 [7] _ (Kd.C_alloc (Kd.C_alloc HC5.out _) _) rfl hc5 hD7.out rfl (Nat.le_refl _) (by decide)).mono ?_
  rintro e w5 ⟨rfl, nd, rfl⟩
  clear hs4
  go_wp2_with fail
  go_ret
  exact ⟨rfl, B6.out.os, B6.out.tape, B6.out.output, B6.out.size, B6.out.block⟩
end Go.Proofs.Ytahiadghodhkhaa.Bl
