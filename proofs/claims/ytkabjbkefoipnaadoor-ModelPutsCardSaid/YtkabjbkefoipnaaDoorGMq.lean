import Derived.Test.YtkabjbkefoipnaaDoorGMp
import Derived.Test.YtkabjbkefoipnaaDoorGMd1
import Derived.StillTailTactics
namespace Go.Proofs.YtkabjbkefoipnaaDoor.Md
open Go.Lib Go.RowKit Go.Proofs.YtkabjbkefoipnaaDoorW.PrintWords Go.Proofs.YtkabjbkefoipnaaDoorW.PrintLast Go.Proofs.YtkabjbkefoipnaaDoorW.PrintMore Go.Proofs.YtkabjbkefoipnaaDoor.PM Go.Proofs.YtkabjbkefoipnaaDoor.Nm
set_option linter.unusedVariables false
set_option linter.unusedSimpArgs false
set_option maxRecDepth 20000 in
theorem plain_calls (s : ByteArray) (w : World) (hs : s.size ≤ 4000000) (hT : Lib.Utf8Tabs 0 1 w) :
    Calls Tryd.prog 35 #[.string s] w fun e w' => e = .returned (.string (pf s)) ∧ Below w.heap.size w w' := by
  have HP := Aside0.mk (Plain_calls s w hs hT)
  clear hT
  change Calls Tryd.prog 35 #[.string s] w fun e w' => e = .returned (.string (plainB s).1) ∧ Below w.heap.size w w'
  generalize plainB s = pq at HP ⊢
  obtain ⟨p, q⟩ := pq
  go_enter Tryd.func35, Tryd.ntmps35
  go_wp2_with fail
  refine HP.out.mono ?_
  rintro e w1 ⟨rfl, hb⟩
  have HB := Aside0.mk hb
  clear hb
  go_wp2_with fail
  go_ret
  exact ⟨rfl, HB.out⟩
def Tells (SP : Prop) (e : Ending) : Prop := ∃ b, e = .returned (.bool b) ∧ (b = true ↔ SP)
theorem Tells.no {SP : Prop} (h : ¬ SP) : Tells SP (.returned (.bool false)) := ⟨false, rfl, by simp [h]⟩
theorem Tells.yes {SP : Prop} (h : SP) : Tells SP (.returned (.bool true)) := ⟨true, rfl, by simp [h]⟩
theorem drop_at {α : Type} (l : List α) (i : Nat) (h : i < l.length) : l.drop i = l[i] :: l.drop (i + 1) := List.drop_eq_getElem_cons h
set_option maxRecDepth 20000 in
set_option maxHeartbeats 8000000 in
theorem secret_calls (s : Sc) (A : Option Addr) (c : Nat) (w : World) (hr : kK.C w A s.f1.length s.f1) (hc : s.f1.length ≤ c) (hs : s.f0.size ≤ 140737488355328) :
    Calls Tryd.prog 33 #[.agg #[.string s.f0, .slice A s.f1.length c]] w fun e w' => Tells (SecP s) e ∧ Below w.heap.size w w' := by
  obtain ⟨nm, vs⟩ := s
  have HR := Aside0.mk hr
  have HSP : Aside0 (SecP ⟨nm, vs⟩ ↔ (rightN nm = true ∧ 1 ≤ vs.length ∧ vs.length ≤ 4 ∧ VersP gone0 vs)) := ⟨⟨fun h => ⟨h.name, h.pos, h.most, h.vers⟩, fun h => ⟨h.1, h.2.1, h.2.2.1, h.2.2.2⟩⟩⟩
  generalize SecP ⟨nm, vs⟩ = SP at HSP ⊢
  have K1 := Aside0.mk (blk_new w (.cells #[.string nm, .slice A vs.length c] 39))
  have B1 := Aside0.mk (below_alloc (Below.refl w.heap.size w) (.cells #[.string nm, .slice A vs.length c] 39))
  have HN := Aside0.mk (fun W => Right_calls nm W hs)
  clear hr
  go_enter Tryd.func33, Tryd.ntmps33
  go_wp2_with fail
  generalize w.alloc (.cells #[.string nm, .slice A vs.length c] 39) = w1 at K1 B1 ⊢
  refine (HN.out w1).mono ?_
  rintro e w2 ⟨rfl, hb2⟩
  have B2 := Aside0.mk (B1.out.trans (hb2.mono B1.out.size))
  have K2 := Aside0.mk (blk_below K1.out hb2)
  clear hb2 K1 B1
  have x1 : w2.cell? ⟨w.heap.size, 1, none⟩ = some (.slice A vs.length c) := (blk_cell K2.out 1).trans rfl
  cases hrn : rightN nm with
  | false =>
    go_wp2_with fail
    go_ret
    exact ⟨.no (by rw [HSP.out, hrn]; simp), B2.out⟩
  | true =>
    by_cases h1 : vs.length < 1
    · have d1 : decide ((vs.length : Int) < 1) = true := decide_eq_true (by omega)
      go_wp2_with fail
      go_ret
      exact ⟨.no (by rw [HSP.out]; simp; omega), B2.out⟩
    have d1 : decide ((vs.length : Int) < 1) = false := decide_eq_false (by omega)
    by_cases h4 : vs.length > 4
    · have d4 : decide ((vs.length : Int) > 4) = true := decide_eq_true (by omega)
      go_wp2_with fail
      go_ret
      exact ⟨.no (by rw [HSP.out]; simp; omega), B2.out⟩
    have d4 : decide ((vs.length : Int) > 4) = false := decide_eq_false (by omega)
    have x2 : (w2.alloc (.cells #[.int .i64 0, .bool true, .slice none 0 0] 25)).cell? ⟨w.heap.size, 1, none⟩ = some (.slice A vs.length c) := (blk_cell (blk_alloc K2.out _) 1).trans rfl
    have G3 := Aside0.mk (blk_new w2 (.cells #[.int .i64 0, .bool true, .slice none 0 0] 25))
    have B3 := Aside0.mk (below_alloc B2.out (.cells #[.int .i64 0, .bool true, .slice none 0 0] 25))
    have HG := Aside0.mk B2.out.size
    have HSV := Aside0.mk (show SP ↔ VersP gone0 vs by rw [HSP.out, hrn]; exact ⟨fun h => h.2.2.2, fun h => ⟨rfl, by omega, by omega, h⟩⟩)
    go_wp2_with fail
    generalize w2.alloc (.cells #[.int .i64 0, .bool true, .slice none 0 0] 25) = w3 at G3 B3 x2 ⊢
    generalize w2.heap.size = g at G3 HG ⊢
    go_loopg [26] vs.length (fun kq v26 w' => ∃ (i : Nat) (la : Kn) (sv : Value), v26 = .int .i64 i ∧ i ≤ vs.length ∧ Aside0 (kq + i = vs.length) ∧ Aside0 (w'.heap[g]? = some (.cells #[.int .i64 la.f0, .bool la.f1, sv] 25 (0, 0))) ∧ Aside0 (Below w.heap.size w w') ∧ Aside0 (VersP la (vs.drop i) ↔ SP))
    case atStart => exact ⟨0, gone0, .slice none 0 0, rfl, Nat.zero_le _, ⟨rfl⟩, G3, B3, ⟨HSV.out.symm⟩⟩
    case round =>
      obtain ⟨i, la, sv, rfl, hi, HK, HL, HB, HV⟩ := hrel
      by_cases hlt : i < vs.length
      · have hci : (i : Int) < (vs.length : Int) := by omega
        obtain ⟨ad, A1, c1, e9, hx0, hx1, hx2, hl1, hC1⟩ := at_T25 HR.out i (Int.natCast_nonneg _) hci
        cases e9
        have hx0 := Kd.cell_heap (fun k hk => HB.out.block k hk) hx0
        have hx1 := Kd.cell_heap (fun k hk => HB.out.block k hk) hx1
        have hx2 := Kd.cell_heap (fun k hk => HB.out.block k hk) hx2
        rw [rdK vs i hlt] at hx0 hx1 hx2 hl1 hC1
        have hvc := HV.out
        rw [drop_at vs i hlt] at hvc
        generalize vs[i] = x at hx0 hx1 hx2 hl1 hC1 hvc
        have HVC := Aside0.mk hvc
        clear hvc hC1
        rw [Int.toNat_natCast] at hx0 hx1 hx2
        have hwl : IntKind.i64.wrap ((i : Int) + 1) = ((i + 1 : Nat) : Int) := by rw [i64_w]; unfold wrap64; omega
        obtain ⟨xn, xg, xt⟩ := x
        obtain ⟨ln, lg, lt⟩ := la
        dsimp only at hx0 hx1 hx2 hl1 HL HVC HV ⊢
        have K5 := Aside0.mk (blk_new wr (.cells #[.int .i64 xn, .bool xg, .slice A1 xt.length c1] 25))
        have L5 := Aside0.mk (blk_alloc HL.out (.cells #[.int .i64 xn, .bool xg, .slice A1 xt.length c1] 25))
        have B5 := Aside0.mk (below_alloc HB.out (.cells #[.int .i64 xn, .bool xg, .slice A1 xt.length c1] 25))
        have y0 := (blk_cell L5.out 0).trans (show _ = some (Value.int .i64 ln) from rfl)
        have y1 := (blk_cell L5.out 1).trans (show _ = some (Value.bool lg) from rfl)
        have HNE := Aside0.mk (show g ≠ wr.heap.size by have := blk_lt HL.out; omega)
        by_cases q1 : xn ≤ ln
        · go_wp2_with fail
          go_ret
          exact ⟨.no (fun h => by have := (HVC.out.2 h).1.num; dsimp only at this; omega), B5.out⟩
        by_cases q2 : 200 < xn
        · go_wp2_with fail
          go_ret
          exact ⟨.no (fun h => by have := (HVC.out.2 h).1.top; dsimp only at this; omega), B5.out⟩
        by_cases q3 : 1000 < (xt.length : Int)
        · go_wp2_with fail
          go_ret
          exact ⟨.no (fun h => by have := (HVC.out.2 h).1.len; dsimp only at this; omega), B5.out⟩
        by_cases q4 : xg = true ∧ (lg = true ∨ 0 < (xt.length : Int))
        · obtain ⟨rfl, q4⟩ := q4
          have HC4 := Aside0.mk (show ¬ SP from fun h => by
            have := (HVC.out.2 h).1.gone rfl
            dsimp only at this
            rcases q4 with q4 | q4
            · rw [q4] at this; cases this.1
            · rw [this.2] at q4; simp at q4)
          cases lg with
          | true =>
            go_wp2_with fail
            go_ret
            exact ⟨.no HC4.out, B5.out⟩
          | false =>
            have q5 : 0 < (xt.length : Int) := by simpa using q4
            clear q4
            go_wp2_with fail
            go_ret
            exact ⟨.no HC4.out, B5.out⟩
        have HV2 := Aside0.mk (show VersP ⟨xn, xg, xt⟩ (vs.drop (i + 1)) ↔ SP from ⟨fun h => HVC.out.1 ⟨⟨by dsimp only; omega, by dsimp only; omega, by dsimp only; omega, fun hg => by
            dsimp only at hg ⊢
            subst hg
            cases lg with
            | true => exact absurd ⟨rfl, .inl rfl⟩ q4
            | false => exact ⟨rfl, List.eq_nil_of_length_eq_zero (by by_cases h0 : 0 < (xt.length : Int); · exact absurd ⟨rfl, .inr h0⟩ q4
                                                                     · omega)⟩⟩, h⟩, fun h => (HVC.out.2 h).2⟩)
        have y2 := (blk_cell L5.out 2).trans (show _ = some sv from rfl)
        have z0 := blk_frozen L5.out 0
        have z1 := blk_frozen L5.out 1
        have z2 := blk_frozen L5.out 2
        have L6 := Aside0.mk (blk_put L5.out 0 (.int .i64 xn) rfl)
        have L7 := Aside0.mk (blk_put L6.out 1 (.bool xg) rfl)
        have L8 := Aside0.mk (blk_put L7.out 2 (.slice A1 xt.length c1) rfl)
        have B8 := Aside0.mk (below_set (j := 2) (v := .slice A1 xt.length c1) (below_set (j := 1) (v := .bool xg) (below_set (j := 0) (v := .int .i64 xn) B5.out HG.out) HG.out) HG.out)
        cases xg with
        | false =>
          clear q4
          go_wp2_with fail
          go_roundg (vs.length - (i + 1))
          case measure => have := HK.out; omega
          case rel => exact ⟨i + 1, ⟨xn, false, xt⟩, .slice A1 xt.length c1, by first | rfl | (simp [hwl]; done) | rw [hwl], by omega, ⟨by omega⟩, L8, B8, HV2⟩
        | true =>
          have q6 : lg = false := by cases lg with | false => rfl | true => exact absurd ⟨rfl, .inl rfl⟩ q4
          have q7 : ¬ 0 < (xt.length : Int) := fun h0 => q4 ⟨rfl, .inr h0⟩
          subst q6
          clear q4
          go_wp2_with fail
          go_roundg (vs.length - (i + 1))
          case measure => have := HK.out; omega
          case rel => exact ⟨i + 1, ⟨xn, true, xt⟩, .slice A1 xt.length c1, by first | rfl | (simp [hwl]; done) | rw [hwl], by omega, ⟨by omega⟩, L8, B8, HV2⟩
      · have hci : ¬ (i : Int) < (vs.length : Int) := by omega
        go_wp2_with fail
        go_ret
        have e : i = vs.length := by omega
        subst e
        exact ⟨.yes (by have := HV.out; rw [List.drop_length] at this; exact this.1 trivial), HB.out⟩
end Go.Proofs.YtkabjbkefoipnaaDoor.Md
