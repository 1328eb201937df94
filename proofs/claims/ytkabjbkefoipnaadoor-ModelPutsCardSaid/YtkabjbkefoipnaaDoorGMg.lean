import Derived.Test.YtkabjbkefoipnaaDoorGMw
import Derived.Laws.ResultCell
namespace Go.Proofs.YtkabjbkefoipnaaDoor.Md
open Go.Lib Go.RowKit Go.Proofs.YtkabjbkefoipnaaDoorW.PrintWords Go.Proofs.YtkabjbkefoipnaaDoorW.PrintLast Go.Proofs.YtkabjbkefoipnaaDoorW.PrintMore Go.Proofs.YtkabjbkefoipnaaDoor.PM Go.Proofs.YtkabjbkefoipnaaDoor.Nm
set_option linter.unusedVariables false
set_option linter.unusedSimpArgs false
def Sized (l : List Sc) : Prop := l.length ≤ 400 ∧ ∀ x, x ∈ l → x.f0.size ≤ 4000 ∧ x.f1.length ≤ 1000 ∧ ∀ y, y ∈ x.f1 → y.f2.length ≤ 100000
set_option maxRecDepth 20000 in
theorem Put_calls (l : List Sc) (name : ByteArray) (num : Int) (t : List Int) (A : Option Addr) (c : Nat) (A2 : Option Addr) (c2 : Nat) (w : World) (hr : kS.C w A l.length l) (hc : l.length ≤ c) (hz : Sized l)
    (hn : name.size ≤ 4000) (hv : Bs.C w A2 t.length t) (hvc : t.length ≤ c2) (hvl : t.length ≤ 100000) (hT : Lib.Utf8Tabs 0 1 w) :
    Calls Tryd.prog 14 #[.slice A l.length c, .string name, .int .i64 num, .slice A2 t.length c2] w fun e w' => WithE l name ⟨num, false, t⟩ w w' e ∧ Below w.heap.size w w' := by
  have HW := Aside0.mk (with_calls l name ⟨num, false, t⟩ A c A2 c2 w hr hc hz.1 hz.2 hn hv hvc hvl hT)
  clear hr hv hT hz
  go_enter Tryd.func14, Tryd.ntmps14
  go_wp2_with fail
  refine HW.out.mono ?_
  rintro e w1 ⟨⟨r, z, u, ps, rfl, h1, h2, h3⟩, hb⟩
  have H1 := Aside0.mk h1
  have H2 := Aside0.mk h2
  have H3 := Aside0.mk h3
  have HB := Aside0.mk hb
  clear h1 h2 h3 hb
  go_wp2_with fail
  go_ret2
  exact ⟨⟨r, z, u, ps, rfl, H1.out, H2.out, H3.out⟩, HB.out⟩
set_option maxRecDepth 20000 in
theorem MDelete_calls (l : List Sc) (name : ByteArray) (num : Int) (A : Option Addr) (c : Nat) (w : World) (hr : kS.C w A l.length l) (hc : l.length ≤ c) (hz : Sized l)
    (hn : name.size ≤ 4000) (hT : Lib.Utf8Tabs 0 1 w) :
    Calls Tryd.prog 16 #[.slice A l.length c, .string name, .int .i64 num] w fun e w' => WithE l name ⟨num, true, []⟩ w w' e ∧ Below w.heap.size w w' := by
  have HW := Aside0.mk (with_calls l name ⟨num, true, []⟩ A c none 0 w hr hc hz.1 hz.2 hn (Kd.C_nil _ _) (Nat.le_refl _) (Nat.zero_le _) hT)
  clear hr hT hz
  go_enter Tryd.func16, Tryd.ntmps16
  go_wp2_with fail
  refine HW.out.mono ?_
  rintro e w1 ⟨⟨r, z, u, ps, rfl, h1, h2, h3⟩, hb⟩
  have H1 := Aside0.mk h1
  have H2 := Aside0.mk h2
  have H3 := Aside0.mk h3
  have HB := Aside0.mk hb
  clear h1 h2 h3 hb
  go_wp2_with fail
  go_ret2
  exact ⟨⟨r, z, u, ps, rfl, H1.out, H2.out, H3.out⟩, HB.out⟩
inductive VrsP (l : List Sc) (name : ByteArray) : List Kn → Int → Prop
  | name : rightN name = false → VrsP l name [] 5
  | none (i) : rightN name = true → FndP l name i false → VrsP l name [] 6
  | some (i) (h : i < l.length) : rightN name = true → FndP l name i true → VrsP l name l[i].f1 0
def VrsE (l : List Sc) (name : ByteArray) (w : World) (e : Ending) : Prop := ∃ (vs : List Kn) (z : Int) (A : Option Addr) (c : Nat), e = .returned (.tuple #[.slice A vs.length c, .int .i64 z]) ∧ VrsP l name vs z ∧ vs.length ≤ c ∧ kK.C w A vs.length vs
set_option maxRecDepth 20000 in
set_option maxHeartbeats 4000000 in
theorem versions_calls (l : List Sc) (name : ByteArray) (A : Option Addr) (c : Nat) (w : World) (hr : kS.C w A l.length l) (hc : l.length ≤ c) (hz : Sized l) (hn : name.size ≤ 4000) (hR : RightP l) (hT : Lib.Utf8Tabs 0 1 w) :
    Calls Tryd.prog 41 #[.slice A l.length c, .string name] w fun e w' => VrsE l name w' e ∧ Below w.heap.size w w' := by
  have HC := Aside0.mk hr
  have HX := Aside0.mk hz
  have HT := Aside0.mk hT
  have HR := Aside0.mk hR
  have hll := hz.1
  clear hr hz hT hR
  go_enter Tryd.func41, Tryd.ntmps41
  go_wp2_with fail
  refine (Right_calls name w (by omega)).mono ?_
  rintro e w1 ⟨rfl, hb1⟩
  have B1 := Aside0.mk hb1
  clear hb1
  cases hrn : right (runes (BL name)) with
  | false =>
    go_wp2_with fail
    go_ret2
    exact ⟨⟨[], 5, none, 0, rfl, .name hrn, Nat.le_refl _, Kd.C_nil _ _⟩, B1.out⟩
  | true =>
    have HRN := Aside0.mk (show rightN name = true from hrn)
    clear hrn
    go_wp2_with fail
    refine (find_calls l name A c w1 (Kd.C_below HC.out B1.out) hc (by omega) (fun s hs => (HX.out.2 s hs).1) hn HR.out (tabs_below HT.out B1.out)).mono ?_
    rintro e w2 ⟨⟨i, t, rfl, hf⟩, hb2⟩
    have B2 := Aside0.mk (B1.out.trans (hb2.mono B1.out.size))
    have HF := Aside0.mk hf
    clear hb2 hf
    cases t with
    | false =>
      go_wp2_with fail
      go_ret2
      exact ⟨⟨[], 6, none, 0, rfl, .none i HRN.out HF.out, Nat.le_refl _, Kd.C_nil _ _⟩, B2.out⟩
    | true =>
      obtain ⟨hil, _⟩ := HF.out.yes rfl
      have hci : (i : Int) < (l.length : Int) := by omega
      obtain ⟨ad, A1, c1, e9, hx0, hx1, hl1, hC1⟩ := at_T39 HC.out i (Int.natCast_nonneg _) hci
      cases e9
      have hx1 := Kd.cell_heap (fun k hk => B2.out.block k hk) hx1
      rw [rdS l i hil, Int.toNat_natCast] at hx1
      rw [rdS l i hil] at hl1 hC1
      have HP := Aside0.mk (VrsP.some i hil HRN.out HF.out)
      have HC1 := Aside0.mk (Kd.C_below hC1 B2.out)
      have hpos : ((l[i].f1.length : Int) == 0) = false := by rw [beq_eq_false_iff_ne]; have := (HR.out.at i hil).pos; omega
      clear hC1 hx0
      generalize l[i].f1 = vs at hx1 hl1 HP HC1 hpos
      go_wp2_with fail
      go_ret2
      exact ⟨⟨vs, 0, A1, c1, rfl, HP.out, hl1, HC1.out⟩, B2.out⟩
theorem results_two {P : Program} {fn : Func} {p u : Tmp} {ty : TypeId} (h : fn.results = #[.cell p ty, .tmp u]) (tmps : Array Value) (w : World) (g : Nat) (t : TypeId) (cs : Array Value) (fr : Nat × Nat) (d : TypeDesc)
    (hp : tmps.getD p undef = .pointer (some ⟨g, 0, none⟩)) (hg : w.heap[g]? = some (.cells cs t fr))
    (hu : P.underlying ty = some d) (hd : (match d with | .struct _ | .array _ _ => true | _ => false) = true) (hi : (P.info? ty).map (·.size) = some cs.size) :
    (results fn tmps).run P w = .ok (.tuple #[.agg cs, tmps.getD u undef]) w := by
  rw [results_cell_tmp h]
  have hp' : tmps[p]?.getD undef = .pointer (some ⟨g, 0, none⟩) := by simpa using hp
  simp [hp', asAddr, Result.andThen, run_loadVar_row w g t ty cs fr d hg hu hd hi]
def kn0 : Kn := ⟨0, false, []⟩
def KnE (x : Kn) (z : Int) (w : World) (e : Ending) : Prop := ∃ (A : Option Addr) (c : Nat), e = .returned (.tuple #[kv x (.slice A x.f2.length c), .int .i64 z]) ∧ x.f2.length ≤ c ∧ Bs.C w A x.f2.length x.f2
def getV (vs : List Kn) (z : Int) : Kn × Int := if z = 0 then (if (lastV vs).f1 = true then (kn0, 6) else (lastV vs, 0)) else (kn0, z)
def GetE (l : List Sc) (name : ByteArray) (w : World) (e : Ending) : Prop := ∃ vs z, VrsP l name vs z ∧ KnE (getV vs z).1 (getV vs z).2 w e
theorem getV_err {vs : List Kn} {z : Int} (h : z ≠ 0) : getV vs z = (kn0, z) := if_neg h
theorem getV_gone {vs : List Kn} (h : (lastV vs).f1 = true) : getV vs 0 = (kn0, 6) := by unfold getV; rw [if_pos rfl, if_pos h]
theorem getV_there {vs : List Kn} (h : (lastV vs).f1 = false) : getV vs 0 = (lastV vs, 0) := by unfold getV; rw [if_pos rfl, if_neg (by rw [h]; simp)]
theorem KnE.zero (z : Int) (w : World) : KnE kn0 z w (.returned (.tuple #[.agg #[.int .i64 0, .bool false, .slice none 0 0], .int .i64 z])) := ⟨none, 0, rfl, Nat.le_refl _, Kd.C_nil _ _⟩
theorem VrsP.pos {l : List Sc} {name : ByteArray} {vs : List Kn} (hR : RightP l) (h : VrsP l name vs 0) : 1 ≤ vs.length ∧ vs.length ≤ 4 ∧ ∀ v, v ∈ vs → v.f2.length ≤ 1000 := by
  generalize hz : (0 : Int) = z at h
  cases h with
  | name _ => simp at hz
  | none _ _ _ => simp at hz
  | some i h _ _ =>
    have := hR.at i h
    exact ⟨this.pos, this.most, fun v hv => (VersP.pos this.vers (Int.le_refl _) v hv).2.2⟩
set_option maxRecDepth 20000 in
set_option maxHeartbeats 4000000 in
theorem Get_calls (l : List Sc) (name : ByteArray) (A : Option Addr) (c : Nat) (w : World) (hr : kS.C w A l.length l) (hc : l.length ≤ c) (hz : Sized l) (hn : name.size ≤ 4000) (hR : RightP l) (hT : Lib.Utf8Tabs 0 1 w) :
    Calls Tryd.prog 17 #[.slice A l.length c, .string name] w fun e w' => GetE l name w' e ∧ Below w.heap.size w w' := by
  have K1 := Aside0.mk (blk_new w (.cells box0 25))
  have B1 := Aside0.mk (below_alloc (Below.refl w.heap.size w) (.cells box0 25))
  have HV := Aside0.mk (versions_calls l name A c (w.alloc (.cells box0 25)) (Kd.C_alloc hr _) hc hz hn hR (tabs_below hT B1.out))
  have HR := Aside0.mk hR
  clear hr hz hT hR
  go_enter Tryd.func17, Tryd.ntmps17
  go_wp2_with fail
  generalize w.alloc (.cells box0 25) = w1 at K1 B1 HV ⊢
  refine HV.out.mono ?_
  rintro e w2 ⟨⟨vs, z, A1, c1, rfl, hp, hc1, hC1⟩, hb2⟩
  have HP := Aside0.mk hp
  have HC1 := Aside0.mk hC1
  have B2 := Aside0.mk (B1.out.trans (hb2.mono B1.out.size))
  have K2 := Aside0.mk (blk_below K1.out hb2)
  clear hp hC1 hb2 K1 B1 HV
  have y0 : w2.cell? ⟨w.heap.size, 0, none⟩ = some (.int .i64 0) := (blk_cell K2.out 0).trans rfl
  have y1 : w2.cell? ⟨w.heap.size, 1, none⟩ = some (.bool false) := (blk_cell K2.out 1).trans rfl
  have y2 : w2.cell? ⟨w.heap.size, 2, none⟩ = some (.slice none 0 0) := (blk_cell K2.out 2).trans rfl
  have z0 := blk_frozen K2.out 0
  have z1 := blk_frozen K2.out 1
  have z2 := blk_frozen K2.out 2
  by_cases hz0 : z = 0
  · subst hz0
    obtain ⟨hp1, hp4, htx⟩ := HP.out.pos HR.out
    obtain ⟨ad1, A3, c3, e9, hy0, hy1, hy2, hl3, hC3⟩ := at_T25 HC1.out ((vs.length : Int) - 1) (by omega) (by omega)
    cases e9
    have hla := lastV_get (l := vs) (by omega)
    have HTX := Aside0.mk (show (lastV vs).f2.length ≤ 1000 by rw [hla]; exact htx _ (List.getElem_mem _))
    clear htx
    rw [show ((vs.length : Int) - 1) = ((vs.length - 1 : Nat) : Int) by omega, rdK vs _ (by omega), ← hla] at hy0 hy1 hy2 hl3 hC3
    rw [Int.toNat_natCast] at hy0 hy1 hy2
    have HG := Aside0.mk (fun h => getV_gone (vs := vs) h)
    have HT2 := Aside0.mk (fun h => getV_there (vs := vs) h)
    clear hla
    have hq0 : (0 : Int) ≤ (vs.length : Int) - 1 := by omega
    have hq1 : (vs.length : Int) - 1 < (vs.length : Int) := by omega
    have hq2 : (1 : Int) ≤ (vs.length : Int) := by omega
    have hwm : IntKind.i64.wrap ((vs.length : Int) - 1) = (vs.length : Int) - 1 := by rw [i64_w]; unfold wrap64; omega
    generalize lastV vs = x at hy0 hy1 hy2 hl3 hC3 HTX HG HT2
    obtain ⟨xn, xg, xt⟩ := x
    dsimp only at hy0 hy1 hy2 hl3 hC3 HTX HG HT2
    have OBJ := Aside0.mk (show (.cells #[.int .i64 xn, .bool xg, .slice A3 xt.length c3] 25 : Obj) = .cells #[.int .i64 xn, .bool xg, .slice A3 xt.length c3] 25 from rfl)
    have B3 := Aside0.mk (below_alloc B2.out (.cells #[.int .i64 xn, .bool xg, .slice A3 xt.length c3] 25))
    have K3 := Aside0.mk (blk_alloc K2.out (.cells #[.int .i64 xn, .bool xg, .slice A3 xt.length c3] 25))
    have HC3 := Aside0.mk (Kd.C_alloc hC3 (.cells #[.int .i64 xn, .bool xg, .slice A3 xt.length c3] 25))
    clear hC3
    have y0' := (blk_cell K3.out 0).trans (show _ = some (Value.int .i64 0) from rfl)
    have y1' := (blk_cell K3.out 1).trans (show _ = some (Value.bool false) from rfl)
    have y2' := (blk_cell K3.out 2).trans (show _ = some (Value.slice none 0 0) from rfl)
    have z0' := blk_frozen K3.out 0
    have z1' := blk_frozen K3.out 1
    have z2' := blk_frozen K3.out 2
    cases xg with
    | true =>
      have P1 := blk_put K3.out 0 (.int .i64 0) rfl
      have P2 := blk_put P1 1 (.bool false) rfl
      have P3 := Aside0.mk (blk_put P2 2 (.slice none 0 0) rfl)
      have BF := Aside0.mk (below_set (j := 2) (v := .slice none 0 0) (below_set (j := 1) (v := .bool false) (below_set (j := 0) (v := .int .i64 0) B3.out (Nat.le_refl _)) (Nat.le_refl _)) (Nat.le_refl _))
      clear P1 P2
      go_wp2_with fail
      refine bodyPost_ret (results_two rfl _ _ w.heap.size 25 _ (0, 0) _ rfl P3.out Tryd.underlying25 rfl (by kernel_rfl)) rfl ?_
      have hg6 : getV vs 0 = (kn0, 6) := by first | exact HG.out rfl | exact HG.out trivial
      exact ⟨⟨vs, 0, HP.out, by rw [hg6]; exact KnE.zero 6 _⟩, BF.out⟩
    | false =>
      go_wp2_with fail
      refine (own_calls ⟨xn, false, xt⟩ A3 c3 (w2.alloc (.cells #[.int .i64 xn, .bool false, .slice A3 xt.length c3] 25)) HC3.out hl3 (by have := HTX.out; show xt.length ≤ _; omega)).mono ?_
      rintro e w4 ⟨u, rfl, hu, hb4⟩
      have B4 := Aside0.mk (B3.out.trans (hb4.mono B3.out.size))
      have K4 := Aside0.mk (blk_below K3.out hb4)
      have HU := Aside0.mk hu
      obtain ⟨A5, c5, rfl, _, _⟩ := Kd.R_reads hu
      clear hu hb4 B3 K3 y0 y1 y2 z0 z1 z2 y0' y1' y2' z0' z1' z2' hy0 hy1 hy2
      have e0 := (blk_cell K4.out 0).trans (show _ = some (Value.int .i64 0) from rfl)
      have e1 := (blk_cell K4.out 1).trans (show _ = some (Value.bool false) from rfl)
      have e2 := (blk_cell K4.out 2).trans (show _ = some (Value.slice none 0 0) from rfl)
      have f0 := blk_frozen K4.out 0
      have f1 := blk_frozen K4.out 1
      have f2 := blk_frozen K4.out 2
      have P1 := Aside0.mk (blk_put K4.out 0 (.int .i64 xn) rfl)
      have P2 := Aside0.mk (blk_put P1.out 1 (.bool false) rfl)
      have P3 := Aside0.mk (blk_put P2.out 2 (.slice A5 xt.length c5) rfl)
      have HU3 := Aside0.mk (Kd.R_set (Kd.R_set (Kd.R_set HU.out K4.out (by decide) 0 (.int .i64 xn)) P1.out (by decide) 1 (.bool false)) P2.out (by decide) 2 (.slice A5 xt.length c5))
      have BF := Aside0.mk (below_set (j := 2) (v := .slice A5 xt.length c5) (below_set (j := 1) (v := .bool false) (below_set (j := 0) (v := .int .i64 xn) B4.out (Nat.le_refl _)) (Nat.le_refl _)) (Nat.le_refl _))
      clear P1 P2 HU K4 B4
      go_wp2_with fail
      refine bodyPost_ret (results_two rfl _ _ w.heap.size 25 _ (0, 0) _ rfl P3.out Tryd.underlying25 rfl (by kernel_rfl)) rfl ?_
      obtain ⟨A6, c6, he, hl6, hC6⟩ := Kd.R_reads HU3.out
      injection he with h1 h2 h3
      subst h1 h3
      have hg0 : getV vs 0 = (⟨xn, false, xt⟩, 0) := by first | exact HT2.out rfl | exact HT2.out trivial
      exact ⟨⟨vs, 0, HP.out, by rw [hg0]; exact ⟨A5, c5, rfl, hl6, hC6⟩⟩, BF.out⟩
  · have hz1 : (z != 0) = true := by rw [bne_iff_ne]; exact hz0
    have P1 := blk_put K2.out 0 (.int .i64 0) rfl
    have P2 := blk_put P1 1 (.bool false) rfl
    have P3 := Aside0.mk (blk_put P2 2 (.slice none 0 0) rfl)
    have BF := Aside0.mk (below_set (j := 2) (v := .slice none 0 0) (below_set (j := 1) (v := .bool false) (below_set (j := 0) (v := .int .i64 0) B2.out (Nat.le_refl _)) (Nat.le_refl _)) (Nat.le_refl _))
    clear P1 P2
    go_wp2_with fail
    refine bodyPost_ret (results_two rfl _ _ w.heap.size 25 _ (0, 0) _ rfl P3.out Tryd.underlying25 rfl (by kernel_rfl)) rfl ?_
    exact ⟨⟨vs, z, HP.out, by rw [getV_err hz0]; exact KnE.zero z _⟩, BF.out⟩
end Go.Proofs.YtkabjbkefoipnaaDoor.Md
