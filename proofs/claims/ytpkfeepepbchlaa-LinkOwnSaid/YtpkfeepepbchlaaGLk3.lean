import Derived.Test.YtpkfeepepbchlaaGLk2
namespace Go.Proofs.Ytpkfeepepbchlaa.Bl
open Go.RowKit Go.Maps Go.Proofs.YtpkfeepepbchlaaW.PrintWords Go.Proofs.YtpkfeepepbchlaaW.PrintLast Go.Proofs.YtpkfeepepbchlaaW.PrintMore Go.Proofs.Ytpkfeepepbchlaa.PK
set_option linter.unusedVariables false
set_option linter.unusedSimpArgs false
theorem bytesOf_str (t : List Int) (ht : Sb.Bytes t) : bytesOf (strOfNums t) = t := by
  unfold bytesOf strOfNums
  simp only [List.map_map]
  conv => rhs; rw [← List.map_id t]
  refine List.map_congr_left fun x hx => ?_
  obtain ⟨h0, h1⟩ := ht x hx
  simp only [Function.comp, id]
  rw [UInt8.toNat_ofNat']
  omega
theorem equal_is (a b : List Int) (ha : Sb.Bytes a) (hb : Sb.Bytes b) : bytes_Equal.f a b = some (decide (a = b)) := by
  unfold bytes_Equal.f
  congr 1
  by_cases h : a = b
  · subst h; simp
  · rw [decide_eq_false h]
    refine beq_eq_false_iff_ne.2 (fun e => h ?_)
    have e2 := toList_inj e
    rw [← bytesOf_str a ha, ← bytesOf_str b hb, e2]
def EntOk (L : List Ent) : Prop := ∀ y ∈ L, y.2.2.length ≤ 60000 ∧ Sb.Bytes y.2.2
set_option maxHeartbeats 4000000 in
theorem would_calls (g b : Nat) (q : Int) (L : List Ent) (A : Option Addr) (n c : Nat) (s : List Int) (w : World) (h : Bl w g b q L) (hL : L.length ≤ 100000) (hq : 0 ≤ q ∧ q ≤ 9223372036854775807) (hr : Bs.C w A n s) (hn : s.length = n) (hc : n ≤ c) (hl : n ≤ 70000) (hb : Sb.Bytes s) :
    Calls Try.prog 52 #[.pointer (some ⟨g, 0, none⟩), .slice A n c] w fun e w' => ∃ u L' out, e = .returned u ∧ Bs.R 5 w' w.heap.size (fun _ => True) u out ∧ Below w.heap.size w w' ∧ SvR q L s L' out := by
  have HH := Aside0.mk h
  have HR := Aside0.mk hr
  clear h hr
  go_enter Try.func52, Try.ntmps52
  go_wp2_with fail
  refine (Copy_calls g b q L w HH.out).mono ?_
  rintro e w1 ⟨g2, b2, rfl, hg2, hb2, hB, hb1⟩
  have HB1 := Aside0.mk hb1
  have HB := Aside0.mk hB
  clear hb1 hB
  go_wp2_with fail
  refine (Serve_calls g2 b2 q L A n c s w1 HB.out hL hq (Kd.C_below HR.out HB1.out) hn hc hl hb).mono ?_
  rintro e w2 ⟨u, L', out, rfl, hu, _, hg, hs⟩
  have hs1 := HB1.out.size
  have hB2 : Below w.heap.size w w2 := ⟨hg.os.trans HB1.out.os, hg.tape.trans HB1.out.tape, hg.output.trans HB1.out.output, Nat.le_trans hs1 hg.size, fun k hk => (hg.block k (by omega) (fun e => by injection e; omega)).trans (HB1.out.block k hk)⟩
  have HU := Aside0.mk (Kd.R_lower hu hs1)
  have HS := Aside0.mk hs
  have HB2 := Aside0.mk hB2
  clear hu hg hs hB2
  obtain ⟨Au, cu, rfl⟩ := Kd.R_slice HU.out
  go_wp2_with fail
  go_ret
  exact ⟨_, L', out, rfl, HU.out, HB2.out, HS.out⟩
set_option maxRecDepth 20000 in
set_option maxHeartbeats 4000000 in
theorem undone_calls (kind num : Int) (k : ByteArray) (B : Value) (A : Option Addr) (n c : Nat) (s : List Int) (w : World) (hB : B.oneCell' = true) (hr : Bs.C w A n s) (hn : s.length = n) (hc : n ≤ c) (hl : n ≤ 200000) (hb : Sb.Bytes s) :
    Calls Try.prog 53 #[.agg #[.int .i64 kind, .int .i64 num, .string k, B], .slice A n c] w fun e w' => ∃ β, e = .returned (.bool β) ∧ Below w.heap.size w w' := by
  have HR := Aside0.mk hr
  clear hr
  go_enter Try.func53, Try.ntmps53
  go_wp2_with fail
  have K0 := Aside0.mk (blk_new w (.cells #[.int .i64 kind, .int .i64 num, .string k, B] 30))
  have B0 := Aside0.mk (below_alloc (Below.refl w.heap.size w) (.cells #[.int .i64 kind, .int .i64 num, .string k, B] 30))
  generalize w.alloc (.cells #[.int .i64 kind, .int .i64 num, .string k, B] 30) = w0 at K0 B0 ⊢
  refine (Sb.GetAnswer_calls A n c s w0 (Kd.C_below HR.out B0.out) hn hc hl hb).mono ?_
  rintro e w1 ⟨u, v, rfl, hu, hv, hb1⟩
  obtain ⟨A1, c1, rfl, _, _⟩ := Kd.R_reads hu
  obtain ⟨A2, c2, rfl, _, _⟩ := Kd.R_reads hv
  have K1 := Aside0.mk (blk_below K0.out hb1)
  have B1 := Aside0.mk (B0.out.trans (hb1.mono B0.out.size))
  have hlt1 := blk_lt K1.out
  clear hu hv hb1 K0 B0 HR hb
  generalize (Sb.getN s).1 = nm
  generalize (Sb.getN s).2.1 = code
  generalize (Sb.getN s).2.2.1.length = l1
  generalize (Sb.getN s).2.2.2.1.length = l2
  generalize (Sb.getN s).2.2.2.2 = er
  have a0 : w1.cell? ⟨w.heap.size, 0, none⟩ = some (.int .i64 kind) := (blk_cell K1.out 0).trans rfl
  have hne : (w1.heap.size == w.heap.size) = false := beq_eq_false_iff_ne.2 (by omega)
  have B2 := Aside0.mk (below_alloc B1.out (.cells #[.int .i64 nm, .int .i64 code, .slice A1 l1 c1, .slice A2 l2 c2] 36))
  by_cases k1 : kind = 1
  · subst k1
    go_wp2_with fail
    all_goals (go_ret; exact ⟨_, rfl, B2.out⟩)
  · have hk1 : (kind == 1) = false := beq_eq_false_iff_ne.2 k1
    by_cases k4 : kind = 4
    · subst k4
      go_wp2_with fail
      all_goals (go_ret; exact ⟨_, rfl, B2.out⟩)
    · have hk4 : (kind == 4) = false := beq_eq_false_iff_ne.2 k4
      go_wp2_with fail
      all_goals (go_ret; exact ⟨_, rfl, B2.out⟩)
section
variable {T S : List Nat} {w : World} {n gp cap : Nat} {q : Int} {ps : List Pr} {fs : List Ft} {num sent ticks : Int}
set_option maxRecDepth 20000 in
set_option maxHeartbeats 8000000 in
theorem lies_calls (h : Nt S w n gp cap q ps fs num sent ticks) (hT : Ts T S n gp ps) {tt : Nat} {p : Pr} (hp : ps[tt]? = some p) (hL : p.L.length ≤ 100000) (hq : 0 ≤ q ∧ q ≤ 9223372036854775807) (hE : EntOk p.L)
    (kind nm : Int) (k : ByteArray) (Ab : Option Addr) (nb cb : Nat) (Ar : Option Addr) (nr cr : Nat) (reply : List Int) (hR : Kd.F Bs w (fun k => k ∉ S) Ar nr reply) (hnr : reply.length = nr) (hcr : nr ≤ cr) (hbr : Sb.Bytes reply)
    (As : Option Addr) (na ca : Nat) (s : List Int) (hS : Kd.F Bs w (fun k => k ∉ S) As na s) (hns : s.length = na) (hcs : na ≤ ca) (hls : na ≤ 70000) (hbs : Sb.Bytes s) (htk : 0 ≤ ticks ∧ ticks ≤ 140737488355328) :
    Calls Try.prog 38 #[.pointer (some ⟨n, 0, none⟩), .pointer (some ⟨gp, 4 * tt, none⟩), .agg #[.int .i64 kind, .int .i64 nm, .string k, .slice Ab nb cb], .slice Ar nr cr, .slice As na ca] w fun e w' =>
      ∃ dev', e = .returned (.slice Ar nr cr) ∧ Nt S w' n gp cap q (ps.set tt { p with dev := dev' }) fs num sent (ticks + 1) ∧ Tn T w w' ∧ (p.dev = true → dev' = true) ∧ (dev' = false → ∃ L2, SvR q p.L s L2 reply) := by
  have HR := Aside0.mk hR
  have HS := Aside0.mk hS
  have HE := Aside0.mk hE
  have hxS : w.heap.size ∉ S := fun hm => by have := h.lt _ hm; omega
  obtain ⟨A, c, h1, h2, h3⟩ := h.net
  have c4 : w.cell? ⟨n, 4, none⟩ = some (.int .i64 ticks) := (blk_cell h1 4).trans rfl
  have z4 := blk_frozen h1 4
  have hnl := blk_lt h1
  have hne1 : (w.heap.size == n) = false := beq_eq_false_iff_ne.2 (by omega)
  have hw : IntKind.i64.wrap (ticks + 1) = ticks + 1 := IntWalk.i64_in (n := _) (by omega)
  have N1 := Aside0.mk (h.setTicks (ticks + 1))
  have T1 := Aside0.mk (Tn.of_set w hT.n 4 (.int .i64 (ticks + 1)))
  have hg0 : (w.setCell ⟨n, 4, none⟩ (.int .i64 (ticks + 1))).cell? ⟨gp, 4 * tt, none⟩ = some (.pointer (some ⟨p.g, 0, none⟩)) := N1.out.cell hp 0 _ rfl
  have hgl : gp < w.heap.size := h.lt gp h.mem.2.1
  have hne2 : (w.heap.size == gp) = false := beq_eq_false_iff_ne.2 (by omega)
  have hne3 : (n == gp) = false := beq_eq_false_iff_ne.2 h.ngp
  have HH := Aside0.mk h
  clear h h1 h2 h3 hR hS hE
  go_enter Try.func38, Try.ntmps38
  go_wp2_with fail
  have hsz : (w.setCell ⟨n, 4, none⟩ (.int .i64 (ticks + 1))).heap.size = w.heap.size := by simp [World.setCell]
  clear hg0 c4 z4 hne1 hne2 hne3
  generalize w.setCell ⟨n, 4, none⟩ (.int .i64 (ticks + 1)) = W1 at N1 T1 hsz ⊢
  have KA := Aside0.mk (blk_new W1 (.cells #[.int .i64 kind, .int .i64 nm, .string k, .slice Ab nb cb] 30))
  have bA := below_alloc (Below.refl W1.heap.size W1) (.cells #[.int .i64 kind, .int .i64 nm, .string k, .slice Ab nb cb] 30)
  have N2 := Aside0.mk (N1.out.kept bA)
  have T2 := Aside0.mk (T1.out.trans (Tn.of_below bA))
  rw [hsz] at KA
  generalize W1.alloc (.cells #[.int .i64 kind, .int .i64 nm, .string k, .slice Ab nb cb] 30) = W2 at KA N2 T2 ⊢
  clear N1 T1 bA hsz
  have hBl := N2.out.prov p (List.mem_of_getElem? hp)
  have HSM := Aside0.mk hBl.small
  refine (would_calls p.g p.b q p.L As na ca s W2 hBl hL hq (Kd.F_now (T2.out.F hT.sub HS.out)) hns hcs hls hbs).mono ?_
  rintro e w3 ⟨u, L2, out, rfl, hu, hb3, hsv⟩
  obtain ⟨ho1, ho2, _⟩ := hsv.right HSM.out HE.out
  have N3 := Aside0.mk (N2.out.kept hb3)
  have T3 := Aside0.mk (T2.out.trans (Tn.of_below hb3))
  have KA3 := Aside0.mk (blk_below KA.out hb3)
  obtain ⟨Au, cu, rfl, hcu, hCu⟩ := Kd.R_reads hu
  have HSV := Aside0.mk hsv
  have HO2 := Aside0.mk ho2
  have HCU := Aside0.mk hCu
  clear hu hb3 hsv hBl HSM N2 T2 KA ho2 hCu
  have hq2 : w3.cell? ⟨gp, 4 * tt + 2, none⟩ = some (.bool p.dev) := N3.out.cell hp 2 _ rfl
  have hz2 := N3.out.frozen (4 * tt + 2)
  have a0 : w3.cell? ⟨w.heap.size, 0, none⟩ = some (.int .i64 kind) := (blk_cell KA3.out 0).trans rfl
  have a1 : w3.cell? ⟨w.heap.size, 1, none⟩ = some (.int .i64 nm) := (blk_cell KA3.out 1).trans rfl
  have a2 : w3.cell? ⟨w.heap.size, 2, none⟩ = some (.string k) := (blk_cell KA3.out 2).trans rfl
  have a3 : w3.cell? ⟨w.heap.size, 3, none⟩ = some (.slice Ab nb cb) := (blk_cell KA3.out 3).trans rfl
  have HST := Aside0.mk (fun (dev' : Bool) (W : World) (hb : Below w3.heap.size w3 W) => (N3.out.kept hb).setP (p' := { p with dev := dev' }) hp 2 (.bool dev') (by omega) rfl rfl rfl rfl rfl)
  have HTT := Aside0.mk (fun (dev' : Bool) (W : World) (hb : Below w3.heap.size w3 W) => (T3.out.trans (Tn.of_below hb)).trans (Tn.of_set W hT.gp (4 * tt + 2) (.bool dev')))
  cases hdv : p.dev with
  | true =>
    rw [hdv] at hq2
    go_wp2_with fail
    go_ret
    exact ⟨true, rfl, HST.out true w3 (Below.refl _ _), HTT.out true w3 (Below.refl _ _), fun _ => rfl, fun h => by cases h⟩
  | false =>
    rw [hdv] at hq2
    go_wp2_with fail
    subst hnr
    refine (bytes_Equal.calls Ar cr reply Au cu out _ w3 (Kd.F_now (T3.out.F hT.sub HR.out)) hcr HCU.out hcu (equal_is reply out hbr HO2.out)).mono ?_
    rintro e w4 ⟨rfl, hd4⟩
    have hb4 := Drawn0.below hd4 |>.mono (Nat.le_refl w3.heap.size)
    have HB4 := Aside0.mk hb4
    have KA4 := Aside0.mk (blk_below KA3.out hb4)
    have N4 := Aside0.mk (N3.out.kept hb4)
    have hz4 := N4.out.frozen (4 * tt + 2)
    have hq4 : w4.cell? ⟨gp, 4 * tt + 2, none⟩ = some (.bool false) := N4.out.cell hp 2 _ (by rw [← hdv]; rfl)
    clear hd4 hb4 a0 a1 a2 a3 hq2 hz2 KA3
    have a0 : w4.cell? ⟨w.heap.size, 0, none⟩ = some (.int .i64 kind) := (blk_cell KA4.out 0).trans rfl
    have a1 : w4.cell? ⟨w.heap.size, 1, none⟩ = some (.int .i64 nm) := (blk_cell KA4.out 1).trans rfl
    have a2 : w4.cell? ⟨w.heap.size, 2, none⟩ = some (.string k) := (blk_cell KA4.out 2).trans rfl
    have a3 : w4.cell? ⟨w.heap.size, 3, none⟩ = some (.slice Ab nb cb) := (blk_cell KA4.out 3).trans rfl
    by_cases hro : reply = out
    · have hdd : decide (reply = out) = true := decide_eq_true hro
      rw [hdd]
      have HRO := Aside0.mk hro
      clear hro hdd
      go_wp2_with fail
      refine (undone_calls kind nm k (.slice Ab nb cb) Au out.length cu out w4 rfl (Kd.C_below HCU.out HB4.out) rfl hcu (by omega) HO2.out).mono ?_
      rintro e w5 ⟨β, rfl, hb5⟩
      have HB5 := Aside0.mk (HB4.out.trans (hb5.mono HB4.out.size))
      have N5 := Aside0.mk (N4.out.kept hb5)
      have hz5 := N5.out.frozen (4 * tt + 2)
      have hq5 : w5.cell? ⟨gp, 4 * tt + 2, none⟩ = some (.bool false) := N5.out.cell hp 2 _ (by rw [← hdv]; rfl)
      clear hb5 a0 a1 a2 a3 hz4 hq4
      cases β
      all_goals
        go_wp2_with fail
        go_ret
        exact ⟨_, rfl, HST.out _ w5 HB5.out, HTT.out _ w5 HB5.out, fun h => by first | rfl | cases h | (rw [hdv] at h; cases h), fun _ => ⟨L2, by rw [HRO.out]; exact HSV.out⟩⟩
    · have hdd : decide (reply = out) = false := decide_eq_false hro
      rw [hdd]
      go_wp2_with fail
      go_ret
      exact ⟨true, rfl, HST.out true w4 HB4.out, HTT.out true w4 HB4.out, fun _ => rfl, fun h => by cases h⟩
end
end Go.Proofs.Ytpkfeepepbchlaa.Bl
