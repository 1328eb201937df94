import Derived.Test.YtpkfeepepbchlaaGLk3
namespace Go.Proofs.Ytpkfeepepbchlaa.Bl
open Go.RowKit Go.Maps Go.Proofs.YtpkfeepepbchlaaW.PrintWords Go.Proofs.YtpkfeepepbchlaaW.PrintLast Go.Proofs.YtpkfeepepbchlaaW.PrintMore Go.Proofs.Ytpkfeepepbchlaa.PK
set_option linter.unusedVariables false
set_option linter.unusedSimpArgs false
def TryR (q : Int) (s : List Int) (fk : Int) (L : List Ent) (dev : Bool) (L' : List Ent) (dev' : Bool) (tk : Int) (came : Bool) (out : List Int) : Prop :=
  (fk = 1 ∧ came = false ∧ L' = L ∧ dev' = dev ∧ tk = 4) ∨
  (fk = 2 ∧ came = false ∧ (∃ o, SvR q L s L' o) ∧ dev' = dev ∧ tk = 4) ∨
  ((fk = 3 ∨ fk = 6 ∨ fk = 7) ∧ came = true ∧ L' = L ∧ tk = 1 ∧ (dev = true → dev' = true) ∧ (dev' = false → ∃ L2, SvR q L s L2 out)) ∨
  (fk = 4 ∧ came = true ∧ tk = 1 ∧ (dev = true → dev' = true) ∧ ∃ o, SvR q L s L' o ∧ (dev' = false → out = o)) ∨
  (fk = 5 ∧ came = true ∧ dev' = dev ∧ tk = 1 ∧ ∃ L1 o, SvR q L s L1 o ∧ SvR q L1 s L' out) ∨
  (fk ≠ 1 ∧ fk ≠ 2 ∧ fk ≠ 3 ∧ fk ≠ 4 ∧ fk ≠ 5 ∧ fk ≠ 6 ∧ fk ≠ 7 ∧ came = true ∧ dev' = dev ∧ tk = 1 ∧ SvR q L s L' out)
def FtOk (fs : List Ft) : Prop := ∀ f ∈ fs, f.f1.length ≤ 3000 ∧ Sb.Bytes f.f1
theorem FtOk.hd {fs : List Ft} (h : FtOk fs) : (hdF fs).f1.length ≤ 3000 ∧ Sb.Bytes (hdF fs).f1 := by
  cases fs with
  | nil => exact ⟨by simp [hdF], Sb.Bytes.nil⟩
  | cons a r => exact h a (by simp)
theorem FtOk.tl {fs : List Ft} (h : FtOk fs) : FtOk fs.tail := fun f hf => h f (List.mem_of_mem_tail hf)
theorem SvR_ents {q kind nm : Int} {k : ByteArray} {t s o : List Int} {L L' : List Ent} (h : SvR q L s L' o) (hg : Sb.getA s = (kind, nm, bytesOf k, t, 0)) (ht : Sb.Bytes t) (hE : EntOk L) : EntOk L' := by
  rcases h with ⟨_, rfl, _⟩ | ⟨_, nm', code, bd, ns, hD, _⟩
  · exact hE
  · rw [hg] at hD
    exact hD.ents ht hE
section
variable {T S : List Nat} {w : World} {n gp cap : Nat} {q : Int} {ps : List Pr} {fs : List Ft} {num sent ticks : Int}
set_option maxRecDepth 20000 in
set_option maxHeartbeats 16000000 in
theorem goes_calls (h : Nt S w n gp cap q ps fs num sent ticks) (hTs : Ts T S n gp ps) {tt : Nat} {p : Pr} (hp : ps[tt]? = some p) (ho : p.o = .slice none 0 0) (hL : p.L.length ≤ 99990) (hq : 0 ≤ q ∧ q ≤ 9223372036854775807) (hE : EntOk p.L) (hfo : FtOk fs)
    (kind nm : Int) (k : ByteArray) (Ab : Option Addr) (cb : Nat) (t : List Int) (hK : Sb.okA kind nm k.size t.length = true) (htb : Sb.Bytes t) (hT : Kd.F Bs w (fun k => k ∉ S) Ab t.length t) (hcb : t.length ≤ cb)
    (htk : 0 ≤ ticks ∧ ticks ≤ 140737488355320) (hst : 0 ≤ sent ∧ sent ≤ 140737488355320) :
    Calls Try.prog 28 #[.pointer (some ⟨n, 0, none⟩), .pointer (some ⟨gp, 4 * tt, none⟩), .agg #[.int .i64 kind, .int .i64 nm, .string k, .slice Ab t.length cb]] w fun e w' =>
      ∃ A c out came dev' L' tk, e = .returned (.tuple #[.slice A out.length c, .bool came]) ∧ out.length ≤ c ∧ Bs.C w' A out.length out ∧ Sb.Bytes out ∧ out.length ≤ 200000 ∧
        Nt S w' n gp cap q (ps.set tt { p with L := L', dev := dev' }) fs.tail num (sent + 1) (ticks + tk) ∧ Tn T w w' ∧ TryR q (Sb.askB kind nm k t).1 (hdF fs).f0 p.L p.dev L' dev' tk came out := by
  have HT := Aside0.mk hT
  have HE := Aside0.mk hE
  have hfh := hfo.hd
  have hxS : w.heap.size ∉ S := fun hm => by have := h.lt _ hm; omega
  have hxT : w.heap.size ∉ T := fun hm => hxS (hTs.sub _ hm)
  have hbT := hTs.b p (List.mem_of_getElem? hp)
  obtain ⟨A, c, h1, h2, h3⟩ := h.net
  have c3 : w.cell? ⟨n, 3, none⟩ = some (.int .i64 sent) := (blk_cell h1 3).trans rfl
  have z3 := blk_frozen h1 3
  have hnl := blk_lt h1
  have hne1 : (w.heap.size == n) = false := beq_eq_false_iff_ne.2 (by omega)
  have hw : IntKind.i64.wrap (sent + 1) = sent + 1 := IntWalk.i64_in (n := _) (by omega)
  have N1 := Aside0.mk (h.setSent (sent + 1))
  have T1 := Aside0.mk (Tn.of_set w hTs.n 3 (.int .i64 (sent + 1)))
  clear h h1 h2 h3 hT hE
  go_enter Try.func28, Try.ntmps28
  go_wp2_with fail
  -- WALK
  have hsz : (w.setCell ⟨n, 3, none⟩ (.int .i64 (sent + 1))).heap.size = w.heap.size := by simp [World.setCell]
  clear c3 z3 hne1
  generalize w.setCell ⟨n, 3, none⟩ (.int .i64 (sent + 1)) = W1 at N1 T1 hsz ⊢
  have KA := Aside0.mk (blk_new W1 (.cells #[.int .i64 kind, .int .i64 nm, .string k, .slice Ab t.length cb] 30))
  have bA := below_alloc (Below.refl W1.heap.size W1) (.cells #[.int .i64 kind, .int .i64 nm, .string k, .slice Ab t.length cb] 30)
  have N2 := Aside0.mk (N1.out.kept bA)
  have T2 := Aside0.mk (T1.out.trans (Tn.of_below bA))
  rw [hsz] at KA
  generalize W1.alloc (.cells #[.int .i64 kind, .int .i64 nm, .string k, .slice Ab t.length cb] 30) = W2 at KA N2 T2 ⊢
  clear N1 T1 bA hsz
  refine (Sb.PutAsk_calls kind nm k Ab t.length cb t W2 trivial trivial rfl hcb (Kd.F_now (T2.out.F hTs.sub HT.out))).mono ?_
  rintro e w3 ⟨u, rfl, hu, hb3⟩
  obtain ⟨s, hs1, hls, hbs, hgs⟩ := Sb.askB_ok hK htb
  have HS1 := Aside0.mk (congrArg Prod.fst hs1)
  rw [hs1] at hu ⊢
  clear hs1
  obtain ⟨As, cs, rfl, hcs, _⟩ := Kd.R_reads hu
  have N3 := Aside0.mk (N2.out.kept hb3)
  have T3 := Aside0.mk (T2.out.trans (Tn.of_below hb3))
  have KA3 := Aside0.mk (blk_below KA.out hb3)
  have HS3 := Aside0.mk (Kd.F_mono (ok' := fun k => k ∉ S) (Kd.R_F (Kd.R_bound hu)) (fun j hj hm => by have := N2.out.lt j hm; have := hj.2.1; omega))
  clear hu hb3 N2 T2 KA
  generalize hln : s.length = ns at hcs HS3 hls ⊢
  go_wp2_with fail
  refine (fate_calls N3.out hTs hp ho).mono ?_
  rintro e w4 ⟨Af, cf, rfl, hcf, hF4, hN4, hT4⟩
  have N4 := Aside0.mk hN4
  have T4 := Aside0.mk (T3.out.trans hT4)
  have KA4 := Aside0.mk (hT4.blk KA3.out hxT)
  have HS4 := Aside0.mk (hT4.F hTs.sub HS3.out)
  have HF4 := Aside0.mk hF4
  clear hF4 hN4 hT4 N3 T3 KA3 HS3
  generalize hfk : (hdF fs).f0 = fk at ⊢
  generalize hrp : (hdF fs).f1 = rep at hcf HF4 hfh ⊢
  generalize hft : fs.tail = ft at N4 ⊢
  have hself : ps.set tt p = ps := by
    obtain ⟨hl9, he9⟩ := List.getElem?_eq_some_iff.1 hp
    rw [← he9]
    exact List.set_getElem_self hl9
  have FIN := Aside0.mk (fun (W : World) (A : Option Addr) (c : Nat) (out : List Int) (came dev' : Bool) (L' : List Ent) (tk : Int) (h1 : out.length ≤ c) (h2 : Bs.C W A out.length out) (h3 : Sb.Bytes out) (h4 : out.length ≤ 200000)
    (h5 : Nt S W n gp cap q (ps.set tt { p with L := L', dev := dev' }) ft num (sent + 1) (ticks + tk)) (h6 : Tn T w W) (h7 : TryR q s fk p.L p.dev L' dev' tk came out) =>
    show ∃ A' c' out' came' dev'' L'' tk', Ending.returned (.tuple #[.slice A out.length c, .bool came]) = Ending.returned (.tuple #[.slice A' out'.length c', .bool came']) ∧ out'.length ≤ c' ∧ Bs.C W A' out'.length out' ∧ Sb.Bytes out' ∧ out'.length ≤ 200000 ∧
        Nt S W n gp cap q (ps.set tt { p with L := L'', dev := dev'' }) fs.tail num (sent + 1) (ticks + tk') ∧ Tn T w W ∧ TryR q (Sb.askB kind nm k t).1 (hdF fs).f0 p.L p.dev L'' dev'' tk' came' out' from
      ⟨A, c, out, came, dev', L', tk, rfl, h1, h2, h3, h4, by rw [hft]; exact h5, h6, by rw [HS1.out, hfk]; exact h7⟩)
  have hal4 : w.heap.size < w4.heap.size := blk_lt KA4.out
  clear hfo hfk hrp HT hft HS1
  have hnm : 0 ≤ nm ∧ nm ≤ 2147483647 := ⟨(okA_parts hK).2.2.1, (okA_parts hK).2.2.2.1⟩
  have HEN := Aside0.mk (fun {L' : List Ent} {o : List Int} (hv : SvR q p.L s L' o) => SvR_ents hv hgs htb HE.out)
  obtain ⟨An, cn, h1, h2, h3⟩ := N4.out.net
  have hsm4 := Aside0.mk (N4.out.prov p (List.mem_of_getElem? hp)).small
  have hmem := List.mem_of_getElem? hp
  have hlt : tt < ps.length := (List.getElem?_eq_some_iff.1 hp).1
  have hnl4 := blk_lt h1
  have hne1 : (w4.heap.size == n) = false := beq_eq_false_iff_ne.2 (by omega)
  have hgl4 : gp < w4.heap.size := N4.out.lt gp N4.out.mem.2.1
  have hne2 : (w4.heap.size == gp) = false := beq_eq_false_iff_ne.2 (by omega)
  have hne3 : (w4.heap.size == w.heap.size) = false := beq_eq_false_iff_ne.2 (by omega)
  have c4 : w4.cell? ⟨n, 4, none⟩ = some (.int .i64 ticks) := (blk_cell h1 4).trans rfl
  have z4 := blk_frozen h1 4
  have g0 : w4.cell? ⟨gp, 4 * tt, none⟩ = some (.pointer (some ⟨p.g, 0, none⟩)) := N4.out.cell hp 0 _ rfl
  have a0 : w4.cell? ⟨w.heap.size, 0, none⟩ = some (.int .i64 kind) := (blk_cell KA4.out 0).trans rfl
  have a1 : w4.cell? ⟨w.heap.size, 1, none⟩ = some (.int .i64 nm) := (blk_cell KA4.out 1).trans rfl
  have a2 : w4.cell? ⟨w.heap.size, 2, none⟩ = some (.string k) := (blk_cell KA4.out 2).trans rfl
  have a3 : w4.cell? ⟨w.heap.size, 3, none⟩ = some (.slice Ab t.length cb) := (blk_cell KA4.out 3).trans rfl
  have g01 : (w4.setCell ⟨n, 4, none⟩ (.int .i64 (ticks + 1))).cell? ⟨gp, 4 * tt, none⟩ = some (.pointer (some ⟨p.g, 0, none⟩)) := (N4.out.setTicks (ticks + 1)).cell hp 0 _ rfl
  have hw4 : IntKind.i64.wrap (ticks + 4) = ticks + 4 := IntWalk.i64_in (n := _) (by omega)
  have hw1 : IntKind.i64.wrap (ticks + 1) = ticks + 1 := IntWalk.i64_in (n := _) (by omega)
  clear h1 h2 h3
  by_cases k2 : fk = 2
  · subst k2
    go_wp2_with fail
    have KF := Aside0.mk (blk_new w4 (.cells #[.int .i64 2, .slice Af rep.length cf] 43))
    have hb5 := below_alloc (Below.refl w4.heap.size w4) (.cells #[.int .i64 2, .slice Af rep.length cf] 43)
    have B5 := Aside0.mk hb5
    have N5 := Aside0.mk (N4.out.kept hb5)
    have T5 := Aside0.mk (T4.out.trans (Tn.of_below hb5))
    have KA5 := Aside0.mk (blk_below KA4.out hb5)
    have HS5 := Aside0.mk ((Tn.of_below hb5).F hTs.sub HS4.out)
    have HF5 := Aside0.mk ((Tn.of_below hb5).F hTs.sub HF4.out)
    clear hb5
    generalize hw5 : w4.alloc (.cells #[.int .i64 2, .slice Af rep.length cf] 43) = w5 at KF B5 N5 T5 KA5 HS5 HF5 ⊢
    clear hw5
    clear c4 z4 g0 g01 a0 a1 a2 a3
    have hm6 := List.mem_of_getElem? hp
    refine (Serve_calls p.g p.b q p.L As ns cs s w5 (show Bl w5 p.g p.b q p.L from N5.out.prov { p with L := p.L } hm6) (by omega) hq (Kd.F_now HS5.out) hln hcs hls hbs).mono ?_
    rintro e w6 ⟨u6, L6, o6, rfl, hu6, hB6, hg6, hs6⟩
    obtain ⟨A6, c6, rfl, hc6, hC6⟩ := Kd.R_reads hu6
    have hg6t := Tn.of_grown hg6 hbT
    have N6 := Aside0.mk (N5.out.serve hp hg6 hB6)
    have T6 := Aside0.mk (T5.out.trans hg6t)
    have HSx6 := Aside0.mk (hg6t.F hTs.sub HS5.out)
    have HV6 := Aside0.mk hs6
    have HC6 := Aside0.mk hC6
    have HTt6 := Aside0.mk hg6t
    clear hu6 hB6 hg6 hs6 hC6 hg6t hm6
    obtain ⟨An, cn, h1, _, _⟩ := N6.out.net
    have c4x : w6.cell? ⟨n, 4, none⟩ = some (.int .i64 (ticks)) := (blk_cell h1 4).trans rfl
    have z4x := blk_frozen h1 4
    clear h1
    go_wp2_with fail
    go_ret2
    exact FIN.out (_) (none) (0) ([]) false (p.dev) (L6) 4 (Nat.le_refl _) (Kd.C_nil _ _) (Sb.Bytes.nil) (by simp) (N6.out.setTicks (ticks + 4)) (T6.out.trans (Tn.of_set w6 hTs.n 4 _)) (.inr (.inl ⟨rfl, rfl, ⟨o6, HV6.out⟩, rfl, rfl⟩))
  · have e2 : (fk == 2) = false := beq_eq_false_iff_ne.2 k2
    by_cases k1 : fk = 1
    · subst k1
      go_wp2_with fail
      go_ret2
      exact FIN.out (_) (none) (0) ([]) false (p.dev) (p.L) 4 (Nat.le_refl _) (Kd.C_nil _ _) (Sb.Bytes.nil) (by simp) (show Nt S _ n gp cap q (ps.set tt p) ft num (sent + 1) (ticks + 4) from by rw [hself]; exact (N4.out.setTicks (ticks + 4)).kept (below_alloc (Below.refl _ _) _)) ((T4.out.trans (Tn.of_set w4 hTs.n 4 _)).trans (Tn.of_below (below_alloc (Below.refl _ _) _))) (.inl ⟨rfl, rfl, rfl, rfl, rfl⟩)
    · have e1 : (fk == 1) = false := beq_eq_false_iff_ne.2 k1
      by_cases k6 : fk = 6
      · subst k6
        go_wp2_with fail
        have KF := Aside0.mk (blk_new w4 (.cells #[.int .i64 6, .slice Af rep.length cf] 43))
        have hb5 := below_alloc (Below.refl w4.heap.size w4) (.cells #[.int .i64 6, .slice Af rep.length cf] 43)
        have B5 := Aside0.mk hb5
        have N5 := Aside0.mk (N4.out.kept hb5)
        have T5 := Aside0.mk (T4.out.trans (Tn.of_below hb5))
        have KA5 := Aside0.mk (blk_below KA4.out hb5)
        have HS5 := Aside0.mk ((Tn.of_below hb5).F hTs.sub HS4.out)
        have HF5 := Aside0.mk ((Tn.of_below hb5).F hTs.sub HF4.out)
        clear hb5
        generalize hw5 : w4.alloc (.cells #[.int .i64 6, .slice Af rep.length cf] 43) = w5 at KF B5 N5 T5 KA5 HS5 HF5 ⊢
        clear hw5
        clear c4 z4 g0 g01 a0 a1 a2 a3
        have hR6 : Sb.okR nm 0 rep.length [] = true := okR_of (by simp) ⟨by omega, by omega, hnm.1, hnm.2, by first | omega | simp, by simp⟩
        refine (Sb.PutAnswer_calls nm 0 Af rep.length cf rep none 0 [] w5 (by first | omega | simp) (by simp) rfl (by first | exact hcf | exact Nat.le_refl _) (by first | exact Kd.F_now HF5.out | exact Kd.C_nil _ _) (Kd.C_nil _ _)).mono ?_
        rintro e w6 ⟨u6, rfl, hu6, hb6⟩
        obtain ⟨r6, hr6, _, hl6, hrb6, _⟩ := Sb.ansB_ok hR6 hfh.2
        rw [hr6] at hu6 ⊢
        clear hr6 hR6
        obtain ⟨A6, c6, rfl, hc6, _⟩ := Kd.R_reads hu6
        have hp5 : w4.heap.size < w5.heap.size := blk_lt KF.out
        have hR6' := Aside0.mk (Kd.F_mono (ok' := fun k => k ∉ S ∧ k ≠ w4.heap.size) (Kd.R_F (Kd.R_bound hu6)) (fun j hj => ⟨fun hm => by have := N5.out.lt j hm; have := hj.2.1; omega, by have := hj.2.1; omega⟩))
        have B6 := Aside0.mk (below_then B5.out B5.out.size (hb6.mono (Nat.le_refl _)))
        have KF6 := blk_below KF.out hb6
        have KA6 := blk_below KA5.out hb6
        have f1 : w6.cell? ⟨w4.heap.size, 1, none⟩ = some (.slice Af rep.length cf) := (blk_cell KF6 1).trans rfl
        have zf := blk_frozen KF6 1
        have KA7 := Aside0.mk (blk_far (p := ⟨w4.heap.size, 1, none⟩) KA6 (show w.heap.size ≠ w4.heap.size by omega) (.slice A6 r6.length c6))
        have KF7 := Aside0.mk (blk_put KF6 1 (.slice A6 r6.length c6) rfl)
        have B7 := Aside0.mk (below_set (j := 1) (v := .slice A6 r6.length c6) B6.out (Nat.le_refl w4.heap.size))
        have N7 := Aside0.mk (N4.out.kept B7.out)
        have T7 := Aside0.mk (T4.out.trans (Tn.of_below B7.out))
        have HS7 := Aside0.mk ((Tn.of_below B7.out).F hTs.sub HS4.out)
        have HR7 := Aside0.mk (Kd.F_mono (ok' := fun k => k ∉ S) (Kd.F_far (p := ⟨w4.heap.size, 1, none⟩) hR6'.out (fun _ hk => hk.2) (.slice A6 r6.length c6)) (fun _ hk => hk.1))
        have a0' : (w6.setCell ⟨w4.heap.size, 1, none⟩ (.slice A6 r6.length c6)).cell? ⟨w.heap.size, 0, none⟩ = some (.int .i64 kind) := (blk_cell KA7.out 0).trans rfl
        have a1' : (w6.setCell ⟨w4.heap.size, 1, none⟩ (.slice A6 r6.length c6)).cell? ⟨w.heap.size, 1, none⟩ = some (.int .i64 nm) := (blk_cell KA7.out 1).trans rfl
        have a2' : (w6.setCell ⟨w4.heap.size, 1, none⟩ (.slice A6 r6.length c6)).cell? ⟨w.heap.size, 2, none⟩ = some (.string k) := (blk_cell KA7.out 2).trans rfl
        have a3' : (w6.setCell ⟨w4.heap.size, 1, none⟩ (.slice A6 r6.length c6)).cell? ⟨w.heap.size, 3, none⟩ = some (.slice Ab t.length cb) := (blk_cell KA7.out 3).trans rfl
        have f1' : (w6.setCell ⟨w4.heap.size, 1, none⟩ (.slice A6 r6.length c6)).cell? ⟨w4.heap.size, 1, none⟩ = some (.slice A6 r6.length c6) := (blk_cell KF7.out 1).trans rfl
        clear hu6 hb6 KF6 KA6
        go_wp2_with fail
        refine (lies_calls N7.out hTs hp (by omega) hq HE.out kind nm k Ab t.length cb (A6) r6.length (c6) (r6) HR7.out rfl hc6 hrb6 As ns cs s HS7.out hln hcs hls hbs (by omega)).mono ?_
        rintro e w8 ⟨dev8, rfl, hN8, hT8, hd8, hs8⟩
        have HN8 := Aside0.mk hN8
        have HT8 := Aside0.mk hT8
        have HD8 := Aside0.mk hd8
        have HS8 := Aside0.mk hs8
        clear hN8 hT8 hd8 hs8
        go_wp2_with fail
        go_ret2
        exact FIN.out (w8) (A6) (c6) (r6) true (dev8) (p.L) 1 (hc6) (Kd.F_now (HT8.out.F hTs.sub HR7.out)) (hrb6) (by omega) (HN8.out) (T7.out.trans HT8.out) (.inr (.inr (.inl ⟨.inr (.inl rfl), rfl, rfl, rfl, HD8.out, HS8.out⟩)))
      · have e6 : (fk == 6) = false := beq_eq_false_iff_ne.2 k6
        by_cases k7 : fk = 7
        · subst k7
          go_wp2_with fail
          have KF := Aside0.mk (blk_new w4 (.cells #[.int .i64 7, .slice Af rep.length cf] 43))
          have hb5 := below_alloc (Below.refl w4.heap.size w4) (.cells #[.int .i64 7, .slice Af rep.length cf] 43)
          have B5 := Aside0.mk hb5
          have N5 := Aside0.mk (N4.out.kept hb5)
          have T5 := Aside0.mk (T4.out.trans (Tn.of_below hb5))
          have KA5 := Aside0.mk (blk_below KA4.out hb5)
          have HS5 := Aside0.mk ((Tn.of_below hb5).F hTs.sub HS4.out)
          have HF5 := Aside0.mk ((Tn.of_below hb5).F hTs.sub HF4.out)
          clear hb5
          generalize hw5 : w4.alloc (.cells #[.int .i64 7, .slice Af rep.length cf] 43) = w5 at KF B5 N5 T5 KA5 HS5 HF5 ⊢
          clear hw5
          clear c4 z4 g0 g01 a0 a1 a2 a3
          have hR6 : Sb.okR nm 1 ([] : List Int).length [] = true := okR_of (by simp) ⟨by omega, by omega, hnm.1, hnm.2, by first | omega | simp, by simp⟩
          refine (Sb.PutAnswer_calls nm 1 none 0 0 [] none 0 [] w5 (by first | omega | simp) (by simp) rfl (by first | exact hcf | exact Nat.le_refl _) (by first | exact Kd.F_now HF5.out | exact Kd.C_nil _ _) (Kd.C_nil _ _)).mono ?_
          rintro e w6 ⟨u6, rfl, hu6, hb6⟩
          obtain ⟨r6, hr6, _, hl6, hrb6, _⟩ := Sb.ansB_ok hR6 Sb.Bytes.nil
          rw [hr6] at hu6 ⊢
          clear hr6 hR6
          obtain ⟨A6, c6, rfl, hc6, _⟩ := Kd.R_reads hu6
          have hp5 : w4.heap.size < w5.heap.size := blk_lt KF.out
          have hR6' := Aside0.mk (Kd.F_mono (ok' := fun k => k ∉ S ∧ k ≠ w4.heap.size) (Kd.R_F (Kd.R_bound hu6)) (fun j hj => ⟨fun hm => by have := N5.out.lt j hm; have := hj.2.1; omega, by have := hj.2.1; omega⟩))
          have B6 := Aside0.mk (below_then B5.out B5.out.size (hb6.mono (Nat.le_refl _)))
          have KF6 := blk_below KF.out hb6
          have KA6 := blk_below KA5.out hb6
          have f1 : w6.cell? ⟨w4.heap.size, 1, none⟩ = some (.slice Af rep.length cf) := (blk_cell KF6 1).trans rfl
          have zf := blk_frozen KF6 1
          have KA7 := Aside0.mk (blk_far (p := ⟨w4.heap.size, 1, none⟩) KA6 (show w.heap.size ≠ w4.heap.size by omega) (.slice A6 r6.length c6))
          have KF7 := Aside0.mk (blk_put KF6 1 (.slice A6 r6.length c6) rfl)
          have B7 := Aside0.mk (below_set (j := 1) (v := .slice A6 r6.length c6) B6.out (Nat.le_refl w4.heap.size))
          have N7 := Aside0.mk (N4.out.kept B7.out)
          have T7 := Aside0.mk (T4.out.trans (Tn.of_below B7.out))
          have HS7 := Aside0.mk ((Tn.of_below B7.out).F hTs.sub HS4.out)
          have HR7 := Aside0.mk (Kd.F_mono (ok' := fun k => k ∉ S) (Kd.F_far (p := ⟨w4.heap.size, 1, none⟩) hR6'.out (fun _ hk => hk.2) (.slice A6 r6.length c6)) (fun _ hk => hk.1))
          have a0' : (w6.setCell ⟨w4.heap.size, 1, none⟩ (.slice A6 r6.length c6)).cell? ⟨w.heap.size, 0, none⟩ = some (.int .i64 kind) := (blk_cell KA7.out 0).trans rfl
          have a1' : (w6.setCell ⟨w4.heap.size, 1, none⟩ (.slice A6 r6.length c6)).cell? ⟨w.heap.size, 1, none⟩ = some (.int .i64 nm) := (blk_cell KA7.out 1).trans rfl
          have a2' : (w6.setCell ⟨w4.heap.size, 1, none⟩ (.slice A6 r6.length c6)).cell? ⟨w.heap.size, 2, none⟩ = some (.string k) := (blk_cell KA7.out 2).trans rfl
          have a3' : (w6.setCell ⟨w4.heap.size, 1, none⟩ (.slice A6 r6.length c6)).cell? ⟨w.heap.size, 3, none⟩ = some (.slice Ab t.length cb) := (blk_cell KA7.out 3).trans rfl
          have f1' : (w6.setCell ⟨w4.heap.size, 1, none⟩ (.slice A6 r6.length c6)).cell? ⟨w4.heap.size, 1, none⟩ = some (.slice A6 r6.length c6) := (blk_cell KF7.out 1).trans rfl
          clear hu6 hb6 KF6 KA6
          go_wp2_with fail
          refine (lies_calls N7.out hTs hp (by omega) hq HE.out kind nm k Ab t.length cb (A6) r6.length (c6) (r6) HR7.out rfl hc6 hrb6 As ns cs s HS7.out hln hcs hls hbs (by omega)).mono ?_
          rintro e w8 ⟨dev8, rfl, hN8, hT8, hd8, hs8⟩
          have HN8 := Aside0.mk hN8
          have HT8 := Aside0.mk hT8
          have HD8 := Aside0.mk hd8
          have HS8 := Aside0.mk hs8
          clear hN8 hT8 hd8 hs8
          go_wp2_with fail
          go_ret2
          exact FIN.out (w8) (A6) (c6) (r6) true (dev8) (p.L) 1 (hc6) (Kd.F_now (HT8.out.F hTs.sub HR7.out)) (hrb6) (by omega) (HN8.out) (T7.out.trans HT8.out) (.inr (.inr (.inl ⟨.inr (.inr rfl), rfl, rfl, rfl, HD8.out, HS8.out⟩)))
        · have e7 : (fk == 7) = false := beq_eq_false_iff_ne.2 k7
          by_cases k3 : fk = 3
          · subst k3
            go_wp2_with fail
            have KF := Aside0.mk (blk_new w4 (.cells #[.int .i64 3, .slice Af rep.length cf] 43))
            have hb5 := below_alloc (Below.refl w4.heap.size w4) (.cells #[.int .i64 3, .slice Af rep.length cf] 43)
            have B5 := Aside0.mk hb5
            have N5 := Aside0.mk (N4.out.kept hb5)
            have T5 := Aside0.mk (T4.out.trans (Tn.of_below hb5))
            have KA5 := Aside0.mk (blk_below KA4.out hb5)
            have HS5 := Aside0.mk ((Tn.of_below hb5).F hTs.sub HS4.out)
            have HF5 := Aside0.mk ((Tn.of_below hb5).F hTs.sub HF4.out)
            clear hb5
            generalize hw5 : w4.alloc (.cells #[.int .i64 3, .slice Af rep.length cf] 43) = w5 at KF B5 N5 T5 KA5 HS5 HF5 ⊢
            clear hw5
            clear c4 z4 g0 g01 a0 a1 a2 a3
            refine (lies_calls N5.out hTs hp (by omega) hq HE.out kind nm k Ab t.length cb (Af) rep.length (cf) (rep) HF5.out rfl hcf hfh.2 As ns cs s HS5.out hln hcs hls hbs (by omega)).mono ?_
            rintro e w8 ⟨dev8, rfl, hN8, hT8, hd8, hs8⟩
            have HN8 := Aside0.mk hN8
            have HT8 := Aside0.mk hT8
            have HD8 := Aside0.mk hd8
            have HS8 := Aside0.mk hs8
            clear hN8 hT8 hd8 hs8
            go_wp2_with fail
            go_ret2
            exact FIN.out (w8) (Af) (cf) (rep) true (dev8) (p.L) 1 (hcf) (Kd.F_now (HT8.out.F hTs.sub HF5.out)) (hfh.2) (by omega) (HN8.out) (T5.out.trans HT8.out) (.inr (.inr (.inl ⟨.inl rfl, rfl, rfl, rfl, HD8.out, HS8.out⟩)))
          · have e3 : (fk == 3) = false := beq_eq_false_iff_ne.2 k3
            by_cases k4 : fk = 4
            · subst k4
              go_wp2_with fail
              have N4b := Aside0.mk (N4.out.setTicks (ticks + 1))
              have T4a := Tn.of_set w4 hTs.n 4 (.int .i64 (ticks + 1))
              have T4b := Aside0.mk (T4.out.trans T4a)
              have KA4b := Aside0.mk (T4a.blk KA4.out hxT)
              have HS4b := Aside0.mk (T4a.F hTs.sub HS4.out)
              have HF4b := Aside0.mk (T4a.F hTs.sub HF4.out)
              have hszb : (w4.setCell ⟨n, 4, none⟩ (.int .i64 (ticks + 1))).heap.size = w4.heap.size := by simp [World.setCell]
              clear T4a g01
              generalize w4.setCell ⟨n, 4, none⟩ (.int .i64 (ticks + 1)) = w4b at N4b T4b KA4b HS4b HF4b hszb ⊢
              have KF := Aside0.mk (show _ from blk_new w4b (.cells #[.int .i64 4, .slice Af rep.length cf] 43))
              have hb5 := below_alloc (Below.refl w4b.heap.size w4b) (.cells #[.int .i64 4, .slice Af rep.length cf] 43)
              have B5 := Aside0.mk hb5
              have N5 := Aside0.mk (N4b.out.kept hb5)
              have T5 := Aside0.mk (T4b.out.trans (Tn.of_below hb5))
              have KA5 := Aside0.mk (blk_below KA4b.out hb5)
              have HS5 := Aside0.mk ((Tn.of_below hb5).F hTs.sub HS4b.out)
              have HF5 := Aside0.mk ((Tn.of_below hb5).F hTs.sub HF4b.out)
              clear hb5
              generalize hw5 : w4b.alloc (.cells #[.int .i64 4, .slice Af rep.length cf] 43) = w5 at KF B5 N5 T5 KA5 HS5 HF5 ⊢
              clear hw5
              clear c4 z4 g0 a0 a1 a2 a3
              rw [hszb] at KF
              have hm6 := List.mem_of_getElem? hp
              refine (Serve_calls p.g p.b q p.L As ns cs s w5 (show Bl w5 p.g p.b q p.L from N5.out.prov { p with L := p.L } hm6) (by omega) hq (Kd.F_now HS5.out) hln hcs hls hbs).mono ?_
              rintro e w6 ⟨u6, L6, o6, rfl, hu6, hB6, hg6, hs6⟩
              obtain ⟨A6, c6, rfl, hc6, hC6⟩ := Kd.R_reads hu6
              have hg6t := Tn.of_grown hg6 hbT
              have N6 := Aside0.mk (N5.out.serve hp hg6 hB6)
              have T6 := Aside0.mk (T5.out.trans hg6t)
              have HSx6 := Aside0.mk (hg6t.F hTs.sub HS5.out)
              have HV6 := Aside0.mk hs6
              have HC6 := Aside0.mk hC6
              have HTt6 := Aside0.mk hg6t
              clear hu6 hB6 hg6 hs6 hC6 hg6t hm6
              have HF6 := Aside0.mk (HTt6.out.F hTs.sub HF5.out)
              have KF6 := Aside0.mk (HTt6.out.blk KF.out (fun hm => by have := N4b.out.lt _ (hTs.sub _ hm); omega))
              have hp6 : (ps.set tt { p with L := L6 })[tt]? = some { p with L := L6 } := by rw [List.getElem?_set_self hlt]
              obtain ⟨ho1, ho2, _⟩ := HV6.out.right hsm4.out HE.out
              have f1 : w6.cell? ⟨w4.heap.size, 1, none⟩ = some (.slice Af rep.length cf) := (blk_cell KF6.out 1).trans rfl
              have g2 : w6.cell? ⟨gp, 4 * tt + 2, none⟩ = some (.bool p.dev) := N6.out.cell hp6 2 _ rfl
              have zg := N6.out.frozen (4 * tt + 2)
              cases hdv : p.dev with
              | true =>
                rw [hdv] at g2
                go_wp2_with fail
                go_ret2
                exact FIN.out (_) (Af) (cf) (rep) true (true) (L6) 1 (hcf) (Kd.F_now ((Tn.of_set w6 hTs.gp (4 * tt + 2) (.bool true)).F hTs.sub HF6.out)) (hfh.2) (by omega) (show Nt S _ n gp cap q (ps.set tt { p with L := L6, dev := true }) ft num (sent + 1) (ticks + 1) from by have h9 := N6.out.setP (p' := { p with L := L6, dev := true }) hp6 2 (.bool true) (by omega) rfl rfl rfl rfl rfl; rw [List.set_set] at h9; exact h9) (T6.out.trans (Tn.of_set w6 hTs.gp (4 * tt + 2) _)) (.inr (.inr (.inr (.inl ⟨rfl, rfl, rfl, fun _ => rfl, o6, HV6.out, fun h => by cases h⟩))))
              | false =>
                rw [hdv] at g2
                go_wp2_with fail
                refine (bytes_Equal.calls Af cf rep A6 c6 o6 _ w6 (Kd.F_now HF6.out) hcf HC6.out hc6 (equal_is rep o6 hfh.2 ho2)).mono ?_
                rintro e w7 ⟨rfl, hd7⟩
                have hb7 := Drawn0.below hd7 |>.mono (Nat.le_refl w6.heap.size)
                have N7 := Aside0.mk (N6.out.kept hb7)
                have T7 := Aside0.mk (T6.out.trans (Tn.of_below hb7))
                have HF7 := Aside0.mk ((Tn.of_below hb7).F hTs.sub HF6.out)
                have KF7 := Aside0.mk (blk_below KF6.out hb7)
                clear hd7 hb7 f1 g2 zg
                have f1 : w7.cell? ⟨w4.heap.size, 1, none⟩ = some (.slice Af rep.length cf) := (blk_cell KF7.out 1).trans rfl
                have g2 : w7.cell? ⟨gp, 4 * tt + 2, none⟩ = some (.bool false) := N7.out.cell hp6 2 _ (by rw [← hdv]; rfl)
                have zg := N7.out.frozen (4 * tt + 2)
                have f1f : (w7.setCell ⟨gp, 4 * tt + 2, none⟩ (.bool false)).cell? ⟨w4.heap.size, 1, none⟩ = some (.slice Af rep.length cf) := (blk_cell (blk_far (p := ⟨gp, 4 * tt + 2, none⟩) KF7.out (show w4.heap.size ≠ gp by omega) (.bool false)) 1).trans rfl
                have f1t : (w7.setCell ⟨gp, 4 * tt + 2, none⟩ (.bool true)).cell? ⟨w4.heap.size, 1, none⟩ = some (.slice Af rep.length cf) := (blk_cell (blk_far (p := ⟨gp, 4 * tt + 2, none⟩) KF7.out (show w4.heap.size ≠ gp by omega) (.bool true)) 1).trans rfl
                by_cases hro : rep = o6
                · have hdd : decide (rep = o6) = true := decide_eq_true hro
                  rw [hdd]
                  have HRO := Aside0.mk hro
                  clear hro hdd
                  go_wp2_with fail
                  go_ret2
                  exact FIN.out (_) (Af) (cf) (rep) true (false) (L6) 1 (hcf) (Kd.F_now ((Tn.of_set w7 hTs.gp (4 * tt + 2) (.bool false)).F hTs.sub HF7.out)) (hfh.2) (by omega) (show Nt S _ n gp cap q (ps.set tt { p with L := L6, dev := false }) ft num (sent + 1) (ticks + 1) from by have h9 := N7.out.setP (p' := { p with L := L6, dev := false }) hp6 2 (.bool false) (by omega) rfl rfl rfl rfl rfl; rw [List.set_set] at h9; exact h9) (T7.out.trans (Tn.of_set w7 hTs.gp (4 * tt + 2) _)) (.inr (.inr (.inr (.inl ⟨rfl, rfl, rfl, fun h => (by rw [hdv] at h; cases h), o6, HV6.out, fun _ => HRO.out⟩))))
                · have hdd : decide (rep = o6) = false := decide_eq_false hro
                  rw [hdd]
                  clear hdd
                  go_wp2_with fail
                  go_ret2
                  exact FIN.out (_) (Af) (cf) (rep) true (true) (L6) 1 (hcf) (Kd.F_now ((Tn.of_set w7 hTs.gp (4 * tt + 2) (.bool true)).F hTs.sub HF7.out)) (hfh.2) (by omega) (show Nt S _ n gp cap q (ps.set tt { p with L := L6, dev := true }) ft num (sent + 1) (ticks + 1) from by have h9 := N7.out.setP (p' := { p with L := L6, dev := true }) hp6 2 (.bool true) (by omega) rfl rfl rfl rfl rfl; rw [List.set_set] at h9; exact h9) (T7.out.trans (Tn.of_set w7 hTs.gp (4 * tt + 2) _)) (.inr (.inr (.inr (.inl ⟨rfl, rfl, rfl, fun _ => rfl, o6, HV6.out, fun h => by cases h⟩))))
            · have e4 : (fk == 4) = false := beq_eq_false_iff_ne.2 k4
              by_cases k5 : fk = 5
              · subst k5
                go_wp2_with fail
                have KF := Aside0.mk (blk_new w4 (.cells #[.int .i64 5, .slice Af rep.length cf] 43))
                have hb5 := below_alloc (Below.refl w4.heap.size w4) (.cells #[.int .i64 5, .slice Af rep.length cf] 43)
                have B5 := Aside0.mk hb5
                have N5 := Aside0.mk (N4.out.kept hb5)
                have T5 := Aside0.mk (T4.out.trans (Tn.of_below hb5))
                have KA5 := Aside0.mk (blk_below KA4.out hb5)
                have HS5 := Aside0.mk ((Tn.of_below hb5).F hTs.sub HS4.out)
                have HF5 := Aside0.mk ((Tn.of_below hb5).F hTs.sub HF4.out)
                clear hb5
                generalize hw5 : w4.alloc (.cells #[.int .i64 5, .slice Af rep.length cf] 43) = w5 at KF B5 N5 T5 KA5 HS5 HF5 ⊢
                clear hw5
                clear c4 z4 g0 g01 a0 a1 a2 a3
                have hm6 := List.mem_of_getElem? hp
                refine (Serve_calls p.g p.b q p.L As ns cs s w5 (show Bl w5 p.g p.b q p.L from N5.out.prov { p with L := p.L } hm6) (by omega) hq (Kd.F_now HS5.out) hln hcs hls hbs).mono ?_
                rintro e w6 ⟨u6, L6, o6, rfl, hu6, hB6, hg6, hs6⟩
                obtain ⟨A6, c6, rfl, hc6, hC6⟩ := Kd.R_reads hu6
                have hg6t := Tn.of_grown hg6 hbT
                have N6 := Aside0.mk (N5.out.serve hp hg6 hB6)
                have T6 := Aside0.mk (T5.out.trans hg6t)
                have HSx6 := Aside0.mk (hg6t.F hTs.sub HS5.out)
                have HV6 := Aside0.mk hs6
                have HC6 := Aside0.mk hC6
                have HTt6 := Aside0.mk hg6t
                clear hu6 hB6 hg6 hs6 hC6 hg6t hm6
                obtain ⟨An, cn, h1, _, _⟩ := N6.out.net
                have c4x : w6.cell? ⟨n, 4, none⟩ = some (.int .i64 (ticks)) := (blk_cell h1 4).trans rfl
                have z4x := blk_frozen h1 4
                clear h1
                have hp6 : (ps.set tt { p with L := L6 })[tt]? = some { p with L := L6 } := by rw [List.getElem?_set_self hlt]
                have N7 := Aside0.mk (N6.out.setTicks (ticks + 1))
                have T7a := Tn.of_set w6 hTs.n 4 (.int .i64 (ticks + 1))
                have T7 := Aside0.mk (T6.out.trans T7a)
                have HS7 := Aside0.mk (T7a.F hTs.sub HSx6.out)
                have g07 : (w6.setCell ⟨n, 4, none⟩ (.int .i64 (ticks + 1))).cell? ⟨gp, 4 * tt, none⟩ = some (.pointer (some ⟨p.g, 0, none⟩)) := N7.out.cell hp6 0 _ rfl
                have hl6 := HV6.out.len
                have hsm7 := Aside0.mk (N7.out.prov _ (List.mem_of_getElem? hp6)).small
                have hE7 := Aside0.mk (HEN.out HV6.out)
                clear T7a
                go_wp2_with fail
                generalize w6.setCell ⟨n, 4, none⟩ (.int .i64 (ticks + 1)) = w7 at N7 T7 HS7 g07 ⊢
                have hm9 := List.mem_of_getElem? hp6
                refine (Serve_calls p.g p.b q L6 As ns cs s w7 (show Bl w7 p.g p.b q L6 from N7.out.prov { p with L := L6 } hm9) (by omega) hq (Kd.F_now HS7.out) hln hcs hls hbs).mono ?_
                rintro e w9 ⟨u9, L9, o9, rfl, hu9, hB9, hg9, hs9⟩
                obtain ⟨A9, c9, rfl, hc9, hC9⟩ := Kd.R_reads hu9
                have hg9t := Tn.of_grown hg9 hbT
                have N9 := Aside0.mk (N7.out.serve hp6 hg9 hB9)
                have T9 := Aside0.mk (T7.out.trans hg9t)
                have HSx9 := Aside0.mk (hg9t.F hTs.sub HS7.out)
                have HV9 := Aside0.mk hs9
                have HC9 := Aside0.mk hC9
                have HTt9 := Aside0.mk hg9t
                clear hu9 hB9 hg9 hs9 hC9 hg9t hm9
                obtain ⟨ho1, ho2, _⟩ := HV9.out.right hsm7.out hE7.out
                go_wp2_with fail
                go_ret2
                exact FIN.out (w9) (A9) (c9) (o9) true (p.dev) (L9) 1 (hc9) (HC9.out) (ho2) (by omega) (by have h9 := N9.out; rw [List.set_set] at h9; exact h9) (T9.out) (.inr (.inr (.inr (.inr (.inl ⟨rfl, rfl, rfl, rfl, L6, o6, HV6.out, HV9.out⟩)))))
              · have e5 : (fk == 5) = false := beq_eq_false_iff_ne.2 k5
                go_wp2_with fail
                have N4b := Aside0.mk (N4.out.setTicks (ticks + 1))
                have T4a := Tn.of_set w4 hTs.n 4 (.int .i64 (ticks + 1))
                have T4b := Aside0.mk (T4.out.trans T4a)
                have KA4b := Aside0.mk (T4a.blk KA4.out hxT)
                have HS4b := Aside0.mk (T4a.F hTs.sub HS4.out)
                have HF4b := Aside0.mk (T4a.F hTs.sub HF4.out)
                have hszb : (w4.setCell ⟨n, 4, none⟩ (.int .i64 (ticks + 1))).heap.size = w4.heap.size := by simp [World.setCell]
                clear T4a g01
                generalize w4.setCell ⟨n, 4, none⟩ (.int .i64 (ticks + 1)) = w4b at N4b T4b KA4b HS4b HF4b hszb ⊢
                have KF := Aside0.mk (blk_new w4b (.cells #[.int .i64 fk, .slice Af rep.length cf] 43))
                have hb5 := below_alloc (Below.refl w4b.heap.size w4b) (.cells #[.int .i64 fk, .slice Af rep.length cf] 43)
                have B5 := Aside0.mk hb5
                have N5 := Aside0.mk (N4b.out.kept hb5)
                have T5 := Aside0.mk (T4b.out.trans (Tn.of_below hb5))
                have KA5 := Aside0.mk (blk_below KA4b.out hb5)
                have HS5 := Aside0.mk ((Tn.of_below hb5).F hTs.sub HS4b.out)
                have HF5 := Aside0.mk ((Tn.of_below hb5).F hTs.sub HF4b.out)
                clear hb5
                generalize hw5 : w4b.alloc (.cells #[.int .i64 fk, .slice Af rep.length cf] 43) = w5 at KF B5 N5 T5 KA5 HS5 HF5 ⊢
                clear hw5
                clear c4 z4 g0 a0 a1 a2 a3
                have hm6 := List.mem_of_getElem? hp
                refine (Serve_calls p.g p.b q p.L As ns cs s w5 (show Bl w5 p.g p.b q p.L from N5.out.prov { p with L := p.L } hm6) (by omega) hq (Kd.F_now HS5.out) hln hcs hls hbs).mono ?_
                rintro e w6 ⟨u6, L6, o6, rfl, hu6, hB6, hg6, hs6⟩
                obtain ⟨A6, c6, rfl, hc6, hC6⟩ := Kd.R_reads hu6
                have hg6t := Tn.of_grown hg6 hbT
                have N6 := Aside0.mk (N5.out.serve hp hg6 hB6)
                have T6 := Aside0.mk (T5.out.trans hg6t)
                have HSx6 := Aside0.mk (hg6t.F hTs.sub HS5.out)
                have HV6 := Aside0.mk hs6
                have HC6 := Aside0.mk hC6
                have HTt6 := Aside0.mk hg6t
                clear hu6 hB6 hg6 hs6 hC6 hg6t hm6
                obtain ⟨ho1, ho2, _⟩ := HV6.out.right hsm4.out HE.out
                go_wp2_with fail
                go_ret2
                exact FIN.out (w6) (A6) (c6) (o6) true (p.dev) (L6) 1 (hc6) (HC6.out) (ho2) (by omega) (N6.out) (T6.out) (.inr (.inr (.inr (.inr (.inr ⟨k1, k2, k3, k4, k5, k6, k7, rfl, rfl, rfl, HV6.out⟩)))))
end
end Go.Proofs.Ytpkfeepepbchlaa.Bl
