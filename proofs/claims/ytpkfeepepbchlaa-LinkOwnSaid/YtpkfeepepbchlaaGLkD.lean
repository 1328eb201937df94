import Derived.Test.YtpkfeepepbchlaaGLkC
namespace Go.Proofs.Ytpkfeepepbchlaa.Bl
open Go.RowKit Go.Maps Go.Proofs.YtpkfeepepbchlaaW.PrintWords Go.Proofs.YtpkfeepepbchlaaW.PrintLast Go.Proofs.YtpkfeepepbchlaaW.PrintMore Go.Proofs.Ytpkfeepepbchlaa.PK
set_option linter.unusedVariables false
set_option linter.unusedSimpArgs false
section
variable {T S : List Nat} {w : World} {n gp cap : Nat} {q : Int} {ps : List Pr} {num sent ticks : Int}
set_option maxRecDepth 20000 in
set_option maxHeartbeats 16000000 in
theorem goes_mute (h : Nt S w n gp cap q ps [] num sent ticks) (hTs : Ts T S n gp ps) {tt : Nat} {p : Pr} (hp : ps[tt]? = some p) (hoth : ∀ (i : Nat) (r : Pr), ps[i]? = some r → i ≠ tt → r.o = .slice none 0 0) {w0 : World} (hbw : Below w0.heap.size w0 w) (hbS : ∀ s ∈ S, w0.heap.size ≤ s) (hM : Mute w0.heap.size w p.o)
    (kind nm : Int) (k : ByteArray) (Ab : Option Addr) (cb : Nat) (t : List Int) (hT : Bs.C w0 Ab t.length t) (hcb : t.length ≤ cb) (htk : 0 ≤ ticks ∧ ticks ≤ 140737488355320) (hst : 0 ≤ sent ∧ sent ≤ 140737488355320) :
    Calls Try.prog 28 #[.pointer (some ⟨n, 0, none⟩), .pointer (some ⟨gp, 4 * tt, none⟩), .agg #[.int .i64 kind, .int .i64 nm, .string k, .slice Ab t.length cb]] w fun e w' =>
      ∃ u, e = .returned (.tuple #[.slice none 0 0, .bool false]) ∧ Mute w0.heap.size w' u ∧ Nt S w' n gp cap q (ps.set tt { p with o := u }) [] num (sent + 1) (ticks + 4) ∧ Tf w0.heap.size T w w' := by
  have HT := Aside0.mk hT
  have HOT := Aside0.mk hoth
  have hxS : w.heap.size ∉ S := fun hm => by have := h.lt _ hm; omega
  have hxT : w.heap.size ∉ T := fun hm => hxS (hTs.sub _ hm)
  obtain ⟨A, c, h1, h2, h3⟩ := h.net
  have c3 : w.cell? ⟨n, 3, none⟩ = some (.int .i64 sent) := (blk_cell h1 3).trans rfl
  have z3 := blk_frozen h1 3
  have hnl := blk_lt h1
  have hne1 : (w.heap.size == n) = false := beq_eq_false_iff_ne.2 (by omega)
  have hw : IntKind.i64.wrap (sent + 1) = sent + 1 := IntWalk.i64_in (n := _) (by omega)
  have N1 := Aside0.mk (h.setSent (sent + 1))
  have T1 := Aside0.mk (Tn.of_set w hTs.n 3 (.int .i64 (sent + 1)))
  have M1 := Aside0.mk (show Mute w0.heap.size (w.setCell ⟨n, 3, none⟩ (.int .i64 (sent + 1))) p.o from Kd.Q_mono (Kd.Q_set hM h1 (by decide) 3 _) (fun _ _ => trivial))
  clear h h1 h2 h3 hT hoth hM
  go_enter Try.func28, Try.ntmps28
  go_wp2_with fail
  have hsz : (w.setCell ⟨n, 3, none⟩ (.int .i64 (sent + 1))).heap.size = w.heap.size := by simp [World.setCell]
  clear c3 z3 hne1
  generalize w.setCell ⟨n, 3, none⟩ (.int .i64 (sent + 1)) = W1 at N1 T1 M1 hsz ⊢
  have KA := Aside0.mk (blk_new W1 (.cells #[.int .i64 kind, .int .i64 nm, .string k, .slice Ab t.length cb] 30))
  have bA := below_alloc (Below.refl W1.heap.size W1) (.cells #[.int .i64 kind, .int .i64 nm, .string k, .slice Ab t.length cb] 30)
  have N2 := Aside0.mk (N1.out.kept bA)
  have T2 := Aside0.mk (T1.out.trans (Tn.of_below bA))
  have M2 := Aside0.mk (show Mute w0.heap.size _ p.o from Kd.Q_below M1.out bA)
  rw [hsz] at KA
  generalize W1.alloc (.cells #[.int .i64 kind, .int .i64 nm, .string k, .slice Ab t.length cb] 30) = W2 at KA N2 T2 M2 ⊢
  clear N1 T1 M1 bA hsz
  refine (Sb.PutAsk_calls kind nm k Ab t.length cb t W2 trivial trivial rfl hcb (Kd.C_below HT.out (Tn.below hbw T2.out hbw.size (fun s hs => hbS s (hTs.sub s hs))))).mono ?_
  rintro e w3 ⟨u, rfl, hu, hb3⟩
  obtain ⟨As, cs, rfl, _, _⟩ := Kd.R_reads hu
  have N3 := Aside0.mk (N2.out.kept hb3)
  have T3 := Aside0.mk (T2.out.trans (Tn.of_below hb3))
  have M3 := Aside0.mk (show Mute w0.heap.size w3 p.o from Kd.Q_below M2.out hb3)
  clear hu hb3 N2 T2 M2 KA
  generalize (Sb.askB kind nm k t).1.length = ns
  generalize (Sb.askB kind nm k t).2 = ea
  go_wp2_with fail
  refine (fate_mute N3.out hTs hp HOT.out (Nat.le_trans hbw.size T3.out.size) M3.out).mono ?_
  rintro e w4 ⟨u4, rfl, hM4, hN4, hT4⟩
  have N4 := Aside0.mk hN4
  have T4 := Aside0.mk ((Tf.of T3.out).trans hT4)
  have M4 := Aside0.mk hM4
  clear hM4 hN4 hT4 N3 T3 M3
  obtain ⟨An, cn, h1, _, _⟩ := N4.out.net
  have hnl4 := blk_lt h1
  have hne1 : (w4.heap.size == n) = false := beq_eq_false_iff_ne.2 (by omega)
  have c4 : w4.cell? ⟨n, 4, none⟩ = some (.int .i64 ticks) := (blk_cell h1 4).trans rfl
  have z4 := blk_frozen h1 4
  have hw4 : IntKind.i64.wrap (ticks + 4) = ticks + 4 := IntWalk.i64_in (n := _) (by omega)
  have M5 := Aside0.mk (show Mute w0.heap.size (w4.setCell ⟨n, 4, none⟩ (.int .i64 (ticks + 4))) u4 from Kd.Q_mono (Kd.Q_set M4.out h1 (by decide) 4 _) (fun _ _ => trivial))
  clear h1
  go_wp2_with fail
  go_ret2
  have bf := below_alloc (Below.refl (w4.setCell ⟨n, 4, none⟩ (.int .i64 (ticks + 4))).heap.size (w4.setCell ⟨n, 4, none⟩ (.int .i64 (ticks + 4)))) (.cells #[.int .i64 1, .slice none 0 0] 43)
  exact ⟨u4, rfl, Kd.Q_below M5.out bf, (N4.out.setTicks (ticks + 4)).kept bf, (T4.out.trans (Tf.of (Tn.of_set w4 hTs.n 4 _))).trans (Tf.of (Tn.of_below bf))⟩
end
theorem Mute.set4 {base : Nat} {w : World} {v : Value} (h : Mute base w v) {x : Nat} {r0 r1 r2 r3 : Value} (hx : w.heap[x]? = some (.cells #[r0, r1, r2, r3] 36 (0, 0))) (a b c d : Value) : Mute base ((((w.setCell ⟨x, 0, none⟩ a).setCell ⟨x, 1, none⟩ b).setCell ⟨x, 2, none⟩ c).setCell ⟨x, 3, none⟩ d) v :=
  Kd.Q_mono (Kd.Q_set (Kd.Q_set (Kd.Q_set (Kd.Q_set h hx (by decide) 0 a) (blk_put hx 0 _ rfl) (by decide) 1 b) (blk_put (blk_put hx 0 _ rfl) 1 _ rfl) (by decide) 2 c) (blk_put (blk_put (blk_put hx 0 _ rfl) 1 _ rfl) 2 _ rfl) (by decide) 3 d) (fun _ _ => trivial)
theorem nt_noft {S : List Nat} {w : World} {n gp cap : Nat} {q : Int} {ps : List Pr} {fs : List Ft} {num sent ticks : Int} (h : Nt S w n gp cap q ps fs num sent ticks) {k : Nat} (hk : k = n ∨ k = gp ∨ ∃ p ∈ ps, p.b = k) (cells : Array Value) (hc : w.heap[k]? = some (.cells cells 43 (0, 0))) : False := by
  rcases hk with rfl | rfl | ⟨p, hp, rfl⟩
  · obtain ⟨A, c, h1, _⟩ := h.net
    rw [hc] at h1
    injection h1 with h1
    injection h1 with _ h1
    exact absurd h1 (by decide)
  · obtain ⟨pc, h1, _⟩ := h.row
    rw [hc] at h1
    injection h1 with h1
    injection h1 with _ h1
    exact absurd h1 (by decide)
  · obtain ⟨es, cl, hb⟩ := own_blk (h.prov p hp).map
    rw [hc] at hb
    cases hb
theorem Tf.less {base : Nat} {S X : List Nat} {w W W' : World} (h : Tf base (X ++ S) W W') (hb : Below w.heap.size w W) (hX : ∀ x ∈ X, w.heap.size ≤ x) : Tf base S w W' :=
  ⟨h.os.trans hb.os, h.tape.trans hb.tape, h.output.trans hb.output, Nat.le_trans hb.size h.size, fun k hk hs => by
    rcases h.block k (Nat.lt_of_lt_of_le hk hb.size) (fun hm => by
      rcases List.mem_append.1 hm with hm | hm
      · have := hX k hm; omega
      · exact hs hm) with e | ⟨e0, cells, e⟩
    · exact .inl (e.trans (hb.block k hk))
    · exact .inr ⟨e0, cells, by rw [← hb.block k hk]; exact e⟩⟩
section
variable {T S : List Nat} {w : World} {n gp cap : Nat} {q : Int} {ps : List Pr} {num sent ticks : Int}
set_option maxRecDepth 20000 in
set_option maxHeartbeats 16000000 in
theorem Ask_mute (h : Nt S w n gp cap q ps [] num sent ticks) (hTs : Ts T S n gp ps) {tt : Nat} {p : Pr} (hp : ps[tt]? = some p) (hoth : ∀ (i : Nat) (r : Pr), ps[i]? = some r → i ≠ tt → r.o = .slice none 0 0) (hTy : ∀ k ∈ T, k = n ∨ k = gp ∨ ∃ p ∈ ps, p.b = k) {w0 : World} (hbw : Below w0.heap.size w0 w) (hbS : ∀ s ∈ S, w0.heap.size ≤ s) (hM : Mute w0.heap.size w p.o) (hnum : 0 ≤ num ∧ num ≤ 2147483647) (hst : 0 ≤ sent ∧ sent ≤ 100000) (htk : 0 ≤ ticks ∧ ticks ≤ 400000)
    (kind nm : Int) (k : ByteArray) (Ab : Option Addr) (cb : Nat) (t : List Int) (hK : Sb.okA kind 0 k.size t.length = true) (htb : Sb.Bytes t) (hT : Bs.C w0 Ab t.length t) (hcb : t.length ≤ cb) :
    Calls Try.prog 12 #[.pointer (some ⟨n, 0, none⟩), .int .i64 tt, .agg #[.int .i64 kind, .int .i64 nm, .string k, .slice Ab t.length cb]] w fun e w' =>
      ∃ u num', e = .returned (.tuple #[.agg #[.int .i64 0, .int .i64 0, .slice none 0 0, .slice none 0 0], .int .i64 9]) ∧ (0 ≤ num' ∧ num' ≤ 2147483647) ∧ Mute w0.heap.size w' u ∧ Nt S w' n gp cap q (ps.set tt { p with o := u }) [] num' (sent + 5) (ticks + 20) ∧ Tf w0.heap.size T w w' := by
  have HT := Aside0.mk hT
  have HOT := Aside0.mk hoth
  have hxS : w.heap.size ∉ S := fun hm => by have := h.lt _ hm; omega
  have hxT : w.heap.size ∉ T := fun hm => hxS (hTs.sub _ hm)
  have hyT : w.heap.size + 1 ∉ T := fun hm => by have := h.lt _ (hTs.sub _ hm); omega
  have hlt : tt < ps.length := (List.getElem?_eq_some_iff.1 hp).1
  have hself : ps.set tt p = ps := by
    obtain ⟨hl9, he9⟩ := List.getElem?_eq_some_iff.1 hp
    rw [← he9]
    exact List.set_getElem_self hl9
  have HH := Aside0.mk h
  have K0 := Aside0.mk (blk_new w (.cells #[.int .i64 kind, .int .i64 0, .string k, .slice Ab t.length cb] 30))
  have K1 := Aside0.mk (blk_alloc K0.out (.cells #[.int .i64 0, .int .i64 0, .slice none 0 0, .slice none 0 0] 36))
  have hs1 := alloc_size w (.cells #[.int .i64 kind, .int .i64 0, .string k, .slice Ab t.length cb] 30)
  have K2 := Aside0.mk (hs1 ▸ blk_new (w.alloc (.cells #[.int .i64 kind, .int .i64 0, .string k, .slice Ab t.length cb] 30)) (.cells #[.int .i64 0, .int .i64 0, .slice none 0 0, .slice none 0 0] 36))
  have B1 := Aside0.mk (below_alloc (below_alloc (Below.refl w.heap.size w) (.cells #[.int .i64 kind, .int .i64 0, .string k, .slice Ab t.length cb] 30)) (.cells #[.int .i64 0, .int .i64 0, .slice none 0 0, .slice none 0 0] 36))
  have M1 := Aside0.mk (show Mute w0.heap.size ((w.alloc (.cells #[.int .i64 kind, .int .i64 0, .string k, .slice Ab t.length cb] 30)).alloc (.cells #[.int .i64 0, .int .i64 0, .slice none 0 0, .slice none 0 0] 36)) p.o from Kd.Q_below hM B1.out)
  clear h hT hoth hM hs1 K0
  go_enter Try.func12, Try.ntmps12
  go_wp2_with fail
  generalize (w.alloc (.cells #[.int .i64 kind, .int .i64 0, .string k, .slice Ab t.length cb] 30)).alloc (.cells #[.int .i64 0, .int .i64 0, .slice none 0 0, .slice none 0 0] 36) = w1 at K1 K2 B1 M1 ⊢
  have hX : ∀ x ∈ [w.heap.size, w.heap.size + 1], w.heap.size ≤ x ∧ x < w1.heap.size := fun x hx => by
    have h1 := blk_lt K1.out
    have h2 := blk_lt K2.out
    simp only [List.mem_cons, List.not_mem_nil, or_false] at hx
    rcases hx with rfl | rfl <;> omega
  have N1 := Aside0.mk (HH.out.wider B1.out [w.heap.size, w.heap.size + 1] hX)
  have HLS := Aside0.mk (fun (W' : World) (h : Tf w0.heap.size ([w.heap.size, w.heap.size + 1] ++ T) w1 W') => h.less B1.out (fun x hx => (hX x hx).1))
  have hm1 : w.heap.size ∈ [w.heap.size, w.heap.size + 1] ++ S := by simp
  have hm2 : w.heap.size + 1 ∈ [w.heap.size, w.heap.size + 1] ++ S := by simp
  have HMS := Aside0.mk (fun (u : Value) => mem_set (S := S) (a := p) (b := { p with o := u }) hlt (by rw [hself]; exact HH.out.mem.2.2) rfl)
  have HNG := Aside0.mk (And.intro HH.out.mem.1 HH.out.mem.2.1)
  clear HH hX
  have HTS := Aside0.mk (fun (u : Value) => (hTs.wider [w.heap.size, w.heap.size + 1]).set hp { p with o := u } rfl)
  have hmt1 : w.heap.size ∈ [w.heap.size, w.heap.size + 1] ++ T := by simp
  have hmt2 : w.heap.size + 1 ∈ [w.heap.size, w.heap.size + 1] ++ T := by simp
  have hTT1 : ∀ k ∈ T, k ∈ [w.heap.size, w.heap.size + 1] ++ T := fun k hk => List.mem_append.2 (.inr hk)
  have HES := Aside0.mk (fun (W : World) (ps' : List Pr) (num sent ticks : Int) (h : Nt ([w.heap.size, w.heap.size + 1] ++ S) W n gp cap q ps' [] num sent ticks) (hm : ∀ p ∈ ps', p.b ∈ S) => h.less ⟨HNG.out.1, HNG.out.2, hm⟩)
  have hS1b : ∀ s ∈ [w.heap.size, w.heap.size + 1] ++ S, w0.heap.size ≤ s := fun s hs => by
    have := hbw.size
    rcases List.mem_append.1 hs with h | h
    · simp only [List.mem_cons, List.not_mem_nil, or_false] at h
      rcases h with rfl | rfl <;> omega
    · exact hbS s h
  have hT1b : ∀ s ∈ [w.heap.size, w.heap.size + 1] ++ T, w0.heap.size ≤ s := fun s hs => by
    have := hbw.size
    rcases List.mem_append.1 hs with h | h
    · simp only [List.mem_cons, List.not_mem_nil, or_false] at h
      rcases h with rfl | rfl <;> omega
    · exact hbS s (hTs.sub s h)
  have HB1 := Aside0.mk (hbw.trans (B1.out.mono hbw.size))
  have hB1s := HB1.out.size
  generalize hgS : [w.heap.size, w.heap.size + 1] ++ S = S1 at N1 HTS hm1 hm2 HES hS1b
  generalize hgT : [w.heap.size, w.heap.size + 1] ++ T = T1 at HLS hmt1 hmt2 hTT1 hT1b
  obtain ⟨sq, hsq, _, _, _⟩ := Sb.askB_ok hK htb
  refine (Sb.PutAsk_calls kind 0 k Ab t.length cb t w1 trivial trivial rfl hcb (Kd.C_below HT.out (hbw.trans (B1.out.mono hbw.size)))).mono ?_
  rintro e w2 ⟨u, rfl, hu, hb2⟩
  rw [hsq] at hu ⊢
  obtain ⟨A2, c2, rfl, _, _⟩ := Kd.R_reads hu
  have N2 := Aside0.mk (N1.out.kept hb2)
  have T2 := Aside0.mk (Tf.of (base := w0.heap.size) (Tn.of_below (S := T1) hb2))
  have KA2 := Aside0.mk (blk_below K1.out hb2)
  have KX2 := Aside0.mk (blk_below K2.out hb2)
  have M2 := Aside0.mk (show Mute w0.heap.size w2 p.o from Kd.Q_below M1.out hb2)
  clear hu hb2 N1 hsq K1 K2 M1
  go_wp2_with fail
  refine (there_calls N2.out (tt : Int)).mono ?_
  rintro e w2' ⟨rfl, rfl⟩
  have e1 : decide (0 ≤ (tt : Int) ∧ (tt : Int) < (ps.length : Int)) = true := decide_eq_true ⟨by omega, by omega⟩
  rw [e1]
  obtain ⟨An, cn, h1, _, _⟩ := N2.out.net
  have c0 : w2'.cell? ⟨n, 0, none⟩ = some (.slice (some ⟨gp, 0, none⟩) ps.length cap) := (blk_cell h1 0).trans rfl
  have hlt2 : (tt : Int) < (ps.length : Int) := by omega
  have e0 : (0 : Int) ≤ (tt : Int) := by omega
  clear h1
  go_wp2_with fail
  rw [Nat.mul_comm tt 4]
  go_loopg [41] 5 (fun kq v41 w' => ∃ (i : Nat) (u : Value) (num' x : Int), v41 = .int .i64 i ∧ i ≤ 5 ∧ (0 ≤ num' ∧ num' ≤ 2147483647) ∧ Aside0 (kq + i = 5) ∧ Aside0 (Mute w0.heap.size w' u) ∧ Aside0 (Nt S1 w' n gp cap q (ps.set tt { p with o := u }) [] num' (sent + i) (ticks + 4 * i)) ∧ Aside0 (Tf w0.heap.size T1 w1 w') ∧ Aside0 (w'.heap[w.heap.size]? = some (.cells #[.int .i64 kind, .int .i64 x, .string k, .slice Ab t.length cb] 30 (0, 0))) ∧ Aside0 (w'.heap[w.heap.size + 1]? = some (.cells #[.int .i64 0, .int .i64 0, .slice none 0 0, .slice none 0 0] 36 (0, 0))))
  case atStart => exact ⟨0, p.o, num, 0, rfl, by omega, hnum, ⟨rfl⟩, M2, ⟨by show Nt S1 w2' n gp cap q (ps.set tt p) [] num (sent + 0) (ticks + 4 * 0); rw [hself]; simpa using N2.out⟩, T2, KA2, KX2⟩
  case round =>
    obtain ⟨i, u, num', x, rfl, hi, q4, HK, HM, HN, HTN, HA, HX⟩ := hrel
    clear N2 T2 KA2 KX2 c0 M2
    by_cases h5 : i < 5
    · have hd5 : decide ((i : Int) < 5) = true := decide_eq_true (by omega)
      have hnx := nxt_in q4
      have hpS : (ps.set tt { p with o := u })[tt]? = some { p with o := u } := by rw [List.getElem?_set_self hlt]
      have hoS := Aside0.mk (fun (j : Nat) (r : Pr) (hj : (ps.set tt { p with o := u })[j]? = some r) (hne : j ≠ tt) => show r.o = .slice none 0 0 from by
        rw [List.getElem?_set, if_neg (fun e => hne e.symm)] at hj
        exact HOT.out j r hj hne)
      go_wp2_with fail
      refine (next_calls HN.out (HTS.out u) q4).mono ?_
      rintro e w5 ⟨rfl, hN5, hT5⟩
      have hA5 := hT5.blk HA.out hxT
      have HX5 := Aside0.mk (hT5.blk HX.out hyT)
      have hnetF : ∀ (k' : Nat) (cells : Array Value), wr.heap[k']? = some (.cells cells 43 (0, 0)) → w5.heap[k']? = wr.heap[k']? := fun k' cells hk => hT5.block k' (blk_lt hk) (fun hm => nt_noft HN.out (by
        rcases hTy k' hm with h | h | ⟨p0, h1, h2⟩
        · exact .inl h
        · exact .inr (.inl h)
        · refine .inr (.inr ?_)
          obtain ⟨j, hj⟩ := List.getElem?_of_mem h1
          by_cases hjt : tt = j
          · subst hjt
            rw [hp] at hj
            injection hj with hj
            exact ⟨_, List.mem_of_getElem? hpS, by rw [← h2, ← hj]⟩
          · exact ⟨p0, List.mem_of_getElem? (i := j) (by rw [List.getElem?_set, if_neg hjt]; exact hj), h2⟩) cells hk)
      have M5 := Q_keep' HM.out hnetF
      have a1 : w5.cell? ⟨w.heap.size, 1, none⟩ = some (.int .i64 x) := (blk_cell hA5 1).trans rfl
      have za := blk_frozen hA5 1
      have N6 := Aside0.mk (hN5.setX hm1 hA5 (by decide) (by decide) (by decide) (by decide) (by decide) 1 (.int .i64 (nxt num')))
      have hA6 := blk_put hA5 1 (.int .i64 (nxt num')) rfl
      have HA6 := Aside0.mk hA6
      have HX6 := Aside0.mk (blk_far (p := ⟨w.heap.size, 1, none⟩) HX5.out (show w.heap.size + 1 ≠ w.heap.size by omega) (.int .i64 (nxt num')))
      have T6 := Aside0.mk ((HTN.out.trans (Tf.of (hT5.mono hTT1))).trans (Tf.of (Tn.of_set w5 hmt1 1 (.int .i64 (nxt num')))))
      have M6 := Aside0.mk (show Mute w0.heap.size (w5.setCell ⟨w.heap.size, 1, none⟩ (.int .i64 (nxt num'))) u from Kd.Q_mono (Kd.Q_set M5 hA5 (by decide) 1 _) (fun _ _ => trivial))
      have b0 : (w5.setCell ⟨w.heap.size, 1, none⟩ (.int .i64 (nxt num'))).cell? ⟨w.heap.size, 0, none⟩ = some (.int .i64 kind) := (blk_cell hA6 0).trans rfl
      have b1 : (w5.setCell ⟨w.heap.size, 1, none⟩ (.int .i64 (nxt num'))).cell? ⟨w.heap.size, 1, none⟩ = some (.int .i64 (nxt num')) := (blk_cell hA6 1).trans rfl
      have b2 : (w5.setCell ⟨w.heap.size, 1, none⟩ (.int .i64 (nxt num'))).cell? ⟨w.heap.size, 2, none⟩ = some (.string k) := (blk_cell hA6 2).trans rfl
      have b3 : (w5.setCell ⟨w.heap.size, 1, none⟩ (.int .i64 (nxt num'))).cell? ⟨w.heap.size, 3, none⟩ = some (.slice Ab t.length cb) := (blk_cell hA6 3).trans rfl
      clear hN5 hT5 hA5 hA6 HX5 HN HTN HA HX HM M5 hnetF
      go_wp2_with fail
      generalize w5.setCell ⟨w.heap.size, 1, none⟩ (.int .i64 (nxt num')) = w6 at N6 HA6 HX6 T6 M6 b0 b1 b2 b3 ⊢
      refine (goes_mute N6.out (HTS.out u) hpS hoS.out (Tf.below HB1.out T6.out hB1s hT1b) hS1b M6.out kind (nxt num') k Ab cb t HT.out hcb (by omega) (by omega)).mono ?_
      rintro e w7 ⟨u7, rfl, hM7, hN7, hT7⟩
      rw [List.set_set] at hN7
      have N7 := Aside0.mk (show Nt S1 w7 n gp cap q (ps.set tt { p with o := u7 }) [] (nxt num') (sent + ((i + 1 : Nat) : Int)) (ticks + 4 * ((i + 1 : Nat) : Int)) from by
        have e2 : sent + ((i + 1 : Nat) : Int) = sent + i + 1 := by push_cast; omega
        have e3 : ticks + 4 * ((i + 1 : Nat) : Int) = ticks + 4 * i + 4 := by push_cast; omega
        rw [e2, e3]; exact hN7)
      have HA7 := Aside0.mk (hT7.blk HA6.out (by decide) hxT)
      have HX7 := Aside0.mk (hT7.blk HX6.out (by decide) hyT)
      have T7 := Aside0.mk (T6.out.trans (hT7.mono hTT1))
      have M7 := Aside0.mk hM7
      clear hN7 hT7 N6 HA6 HX6 T6 b0 b1 b2 b3 M6 hM7
      go_wp2_with fail
      go_roundg (5 - (i + 1))
      case measure => have := HK.out; omega
      case rel => exact ⟨i + 1, u7, nxt num', nxt num', by first | rfl | simp, by omega, ⟨by omega, hnx.2⟩, ⟨by have := HK.out; omega⟩, M7, N7, T7, HA7, HX7⟩
    · have hd5 : decide ((i : Int) < 5) = false := decide_eq_false (by omega)
      have x0 : wr.cell? ⟨w.heap.size + 1, 0, none⟩ = some (.int .i64 0) := (blk_cell HX.out 0).trans rfl
      have y0 := blk_frozen HX.out 0
      have x1 : wr.cell? ⟨w.heap.size + 1, 1, none⟩ = some (.int .i64 0) := (blk_cell HX.out 1).trans rfl
      have y1 := blk_frozen HX.out 1
      have x2 : wr.cell? ⟨w.heap.size + 1, 2, none⟩ = some (.slice none 0 0) := (blk_cell HX.out 2).trans rfl
      have y2 := blk_frozen HX.out 2
      have x3 : wr.cell? ⟨w.heap.size + 1, 3, none⟩ = some (.slice none 0 0) := (blk_cell HX.out 3).trans rfl
      have y3 := blk_frozen HX.out 3
      go_wp2_with fail
      refine bodyPost_ret (results_ct rfl _ _ (w.heap.size + 1) 36 _ (0, 0) _ rfl (fill4_res HX.out _ _ _ _) Try.underlying36 rfl (by kernel_rfl)) rfl ?_
      have hi5 : i = 5 := by omega
      subst hi5
      exact ⟨u, num', rfl, q4, HM.out.set4 HX.out _ _ _ _, HES.out _ _ _ _ _ (HN.out.set4 hm2 HX.out _ _ _ _) (HMS.out _), HLS.out _ (HTN.out.trans (Tf.of (Tn.set4 wr hmt2 _ _ _ _)))⟩
end
end Go.Proofs.Ytpkfeepepbchlaa.Bl
