import Derived.Test.YtpkfeepepbchlaaGLk8
namespace Go.Proofs.Ytpkfeepepbchlaa.Bl
open Go.RowKit Go.Maps Go.Proofs.YtpkfeepepbchlaaW.PrintWords Go.Proofs.YtpkfeepepbchlaaW.PrintLast Go.Proofs.YtpkfeepepbchlaaW.PrintMore Go.Proofs.Ytpkfeepepbchlaa.PK
set_option linter.unusedVariables false
set_option linter.unusedSimpArgs false
theorem F_elder {S : List Nat} {w W : World} {A : Option Addr} {n : Nat} {t : List Int} (hC : Bs.C w A n t) (hb : Below w.heap.size w W) (hS : ∀ s ∈ S, w.heap.size ≤ s) : Kd.F Bs W (fun k => k ∉ S) A n t :=
  fun W' hW => Sb.C_heap hC (fun b hb' => (hW b (fun hm => by have := hS b hm; omega) (Nat.lt_of_lt_of_le hb' hb.size)).trans (hb.block b hb'))
def SmOk (L : List Ent) : Prop := ∀ y ∈ L, y.1.size ≤ 64 ∧ y.2.2.length ≤ 65536
theorem DoR.smalls {q : Int} {L L' : List Ent} {kind num nm code : Int} {k : ByteArray} {t bd : List Int} {ns : List ByteArray} (h : DoR q L kind num k t L' nm code bd ns) (hE : SmOk L) : SmOk L' := by
  rcases h with ⟨_, rfl, _⟩ | ⟨hK, _, ⟨_, _, _, ⟨_, _, rfl⟩ | ⟨_, _, A, c, rfl⟩⟩ | ⟨_, rfl, _⟩ | ⟨_, rfl, _⟩ | ⟨_, rfl, _⟩⟩
  · exact hE
  · exact hE
  · obtain ⟨_, _, _, _, p5, p6, _⟩ := okA_parts hK
    intro y hy
    rcases (mem_ins _ y _).1 hy with rfl | hy
    · exact ⟨p6, by show t.length ≤ 65536; omega⟩
    · exact hE y ((mem_off k y L).1 hy).1
  · exact hE
  · exact hE
  · intro y hy
    exact hE y ((mem_off k y L).1 hy).1
theorem SvR.smalls {q : Int} {L L' : List Ent} {s out : List Int} (h : SvR q L s L' out) (hE : SmOk L) : SmOk L' := by
  rcases h with ⟨_, rfl, _⟩ | ⟨_, nm, code, bd, ns, hD, _⟩
  · exact hE
  · exact hD.smalls hE
theorem TryR.smalls {q fk tk : Int} {s out : List Int} {L L' : List Ent} {dev dev' came : Bool} (h : TryR q s fk L dev L' dev' tk came out) (hE : SmOk L) : SmOk L' ∧ (dev = true → dev' = true) := by
  rcases h with ⟨_, _, rfl, rfl, _⟩ | ⟨_, _, ⟨o, hv⟩, rfl, _⟩ | ⟨_, _, rfl, _, hd, _⟩ | ⟨_, _, _, hd, o, hv, _⟩ | ⟨_, _, rfl, _, L1, o, hv, hv2⟩ | ⟨_, _, _, _, _, _, _, _, rfl, _, hv⟩
  · exact ⟨hE, id⟩
  · exact ⟨hv.smalls hE, id⟩
  · exact ⟨hE, hd⟩
  · exact ⟨hv.smalls hE, hd⟩
  · exact ⟨hv2.smalls (hv.smalls hE), id⟩
  · exact ⟨hv.smalls hE, id⟩
theorem TryR.honest {q fk tk : Int} {s out : List Int} {L L' : List Ent} {dev dev' : Bool} (h : TryR q s fk L dev L' dev' tk true out) (hd : dev' = false) : ∃ L1 L2, SvR q L1 s L2 out ∧ (SmOk L → SmOk L1) ∧ (∀ (kind nm : Int) (k : ByteArray) (t : List Int), Sb.getA s = (kind, nm, bytesOf k, t, 0) → Sb.Bytes t → EntOk L → EntOk L1) := by
  rcases h with ⟨_, h, _⟩ | ⟨_, h, _⟩ | ⟨_, _, _, _, _, h⟩ | ⟨_, _, _, _, o, hv, h⟩ | ⟨_, _, _, _, L1, o, hv, hv2⟩ | ⟨_, _, _, _, _, _, _, _, _, _, hv⟩
  · cases h
  · cases h
  · obtain ⟨L2, h⟩ := h hd
    exact ⟨L, L2, h, id, fun _ _ _ _ _ _ h => h⟩
  · rw [h hd]
    exact ⟨L, L', hv, id, fun _ _ _ _ _ _ h => h⟩
  · exact ⟨L1, L', hv2, fun h => hv.smalls h, fun _ _ _ _ hg ht hE => SvR_ents hv hg ht hE⟩
  · exact ⟨L, L', hv, id, fun _ _ _ _ _ _ h => h⟩
theorem Lost.hon {q kind : Int} {k : ByteArray} {t : List Int} {r r' : Rq} {m : Nat} (h : Lost q kind k t r r') (hK : Sb.okA kind 0 k.size t.length = true) (ht : Sb.Bytes t) (hr : Rok m r) (hS : SmOk r.L) (hb : r.bl = true → r.dev = true) : SmOk r'.L ∧ (r'.bl = true → r'.dev = true) := by
  rcases h with ⟨out, ⟨tk, _, _, _, _, h⟩, hbl⟩ | ⟨out, ⟨tk, _, _, _, _, h⟩, hbl, hno⟩
  · obtain ⟨h1, h2⟩ := h.smalls hS
    exact ⟨h1, fun e => h2 (hb (by rw [← hbl]; exact e))⟩
  · obtain ⟨h1, h2⟩ := h.smalls hS
    refine ⟨h1, fun _ => ?_⟩
    cases hd : r'.dev with
    | true => rfl
    | false =>
      exfalso
      have hx := nxt_in hr.2.2.2.1
      have hK' := okA_num hK ⟨by omega, hx.2⟩
      obtain ⟨L1, L2, hv, e1, e2⟩ := h.honest hd
      obtain ⟨s, hs1, _, _, hgs⟩ := Sb.askB_ok hK' ht
      have hgs' : Sb.getA (Rq.s kind k t r) = (kind, nxt r.num, bytesOf k, t, 0) := by unfold Rq.s; rw [hs1]; exact hgs
      obtain ⟨code, bd, ns, _, hg, _⟩ := honest hK' ht (e1 hS) (e2 _ _ _ _ hgs' ht hr.2.1) hv
      rw [hg] at hno
      exact hno ⟨rfl, rfl⟩
theorem Tries.hon {q kind : Int} {k : ByteArray} {t : List Int} {i : Nat} {r r' : Rq} {m : Nat} (h : Tries q kind k t i r r') (hK : Sb.okA kind 0 k.size t.length = true) (ht : Sb.Bytes t) (hr : Rok m r) (hS : SmOk r.L) (hb : r.bl = true → r.dev = true) : SmOk r'.L ∧ (r'.bl = true → r'.dev = true) := by
  induction h with
  | nil r => exact ⟨hS, hb⟩
  | more h1 hl ih =>
    obtain ⟨i1, i2⟩ := ih hr hS hb
    exact hl.hon hK ht (h1.ok hK ht hr).1 i1 i2
theorem Got.hon {q kind code : Int} {k : ByteArray} {t bd : List Int} {ns : List ByteArray} {r r' : Rq} {m : Nat} (h : Got q kind k t r r' code bd ns) (hK : Sb.okA kind 0 k.size t.length = true) (ht : Sb.Bytes t) (hr : Rok m r) (hS : SmOk r.L) (hb : r.bl = true → r.dev = true) : Rok (m + 2) r' ∧ r'.sent = r.sent + 1 ∧ (r'.bl = true → r'.dev = true) := by
  obtain ⟨out, hs, hbl, _⟩ := h
  refine ⟨hs.ok hK ht hr, ?_, ?_⟩
  · obtain ⟨tk, _, _, h, _⟩ := hs; exact h
  · obtain ⟨tk, _, _, _, _, h⟩ := hs
    obtain ⟨h1, h2⟩ := h.smalls hS
    exact fun e => h2 (hb (by rw [← hbl]; exact e))
structure Al (m : Nat) (ps : List Pr) (fs : List Ft) (num sent ticks : Int) : Prop where
  ft : FtOk fs
  pr : ∀ p ∈ ps, p.o = .slice none 0 0 ∧ p.L.length ≤ m ∧ EntOk p.L
  num : 0 ≤ num ∧ num ≤ 2147483647
  sent : 0 ≤ sent ∧ sent ≤ m
  ticks : 0 ≤ ticks ∧ ticks ≤ 4 * m
def Hon (ps : List Pr) : Prop := ∀ p ∈ ps, p.bl = true → p.dev = true
section
variable {T S : List Nat} {w : World} {n gp cap : Nat} {q : Int} {ps : List Pr} {fs : List Ft} {num sent ticks : Int}
set_option maxRecDepth 20000 in
set_option maxHeartbeats 16000000 in
theorem Ask_nil (x kind nm : Int) (k : ByteArray) (Ab : Option Addr) (cb : Nat) (t : List Int) (w : World) (hT : Bs.C w Ab t.length t) (hcb : t.length ≤ cb) :
    Calls Try.prog 12 #[.pointer none, .int .i64 x, .agg #[.int .i64 kind, .int .i64 nm, .string k, .slice Ab t.length cb]] w fun e w' =>
      e = .returned (.tuple #[.agg #[.int .i64 0, .int .i64 0, .slice none 0 0, .slice none 0 0], .int .i64 15]) ∧ Below w.heap.size w w' := by
  have HT := Aside0.mk hT
  have K0 := Aside0.mk (blk_new w (.cells #[.int .i64 kind, .int .i64 0, .string k, .slice Ab t.length cb] 30))
  have K1 := Aside0.mk (blk_alloc K0.out (.cells #[.int .i64 0, .int .i64 0, .slice none 0 0, .slice none 0 0] 36))
  have hs1 := alloc_size w (.cells #[.int .i64 kind, .int .i64 0, .string k, .slice Ab t.length cb] 30)
  have K2 := Aside0.mk (hs1 ▸ blk_new (w.alloc (.cells #[.int .i64 kind, .int .i64 0, .string k, .slice Ab t.length cb] 30)) (.cells #[.int .i64 0, .int .i64 0, .slice none 0 0, .slice none 0 0] 36))
  have B1 := Aside0.mk (below_alloc (below_alloc (Below.refl w.heap.size w) (.cells #[.int .i64 kind, .int .i64 0, .string k, .slice Ab t.length cb] 30)) (.cells #[.int .i64 0, .int .i64 0, .slice none 0 0, .slice none 0 0] 36))
  clear hs1 K0 hT
  go_enter Try.func12, Try.ntmps12
  go_wp2_with fail
  generalize (w.alloc (.cells #[.int .i64 kind, .int .i64 0, .string k, .slice Ab t.length cb] 30)).alloc (.cells #[.int .i64 0, .int .i64 0, .slice none 0 0, .slice none 0 0] 36) = w1 at K1 K2 B1 ⊢
  refine (Sb.PutAsk_calls kind 0 k Ab t.length cb t w1 trivial trivial rfl hcb (Kd.C_below HT.out B1.out)).mono ?_
  rintro e w2 ⟨u, rfl, hu, hb2⟩
  obtain ⟨A2, c2, rfl, _, _⟩ := Kd.R_reads hu
  have B2 := Aside0.mk (B1.out.trans (hb2.mono B1.out.size))
  have KX2 := Aside0.mk (blk_below K2.out hb2)
  clear hu hb2 K1 K2 B1
  have x0 : w2.cell? ⟨w.heap.size + 1, 0, none⟩ = some (.int .i64 0) := (blk_cell KX2.out 0).trans rfl
  have y0 := blk_frozen KX2.out 0
  have x1 : w2.cell? ⟨w.heap.size + 1, 1, none⟩ = some (.int .i64 0) := (blk_cell KX2.out 1).trans rfl
  have y1 := blk_frozen KX2.out 1
  have x2 : w2.cell? ⟨w.heap.size + 1, 2, none⟩ = some (.slice none 0 0) := (blk_cell KX2.out 2).trans rfl
  have y2 := blk_frozen KX2.out 2
  have x3 : w2.cell? ⟨w.heap.size + 1, 3, none⟩ = some (.slice none 0 0) := (blk_cell KX2.out 3).trans rfl
  have y3 := blk_frozen KX2.out 3
  go_wp2_with fail
  refine bodyPost_ret (results_ct rfl _ _ (w.heap.size + 1) 36 _ (0, 0) _ rfl (fill4_res KX2.out _ _ _ _) Try.underlying36 rfl (by kernel_rfl)) rfl ?_
  exact ⟨rfl, below_set (below_set (below_set (below_set B2.out (by omega)) (by omega)) (by omega)) (by omega)⟩
set_option maxRecDepth 20000 in
set_option maxHeartbeats 16000000 in
theorem Ask_no (h : Nt S w n gp cap q ps fs num sent ticks) (x kind nm : Int) (k : ByteArray) (Ab : Option Addr) (cb : Nat) (t : List Int) (hT : Bs.C w Ab t.length t) (hcb : t.length ≤ cb) (hno : ¬ (0 ≤ x ∧ x < ps.length) ∨ Sb.okA kind 0 k.size t.length = false) :
    Calls Try.prog 12 #[.pointer (some ⟨n, 0, none⟩), .int .i64 x, .agg #[.int .i64 kind, .int .i64 nm, .string k, .slice Ab t.length cb]] w fun e w' =>
      ∃ er, (er = 3 ∨ er = 14) ∧ e = .returned (.tuple #[.agg #[.int .i64 0, .int .i64 0, .slice none 0 0, .slice none 0 0], .int .i64 er]) ∧ Below w.heap.size w w' := by
  have HT := Aside0.mk hT
  have HH := Aside0.mk h
  have K0 := Aside0.mk (blk_new w (.cells #[.int .i64 kind, .int .i64 0, .string k, .slice Ab t.length cb] 30))
  have K1 := Aside0.mk (blk_alloc K0.out (.cells #[.int .i64 0, .int .i64 0, .slice none 0 0, .slice none 0 0] 36))
  have hs1 := alloc_size w (.cells #[.int .i64 kind, .int .i64 0, .string k, .slice Ab t.length cb] 30)
  have K2 := Aside0.mk (hs1 ▸ blk_new (w.alloc (.cells #[.int .i64 kind, .int .i64 0, .string k, .slice Ab t.length cb] 30)) (.cells #[.int .i64 0, .int .i64 0, .slice none 0 0, .slice none 0 0] 36))
  have B1 := Aside0.mk (below_alloc (below_alloc (Below.refl w.heap.size w) (.cells #[.int .i64 kind, .int .i64 0, .string k, .slice Ab t.length cb] 30)) (.cells #[.int .i64 0, .int .i64 0, .slice none 0 0, .slice none 0 0] 36))
  clear hs1 K0 hT h
  go_enter Try.func12, Try.ntmps12
  go_wp2_with fail
  generalize (w.alloc (.cells #[.int .i64 kind, .int .i64 0, .string k, .slice Ab t.length cb] 30)).alloc (.cells #[.int .i64 0, .int .i64 0, .slice none 0 0, .slice none 0 0] 36) = w1 at K1 K2 B1 ⊢
  refine (Sb.PutAsk_calls kind 0 k Ab t.length cb t w1 trivial trivial rfl hcb (Kd.C_below HT.out B1.out)).mono ?_
  rintro e w2 ⟨u, rfl, hu, hb2⟩
  have hag : Sb.okA kind 0 k.size t.length = false → (Sb.askB kind 0 k t).2 = 14 := fun h => by rw [Sb.askB_no h]
  generalize (Sb.askB kind 0 k t).2 = ea at hag ⊢
  obtain ⟨A2, c2, rfl, _, _⟩ := Kd.R_reads hu
  have B2 := Aside0.mk (B1.out.trans (hb2.mono B1.out.size))
  have KX2 := Aside0.mk (blk_below K2.out hb2)
  have N2 := Aside0.mk (HH.out.kept B2.out)
  clear hu hb2 K1 K2 B1
  go_wp2_with fail
  refine (there_calls N2.out x).mono ?_
  rintro e w3 ⟨rfl, rfl⟩
  have x0 : w3.cell? ⟨w.heap.size + 1, 0, none⟩ = some (.int .i64 0) := (blk_cell KX2.out 0).trans rfl
  have y0 := blk_frozen KX2.out 0
  have x1 : w3.cell? ⟨w.heap.size + 1, 1, none⟩ = some (.int .i64 0) := (blk_cell KX2.out 1).trans rfl
  have y1 := blk_frozen KX2.out 1
  have x2 : w3.cell? ⟨w.heap.size + 1, 2, none⟩ = some (.slice none 0 0) := (blk_cell KX2.out 2).trans rfl
  have y2 := blk_frozen KX2.out 2
  have x3 : w3.cell? ⟨w.heap.size + 1, 3, none⟩ = some (.slice none 0 0) := (blk_cell KX2.out 3).trans rfl
  have y3 := blk_frozen KX2.out 3
  by_cases hx : 0 ≤ x ∧ x < (ps.length : Int)
  · have e1 : decide (0 ≤ x ∧ x < (ps.length : Int)) = true := decide_eq_true hx
    have hK : Sb.okA kind 0 k.size t.length = false := by
      rcases hno with h | h
      · exact absurd hx h
      · exact h
    obtain rfl := hag hK
    rw [e1]
    go_wp2_with fail
    refine bodyPost_ret (results_ct rfl _ _ (w.heap.size + 1) 36 _ (0, 0) _ rfl (fill4_res KX2.out _ _ _ _) Try.underlying36 rfl (by kernel_rfl)) rfl ?_
    exact ⟨14, .inr rfl, rfl, below_set (below_set (below_set (below_set B2.out (by omega)) (by omega)) (by omega)) (by omega)⟩
  · have e1 : decide (0 ≤ x ∧ x < (ps.length : Int)) = false := decide_eq_false hx
    rw [e1]
    go_wp2_with fail
    refine bodyPost_ret (results_ct rfl _ _ (w.heap.size + 1) 36 _ (0, 0) _ rfl (fill4_res KX2.out _ _ _ _) Try.underlying36 rfl (by kernel_rfl)) rfl ?_
    exact ⟨3, .inl rfl, rfl, below_set (below_set (below_set (below_set B2.out (by omega)) (by omega)) (by omega)) (by omega)⟩
theorem Ask_all {m : Nat} (h : Nt S w n gp cap q ps fs num sent ticks) (hTs : Ts T S n gp ps) (hA : Al m ps fs num sent ticks) (hm : m ≤ 90000) (hq : 0 ≤ q ∧ q ≤ 9223372036854775807) (x kind nm : Int) (k : ByteArray) (Ab : Option Addr) (cb : Nat) (t : List Int) (htb : Sb.Bytes t) (hT : Kd.F Bs w (fun k => k ∉ S) Ab t.length t) (hcb : t.length ≤ cb) :
    Calls Try.prog 12 #[.pointer (some ⟨n, 0, none⟩), .int .i64 x, .agg #[.int .i64 kind, .int .i64 nm, .string k, .slice Ab t.length cb]] w fun e w' =>
      ∃ ub un er code bd ns ps' fs' num' sent' ticks', e = .returned (.tuple #[.agg #[.int .i64 0, .int .i64 code, ub, un], .int .i64 er]) ∧ Bs.R 5 w' w.heap.size (fun _ => True) ub bd ∧ Kd.string.R 9 w' w.heap.size (fun _ => True) un ns ∧
        Nt S w' n gp cap q ps' fs' num' sent' ticks' ∧ Tn T w w' ∧ Ts T S n gp ps' ∧ ps'.length = ps.length ∧ Al (m + 20) ps' fs' num' sent' ticks' ∧ (Hon ps → Hon ps') ∧
        ((er = 0 ∧ sent + 1 ≤ sent' ∧ sent' ≤ sent + 5) ∨ (er = 9 ∧ sent' = sent + 5) ∨ (er ≠ 0 ∧ er ≠ 9 ∧ sent' = sent)) := by
  by_cases hno : ¬ (0 ≤ x ∧ x < ps.length) ∨ Sb.okA kind 0 k.size t.length = false
  · refine (Ask_no h x kind nm k Ab cb t (Kd.F_now hT) hcb hno).mono ?_
    rintro e w' ⟨er, her, rfl, hb⟩
    refine ⟨_, _, er, 0, [], [], ps, fs, num, sent, ticks, rfl, Kd.R_nil _ _ _ _ _, Kd.R_nil _ _ _ _ _, h.kept hb, Tn.of_below hb, hTs, rfl, ?_, id, .inr (.inr ⟨by omega, by omega, rfl⟩)⟩
    exact ⟨hA.ft, fun p hp => by have := hA.pr p hp; exact ⟨this.1, by omega, this.2.2⟩, hA.num, by have := hA.sent; omega, by have := hA.ticks; omega⟩
  · obtain ⟨hx, hK⟩ := not_or.1 hno
    have hx := Classical.not_not.1 hx
    have hK : Sb.okA kind 0 k.size t.length = true := by simpa using hK
    obtain ⟨tt, rfl⟩ := Int.eq_ofNat_of_zero_le hx.1
    have hlt : tt < ps.length := by have := hx.2; omega
    have hp : ps[tt]? = some ps[tt] := List.getElem?_eq_getElem hlt
    generalize hpe : ps[tt] = p at hp
    have hmem := List.mem_of_getElem? hp
    have hself : ps.set tt p = ps := by rw [← hpe]; exact List.set_getElem_self hlt
    obtain ⟨p1, p2, p3⟩ := hA.pr p hmem
    have hsm : SmOk p.L := (h.prov p hmem).small
    have hR : Rok m ⟨fs, num, sent, ticks, p.L, p.dev, p.bl⟩ := ⟨p2, p3, hA.ft, hA.num, hA.sent, hA.ticks⟩
    refine (Ask_calls (T := T) ⟨fs, num, sent, ticks, p.L, p.dev, p.bl⟩ hp (by show Nt S w n gp cap q (ps.set tt p) fs num sent ticks; rw [hself]; exact h) hTs p1 hm hR hq kind nm k Ab cb t hK htb hT hcb).mono ?_
    rintro e w' ⟨ub, un, er, code, bd, ns, r', rfl, hub, hun, hN, hTn, hcs⟩
    have key : Rok (m + 20) r' ∧ (Hon ps → r'.bl = true → r'.dev = true) ∧ ((er = 0 ∧ sent + 1 ≤ r'.sent ∧ r'.sent ≤ sent + 5) ∨ (er = 9 ∧ r'.sent = sent + 5) ∨ (er ≠ 0 ∧ er ≠ 9 ∧ r'.sent = sent)) := by
      have wid : ∀ {a : Nat} {r : Rq}, a ≤ m + 20 → Rok a r → Rok (m + 20) r := fun ha h => ⟨by have := h.1; omega, h.2.1, h.2.2.1, h.2.2.2.1, by have := h.2.2.2.2.1; omega, by have := h.2.2.2.2.2; omega⟩
      rcases hcs with ⟨rfl, i, r1, hi, htr, hgot⟩ | ⟨rfl, _, _, _, htr⟩
      · obtain ⟨k1, k2⟩ := htr.ok hK htb hR
        have hgs : ∀ hb, _ := fun hb => (htr.hon hK htb hR hsm hb)
        refine ⟨?_, fun hh => ?_, .inl ⟨rfl, ?_, ?_⟩⟩
        · obtain ⟨out, hs, _⟩ := hgot
          exact wid (by omega) (hs.ok hK htb k1)
        · obtain ⟨g1, g2⟩ := htr.hon hK htb hR hsm (hh p hmem)
          exact (hgot.hon hK htb k1 g1 g2).2.2
        · obtain ⟨out, ⟨tk, _, _, h3, _⟩, _⟩ := hgot
          rw [h3, k2]
          show sent + 1 ≤ sent + i + 1
          omega
        · obtain ⟨out, ⟨tk, _, _, h3, _⟩, _⟩ := hgot
          rw [h3, k2]
          show sent + i + 1 ≤ sent + 5
          omega
      · obtain ⟨k1, k2⟩ := htr.ok hK htb hR
        exact ⟨wid (by omega) k1, fun hh => (htr.hon hK htb hR hsm (hh p hmem)).2, .inr (.inl ⟨rfl, k2⟩)⟩
    obtain ⟨k1, k2, k3⟩ := key
    have hin : ∀ p' ∈ ps.set tt (r'.of p), p' = r'.of p ∨ p' ∈ ps := fun p' hp' => by
      obtain ⟨i, hi⟩ := List.getElem?_of_mem hp'
      rw [List.getElem?_set] at hi
      by_cases hit : tt = i
      · rw [if_pos hit, if_pos hlt] at hi
        injection hi with hi
        exact .inl hi.symm
      · rw [if_neg hit] at hi
        exact .inr (List.mem_of_getElem? hi)
    refine ⟨ub, un, er, code, bd, ns, ps.set tt (r'.of p), r'.fs, r'.num, r'.sent, r'.ticks, rfl, hub, hun, hN, hTn, hTs.set hp _ rfl, by rw [List.length_set], ?_, fun hh p' hp' => ?_, k3⟩
    · refine ⟨k1.2.2.1, fun p' hp' => ?_, k1.2.2.2.1, k1.2.2.2.2.1, k1.2.2.2.2.2⟩
      rcases hin p' hp' with rfl | hp'
      · exact ⟨p1, k1.1, k1.2.1⟩
      · have := hA.pr p' hp'
        exact ⟨this.1, by omega, this.2.2⟩
    · rcases hin p' hp' with rfl | hp'
      · exact k2 hh
      · exact hh p' hp'
end
end Go.Proofs.Ytpkfeepepbchlaa.Bl
