import Derived.Test.YtpkfeepepbchlaaGLk5
namespace Go.Proofs.Ytpkfeepepbchlaa.Bl
open Go.RowKit Go.Maps Go.Proofs.YtpkfeepepbchlaaW.PrintWords Go.Proofs.YtpkfeepepbchlaaW.PrintLast Go.Proofs.YtpkfeepepbchlaaW.PrintMore Go.Proofs.Ytpkfeepepbchlaa.PK
set_option linter.unusedVariables false
set_option linter.unusedSimpArgs false
structure Rq where
  fs : List Ft
  num : Int
  sent : Int
  ticks : Int
  L : List Ent
  dev : Bool
  bl : Bool
def Rq.of (p : Pr) (r : Rq) : Pr := { p with L := r.L, dev := r.dev, bl := r.bl }
def Rq.s (kind : Int) (k : ByteArray) (t : List Int) (r : Rq) : List Int := (Sb.askB kind (nxt r.num) k t).1
def Step (q kind : Int) (k : ByteArray) (t : List Int) (r r' : Rq) (came : Bool) (out : List Int) : Prop :=
  ∃ tk, r'.fs = r.fs.tail ∧ r'.num = nxt r.num ∧ r'.sent = r.sent + 1 ∧ r'.ticks = r.ticks + tk ∧ TryR q (r.s kind k t) (hdF r.fs).f0 r.L r.dev r'.L r'.dev tk came out
def Lost (q kind : Int) (k : ByteArray) (t : List Int) (r r' : Rq) : Prop :=
  (∃ out, Step q kind k t r r' false out ∧ r'.bl = r.bl) ∨ (∃ out, Step q kind k t r r' true out ∧ r'.bl = true ∧ ¬ ((Sb.getN out).2.2.2.2 = 0 ∧ (Sb.getN out).1 = nxt r.num))
inductive Tries (q kind : Int) (k : ByteArray) (t : List Int) : Nat → Rq → Rq → Prop
  | nil (r : Rq) : Tries q kind k t 0 r r
  | more {i : Nat} {a b c : Rq} : Tries q kind k t i a b → Lost q kind k t b c → Tries q kind k t (i + 1) a c
def Got (q kind : Int) (k : ByteArray) (t : List Int) (r r' : Rq) (code : Int) (bd : List Int) (ns : List ByteArray) : Prop :=
  ∃ out, Step q kind k t r r' true out ∧ r'.bl = r.bl ∧ Sb.getN out = (nxt r.num, code, bd, ns, 0)
def Rok (m : Nat) (r : Rq) : Prop := r.L.length ≤ m ∧ EntOk r.L ∧ FtOk r.fs ∧ (0 ≤ r.num ∧ r.num ≤ 2147483647) ∧ (0 ≤ r.sent ∧ r.sent ≤ m) ∧ (0 ≤ r.ticks ∧ r.ticks ≤ 4 * m)
theorem nxt_in {x : Int} (h : 0 ≤ x ∧ x ≤ 2147483647) : 1 ≤ nxt x ∧ nxt x ≤ 2147483647 := by unfold nxt; split <;> omega
theorem okA_num {kind num num' : Int} {a b : Nat} (h : Sb.okA kind num a b = true) (hn : 0 ≤ num' ∧ num' ≤ 2147483647) : Sb.okA kind num' a b = true := by
  obtain ⟨p1, p2, p3, p4, p5, p6, p7⟩ := okA_parts h
  exact decide_eq_true ⟨p1, p2, hn.1, hn.2, p5, p6, p7⟩
theorem TryR.ents {q kind nm : Int} {k : ByteArray} {t out : List Int} {fk tk : Int} {L L' : List Ent} {dev dev' came : Bool} (h : TryR q (Sb.askB kind nm k t).1 fk L dev L' dev' tk came out) (hK : Sb.okA kind nm k.size t.length = true) (ht : Sb.Bytes t) (hE : EntOk L) : EntOk L' ∧ L'.length ≤ L.length + 2 ∧ (tk = 1 ∨ tk = 4) := by
  obtain ⟨s, hs1, _, _, hgs⟩ := Sb.askB_ok hK ht
  rw [hs1] at h
  have key := fun {M M' : List Ent} {o : List Int} (hv : SvR q M s M' o) (hM : EntOk M) => SvR_ents hv hgs ht hM
  rcases h with ⟨_, _, rfl, _, h⟩ | ⟨_, _, ⟨o, hv⟩, _, h⟩ | ⟨_, _, rfl, h, _⟩ | ⟨_, _, h, _, o, hv, _⟩ | ⟨_, _, _, h, L1, o, hv, hv2⟩ | ⟨_, _, _, _, _, _, _, _, _, h, hv⟩
  · exact ⟨hE, by omega, .inr h⟩
  · exact ⟨key hv hE, by have := hv.len; omega, .inr h⟩
  · exact ⟨hE, by omega, .inl h⟩
  · exact ⟨key hv hE, by have := hv.len; omega, .inl h⟩
  · exact ⟨key hv2 (key hv hE), by have := hv.len; have := hv2.len; omega, .inl h⟩
  · exact ⟨key hv hE, by have := hv.len; omega, .inl h⟩
theorem Step.ok {q kind : Int} {k : ByteArray} {t out : List Int} {r r' : Rq} {came : Bool} {m : Nat} (h : Step q kind k t r r' came out) (hK : Sb.okA kind 0 k.size t.length = true) (ht : Sb.Bytes t) (hr : Rok m r) : Rok (m + 2) r' := by
  obtain ⟨tk, h1, h2, h3, h4, h5⟩ := h
  obtain ⟨r1, r2, r3, r4, r5, r6⟩ := hr
  have hx := nxt_in r4
  obtain ⟨e1, e2, e3⟩ := h5.ents (okA_num hK ⟨by omega, hx.2⟩) ht r2
  refine ⟨by omega, e1, ?_, ?_, ?_, ?_⟩
  · rw [h1]; exact r3.tl
  · rw [h2]; omega
  · rw [h3]; push_cast; omega
  · rw [h4]; push_cast; omega
theorem Lost.step {q kind : Int} {k : ByteArray} {t : List Int} {r r' : Rq} (h : Lost q kind k t r r') : ∃ came out, Step q kind k t r r' came out := by
  rcases h with ⟨out, h, _⟩ | ⟨out, h, _⟩
  · exact ⟨_, _, h⟩
  · exact ⟨_, _, h⟩
theorem Tries.ok {q kind : Int} {k : ByteArray} {t : List Int} {i : Nat} {r r' : Rq} {m : Nat} (h : Tries q kind k t i r r') (hK : Sb.okA kind 0 k.size t.length = true) (ht : Sb.Bytes t) (hr : Rok m r) : Rok (m + 2 * i) r' ∧ r'.sent = r.sent + i := by
  induction h with
  | nil r => exact ⟨hr, by simp⟩
  | more _ hl ih =>
    obtain ⟨i1, i2⟩ := ih hr
    obtain ⟨came, out, hs⟩ := hl.step
    refine ⟨hs.ok hK ht i1, ?_⟩
    obtain ⟨_, _, _, h3, _⟩ := hs
    rw [h3, i2]
    push_cast
    omega
theorem Nt.wider {S : List Nat} {w W : World} {n gp cap : Nat} {q : Int} {ps : List Pr} {fs : List Ft} {num sent ticks : Int} (h : Nt S w n gp cap q ps fs num sent ticks) (hb : Below w.heap.size w W) (X : List Nat) (hX : ∀ x ∈ X, w.heap.size ≤ x ∧ x < W.heap.size) : Nt (X ++ S) W n gp cap q ps fs num sent ticks where
  net := by
    obtain ⟨A, c, h1, h2, h3⟩ := h.net
    exact ⟨A, c, blk_below h1 hb, h2, Kd.F_mono (Kd.F_old h3 hb) (fun k hk hm => by
      rcases List.mem_append.1 hm with hm | hm
      · have := (hX k hm).1; have := hk.2; omega
      · exact hk.1 hm)⟩
  row := (h.kept hb).row
  prov := (h.kept hb).prov
  apart := h.apart
  mem := ⟨List.mem_append.2 (.inr h.mem.1), List.mem_append.2 (.inr h.mem.2.1), fun p hp => List.mem_append.2 (.inr (h.mem.2.2 p hp))⟩
  lt := fun k hk => by
    rcases List.mem_append.1 hk with hk | hk
    · exact (hX k hk).2
    · exact Nat.lt_of_lt_of_le (h.lt k hk) hb.size
  own := (h.kept hb).own
theorem Nt.less {S X : List Nat} {w : World} {n gp cap : Nat} {q : Int} {ps : List Pr} {fs : List Ft} {num sent ticks : Int} (h : Nt (X ++ S) w n gp cap q ps fs num sent ticks) (hm : n ∈ S ∧ gp ∈ S ∧ ∀ p ∈ ps, p.b ∈ S) : Nt S w n gp cap q ps fs num sent ticks where
  net := by
    obtain ⟨A, c, h1, h2, h3⟩ := h.net
    exact ⟨A, c, h1, h2, Kd.F_mono h3 (fun k hk hs => hk (List.mem_append.2 (.inr hs)))⟩
  row := h.row
  prov := h.prov
  apart := h.apart
  mem := hm
  lt := fun k hk => h.lt k (List.mem_append.2 (.inr hk))
  own := h.own
theorem F_wider {α : Type} {d : Kd α} {S X : List Nat} {w W : World} {A : Option Addr} {n : Nat} {xs : List α} (h : Kd.F d w (fun k => k ∉ S) A n xs) (hb : Below w.heap.size w W) (hX : ∀ x ∈ X, w.heap.size ≤ x) : Kd.F d W (fun k => k ∉ X ++ S) A n xs :=
  Kd.F_mono (Kd.F_old h hb) (fun k hk hm => by
    rcases List.mem_append.1 hm with hm | hm
    · have := hX k hm; have := hk.2; omega
    · exact hk.1 hm)
theorem Tn.less {S X : List Nat} {w W W' : World} (h : Tn (X ++ S) W W') (hb : Below w.heap.size w W) (hX : ∀ x ∈ X, w.heap.size ≤ x) : Tn S w W' :=
  ⟨h.os.trans hb.os, h.tape.trans hb.tape, h.output.trans hb.output, Nat.le_trans hb.size h.size, fun k hk hs => (h.block k (Nat.lt_of_lt_of_le hk hb.size) (fun hm => by
    rcases List.mem_append.1 hm with hm | hm
    · have := hX k hm; omega
    · exact hs hm)).trans (hb.block k hk)⟩
theorem Nt.setX {S : List Nat} {w : World} {n gp cap : Nat} {q : Int} {ps : List Pr} {fs : List Ft} {num sent ticks : Int} (h : Nt S w n gp cap q ps fs num sent ticks) {x t : Nat} {cs : Array Value} (hm : x ∈ S) (hx : w.heap[x]? = some (.cells cs t (0, 0)))
    (h1 : t ≠ 5) (h2 : t ≠ 68) (h3 : t ≠ 43) (h4 : t ≠ 58) (h5 : t ≠ 60) (i : Nat) (u : Value) : Nt S (w.setCell ⟨x, i, none⟩ u) n gp cap q ps fs num sent ticks where
  net := by
    obtain ⟨A, c, g1, g2, g3⟩ := h.net
    exact ⟨A, c, blk_far g1 (by rintro rfl; rw [g1] at hx; injection hx with hx; injection hx with _ hx; exact h4 hx.symm) u, g2, (Tn.of_set w hm i u).F (fun _ h => h) g3⟩
  row := by
    obtain ⟨pc, p1, p2⟩ := h.row
    exact ⟨pc, blk_far p1 (by rintro rfl; rw [p1] at hx; injection hx with hx; injection hx with _ hx; exact h5 hx.symm) u, p2⟩
  prov := fun p hp => (h.prov p hp).set hx h1 h2 i u
  apart := h.apart
  mem := h.mem
  lt := fun k hk => Nat.lt_of_lt_of_le (h.lt k hk) (Tn.of_set w hm i u).size
  own := fun p hp => (h.own p hp).keep (set_ty hx h3 i u)
theorem Nt.set4 {S : List Nat} {w : World} {n gp cap : Nat} {q : Int} {ps : List Pr} {fs : List Ft} {num sent ticks : Int} (h : Nt S w n gp cap q ps fs num sent ticks) {x : Nat} {r0 r1 r2 r3 : Value} (hm : x ∈ S) (hx : w.heap[x]? = some (.cells #[r0, r1, r2, r3] 36 (0, 0))) (a b c d : Value) :
    Nt S ((((w.setCell ⟨x, 0, none⟩ a).setCell ⟨x, 1, none⟩ b).setCell ⟨x, 2, none⟩ c).setCell ⟨x, 3, none⟩ d) n gp cap q ps fs num sent ticks :=
  (((h.setX hm hx (by decide) (by decide) (by decide) (by decide) (by decide) 0 a).setX hm (blk_put hx 0 _ rfl) (by decide) (by decide) (by decide) (by decide) (by decide) 1 b).setX hm (blk_put (blk_put hx 0 _ rfl) 1 _ rfl) (by decide) (by decide) (by decide) (by decide) (by decide) 2 c).setX hm (blk_put (blk_put (blk_put hx 0 _ rfl) 1 _ rfl) 2 _ rfl) (by decide) (by decide) (by decide) (by decide) (by decide) 3 d
theorem Tn.set4 {T : List Nat} (w : World) {x : Nat} (hx : x ∈ T) (a b c d : Value) : Tn T w ((((w.setCell ⟨x, 0, none⟩ a).setCell ⟨x, 1, none⟩ b).setCell ⟨x, 2, none⟩ c).setCell ⟨x, 3, none⟩ d) :=
  (((Tn.of_set w hx 0 a).trans (Tn.of_set _ hx 1 b)).trans (Tn.of_set _ hx 2 c)).trans (Tn.of_set _ hx 3 d)
theorem alloc_size (w : World) (o : Obj) : (w.alloc o).heap.size = w.heap.size + 1 := by
  show (w.heap.push o).size = _
  exact Array.size_push o
theorem Tn.mono {S X : List Nat} {w w' : World} (h : Tn S w w') (hs : ∀ k ∈ S, k ∈ X) : Tn X w w' := ⟨h.os, h.tape, h.output, h.size, fun k hk hx => h.block k hk (fun hm => hx (hs k hm))⟩
theorem mem_set {S : List Nat} {ps : List Pr} {tt : Nat} {a b : Pr} (hlt : tt < ps.length) (h : ∀ p ∈ ps.set tt a, p.b ∈ S) (e : b.b = a.b) : ∀ p ∈ ps.set tt b, p.b ∈ S := fun r hr => by
  obtain ⟨i, hi⟩ := List.getElem?_of_mem hr
  rw [List.getElem?_set] at hi
  by_cases hit : tt = i
  · rw [if_pos hit, if_pos hlt] at hi
    injection hi with hi
    subst hi
    rw [e]
    exact h a (List.mem_of_getElem? (List.getElem?_set_self hlt))
  · rw [if_neg hit] at hi
    refine h r (List.mem_of_getElem? (i := i) ?_)
    rw [List.getElem?_set, if_neg hit]
    exact hi
theorem Ts.set {T S : List Nat} {n gp : Nat} {ps : List Pr} (h : Ts T S n gp ps) {tt : Nat} {p : Pr} (hp : ps[tt]? = some p) (b : Pr) (e : b.b = p.b) : Ts T S n gp (ps.set tt b) := by
  obtain ⟨hl9, he9⟩ := List.getElem?_eq_some_iff.1 hp
  have hself : ps.set tt p = ps := by
    rw [← he9]
    exact List.set_getElem_self hl9
  exact ⟨h.n, h.gp, mem_set (a := p) hl9 (by rw [hself]; exact h.b) e, h.sub⟩
theorem Ts.wider {T S : List Nat} {n gp : Nat} {ps : List Pr} (h : Ts T S n gp ps) (X : List Nat) : Ts T (X ++ S) n gp ps := ⟨h.n, h.gp, h.b, fun k hk => List.mem_append.2 (.inr (h.sub k hk))⟩
section
variable {T S : List Nat} {w : World} {n gp cap : Nat} {q : Int} {ps : List Pr}
set_option maxRecDepth 20000 in
set_option maxHeartbeats 16000000 in
theorem Ask_calls {tt : Nat} {p : Pr} {m : Nat} (r : Rq) (hp : ps[tt]? = some p) (h : Nt S w n gp cap q (ps.set tt (r.of p)) r.fs r.num r.sent r.ticks) (hTs : Ts T S n gp ps) (ho : p.o = .slice none 0 0) (hm : m ≤ 90000) (hr : Rok m r) (hq : 0 ≤ q ∧ q ≤ 9223372036854775807)
    (kind nm : Int) (k : ByteArray) (Ab : Option Addr) (cb : Nat) (t : List Int) (hK : Sb.okA kind 0 k.size t.length = true) (htb : Sb.Bytes t) (hT : Kd.F Bs w (fun k => k ∉ S) Ab t.length t) (hcb : t.length ≤ cb) :
    Calls Try.prog 12 #[.pointer (some ⟨n, 0, none⟩), .int .i64 tt, .agg #[.int .i64 kind, .int .i64 nm, .string k, .slice Ab t.length cb]] w fun e w' =>
      ∃ ub un er code bd ns r', e = .returned (.tuple #[.agg #[.int .i64 0, .int .i64 code, ub, un], .int .i64 er]) ∧ Bs.R 5 w' w.heap.size (fun _ => True) ub bd ∧ Kd.string.R 9 w' w.heap.size (fun _ => True) un ns ∧
        Nt S w' n gp cap q (ps.set tt (r'.of p)) r'.fs r'.num r'.sent r'.ticks ∧ Tn T w w' ∧
        ((er = 0 ∧ ∃ i r1, i < 5 ∧ Tries q kind k t i r r1 ∧ Got q kind k t r1 r' code bd ns) ∨ (er = 9 ∧ code = 0 ∧ bd = [] ∧ ns = [] ∧ Tries q kind k t 5 r r')) := by
  have HT := Aside0.mk hT
  have HR := Aside0.mk hr
  have hxS : w.heap.size ∉ S := fun hm => by have := h.lt _ hm; omega
  have hxT : w.heap.size ∉ T := fun hm => hxS (hTs.sub _ hm)
  have hyT : w.heap.size + 1 ∉ T := fun hm => by have := h.lt _ (hTs.sub _ hm); omega
  have hlt : tt < ps.length := (List.getElem?_eq_some_iff.1 hp).1
  have HH := Aside0.mk h
  have K0 := Aside0.mk (blk_new w (.cells #[.int .i64 kind, .int .i64 0, .string k, .slice Ab t.length cb] 30))
  clear h hT hr
  go_enter Try.func12, Try.ntmps12
  go_wp2_with fail
  -- WALK
  have K1 := Aside0.mk (blk_alloc K0.out (.cells #[.int .i64 0, .int .i64 0, .slice none 0 0, .slice none 0 0] 36))
  have hs1 := alloc_size w (.cells #[.int .i64 kind, .int .i64 0, .string k, .slice Ab t.length cb] 30)
  have K2 := Aside0.mk (hs1 ▸ blk_new (w.alloc (.cells #[.int .i64 kind, .int .i64 0, .string k, .slice Ab t.length cb] 30)) (.cells #[.int .i64 0, .int .i64 0, .slice none 0 0, .slice none 0 0] 36))
  have B1 := Aside0.mk (below_alloc (below_alloc (Below.refl w.heap.size w) (.cells #[.int .i64 kind, .int .i64 0, .string k, .slice Ab t.length cb] 30)) (.cells #[.int .i64 0, .int .i64 0, .slice none 0 0, .slice none 0 0] 36))
  generalize (w.alloc (.cells #[.int .i64 kind, .int .i64 0, .string k, .slice Ab t.length cb] 30)).alloc (.cells #[.int .i64 0, .int .i64 0, .slice none 0 0, .slice none 0 0] 36) = w1 at K1 K2 B1 ⊢
  clear hs1 K0
  have hX : ∀ x ∈ [w.heap.size, w.heap.size + 1], w.heap.size ≤ x ∧ x < w1.heap.size := fun x hx => by
    have h1 := blk_lt K1.out
    have h2 := blk_lt K2.out
    simp only [List.mem_cons, List.not_mem_nil, or_false] at hx
    rcases hx with rfl | rfl <;> omega
  have N1 := Aside0.mk (HH.out.wider B1.out [w.heap.size, w.heap.size + 1] hX)
  have HT1 := Aside0.mk (F_wider (X := [w.heap.size, w.heap.size + 1]) HT.out B1.out (fun x hx => (hX x hx).1))
  have HLS := Aside0.mk (fun (W' : World) (h : Tn ([w.heap.size, w.heap.size + 1] ++ T) w1 W') => h.less B1.out (fun x hx => (hX x hx).1))
  have hm1 : w.heap.size ∈ [w.heap.size, w.heap.size + 1] ++ S := by simp
  have hm2 : w.heap.size + 1 ∈ [w.heap.size, w.heap.size + 1] ++ S := by simp
  have HMS := Aside0.mk (fun (r' : Rq) => mem_set (b := r'.of p) hlt HH.out.mem.2.2 rfl)
  have HNG := Aside0.mk (And.intro HH.out.mem.1 HH.out.mem.2.1)
  clear HH hX
  have HTS := Aside0.mk (fun (r' : Rq) => (hTs.wider [w.heap.size, w.heap.size + 1]).set hp (r'.of p) rfl)
  have hmt1 : w.heap.size ∈ [w.heap.size, w.heap.size + 1] ++ T := by simp
  have hmt2 : w.heap.size + 1 ∈ [w.heap.size, w.heap.size + 1] ++ T := by simp
  have hTT1 : ∀ k ∈ T, k ∈ [w.heap.size, w.heap.size + 1] ++ T := fun k hk => List.mem_append.2 (.inr hk)
  have hTS1 : ∀ k ∈ [w.heap.size, w.heap.size + 1] ++ T, k ∈ [w.heap.size, w.heap.size + 1] ++ S := fun k hk => by
    rcases List.mem_append.1 hk with h | h
    · exact List.mem_append.2 (.inl h)
    · exact List.mem_append.2 (.inr (hTs.sub k h))
  have HES := Aside0.mk (fun (W : World) (ps' : List Pr) (fs : List Ft) (num sent ticks : Int) (h : Nt ([w.heap.size, w.heap.size + 1] ++ S) W n gp cap q ps' fs num sent ticks) (hm : ∀ p ∈ ps', p.b ∈ S) => h.less ⟨HNG.out.1, HNG.out.2, hm⟩)
  generalize [w.heap.size, w.heap.size + 1] ++ S = S1 at N1 HT1 HTS hm1 hm2 hTS1 HES
  generalize [w.heap.size, w.heap.size + 1] ++ T = T1 at HLS hmt1 hmt2 hTT1 hTS1
  obtain ⟨sq, hsq, _, _, _⟩ := Sb.askB_ok hK htb
  refine (Sb.PutAsk_calls kind 0 k Ab t.length cb t w1 trivial trivial rfl hcb (Kd.F_now HT1.out)).mono ?_
  rintro e w2 ⟨u, rfl, hu, hb2⟩
  rw [hsq] at hu ⊢
  obtain ⟨A2, c2, rfl, _, _⟩ := Kd.R_reads hu
  have N2 := Aside0.mk (N1.out.kept hb2)
  have T2 := Aside0.mk (Tn.of_below (S := T1) hb2)
  have KA2 := Aside0.mk (blk_below K1.out hb2)
  have KX2 := Aside0.mk (blk_below K2.out hb2)
  clear hu hb2 N1 hsq K1 K2
  go_wp2_with fail
  refine (there_calls N2.out (tt : Int)).mono ?_
  rintro e w2' ⟨rfl, rfl⟩
  have e1 : decide (0 ≤ (tt : Int) ∧ (tt : Int) < ((ps.set tt (r.of p)).length : Int)) = true := decide_eq_true ⟨by omega, by rw [List.length_set]; omega⟩
  rw [e1]
  obtain ⟨An, cn, h1, _, _⟩ := N2.out.net
  rw [List.length_set] at h1
  have c0 : w2'.cell? ⟨n, 0, none⟩ = some (.slice (some ⟨gp, 0, none⟩) ps.length cap) := (blk_cell h1 0).trans rfl
  have hlt2 : (tt : Int) < (ps.length : Int) := by omega
  have e0 : (0 : Int) ≤ (tt : Int) := by omega
  clear h1
  go_wp2_with fail
  rw [Nat.mul_comm tt 4]
  go_loopg [41] 5 (fun kq v41 w' => ∃ (i : Nat) (r1 : Rq) (x : Int), v41 = .int .i64 i ∧ i ≤ 5 ∧ Aside0 (kq + i = 5) ∧ Aside0 (Tries q kind k t i r r1) ∧ Aside0 (Nt S1 w' n gp cap q (ps.set tt (r1.of p)) r1.fs r1.num r1.sent r1.ticks) ∧ Aside0 (Tn T1 w1 w') ∧ Aside0 (w'.heap[w.heap.size]? = some (.cells #[.int .i64 kind, .int .i64 x, .string k, .slice Ab t.length cb] 30 (0, 0))) ∧ Aside0 (w'.heap[w.heap.size + 1]? = some (.cells #[.int .i64 0, .int .i64 0, .slice none 0 0, .slice none 0 0] 36 (0, 0))))
  case atStart => exact ⟨0, r, 0, rfl, by omega, ⟨rfl⟩, ⟨.nil r⟩, N2, T2, KA2, KX2⟩
  case round =>
    obtain ⟨i, r1, x, rfl, hi, HK, HTR, HN, HTN, HA, HX⟩ := hrel
    clear N2 T2 KA2 KX2 c0
    by_cases h5 : i < 5
    · have hd5 : decide ((i : Int) < 5) = true := decide_eq_true (by omega)
      have hTok := HTR.out.ok hK htb HR.out
      have hRok := Aside0.mk hTok.1
      obtain ⟨q1, q2, q3, q4, q5, q6⟩ := hTok.1
      have hnx := nxt_in q4
      clear hTok
      go_wp2_with fail
      refine (next_calls HN.out (HTS.out r1) q4).mono ?_
      rintro e w5 ⟨rfl, hN5, hT5⟩
      have hA5 := hT5.blk HA.out hxT
      have HX5 := Aside0.mk (hT5.blk HX.out hyT)
      have N5 := Aside0.mk hN5
      have a1 : w5.cell? ⟨w.heap.size, 1, none⟩ = some (.int .i64 x) := (blk_cell hA5 1).trans rfl
      have za := blk_frozen hA5 1
      have N6 := Aside0.mk (hN5.setX hm1 hA5 (by decide) (by decide) (by decide) (by decide) (by decide) 1 (.int .i64 (nxt r1.num)))
      have hA6 := blk_put hA5 1 (.int .i64 (nxt r1.num)) rfl
      have HA6 := Aside0.mk hA6
      have HX6 := Aside0.mk (blk_far (p := ⟨w.heap.size, 1, none⟩) HX5.out (show w.heap.size + 1 ≠ w.heap.size by omega) (.int .i64 (nxt r1.num)))
      have T6 := Aside0.mk ((HTN.out.trans (hT5.mono hTT1)).trans (Tn.of_set w5 hmt1 1 (.int .i64 (nxt r1.num))))
      have b0 : (w5.setCell ⟨w.heap.size, 1, none⟩ (.int .i64 (nxt r1.num))).cell? ⟨w.heap.size, 0, none⟩ = some (.int .i64 kind) := (blk_cell hA6 0).trans rfl
      have b1 : (w5.setCell ⟨w.heap.size, 1, none⟩ (.int .i64 (nxt r1.num))).cell? ⟨w.heap.size, 1, none⟩ = some (.int .i64 (nxt r1.num)) := (blk_cell hA6 1).trans rfl
      have b2 : (w5.setCell ⟨w.heap.size, 1, none⟩ (.int .i64 (nxt r1.num))).cell? ⟨w.heap.size, 2, none⟩ = some (.string k) := (blk_cell hA6 2).trans rfl
      have b3 : (w5.setCell ⟨w.heap.size, 1, none⟩ (.int .i64 (nxt r1.num))).cell? ⟨w.heap.size, 3, none⟩ = some (.slice Ab t.length cb) := (blk_cell hA6 3).trans rfl
      clear hN5 hT5 hA5 hA6 N5 HX5 HN HTN HA HX
      go_wp2_with fail
      generalize w5.setCell ⟨w.heap.size, 1, none⟩ (.int .i64 (nxt r1.num)) = w6 at N6 HA6 HX6 T6 b0 b1 b2 b3 ⊢
      have hpS : (ps.set tt (r1.of p))[tt]? = some (r1.of p) := by rw [List.getElem?_set_self hlt]
      refine (goes_calls N6.out (HTS.out r1) hpS ho (by show r1.L.length ≤ 99990; omega) hq q2 q3 kind (nxt r1.num) k Ab cb t (okA_num hK ⟨by omega, hnx.2⟩) htb (T6.out.F hTS1 HT1.out) hcb (by omega) (by omega)).mono ?_
      rintro e w7 ⟨Ao, co, out, came, dev', L', tk, rfl, hco, hC7, hbo, hlo, hN7, hT7, hR7⟩
      rw [List.set_set] at hN7
      have hst := Aside0.mk (show Step q kind k t r1 ⟨r1.fs.tail, nxt r1.num, r1.sent + 1, r1.ticks + tk, L', dev', r1.bl⟩ came out from ⟨tk, rfl, rfl, rfl, rfl, hR7⟩)
      have N7 := Aside0.mk (show Nt S1 w7 n gp cap q (ps.set tt ((⟨r1.fs.tail, nxt r1.num, r1.sent + 1, r1.ticks + tk, L', dev', r1.bl⟩ : Rq).of p)) r1.fs.tail (nxt r1.num) (r1.sent + 1) (r1.ticks + tk) from hN7)
      have HA7 := Aside0.mk (hT7.blk HA6.out hxT)
      have HX7 := Aside0.mk (hT7.blk HX6.out hyT)
      have T7 := Aside0.mk (T6.out.trans (hT7.mono hTT1))
      have HC7 := Aside0.mk hC7
      clear hN7 hT7 hC7 N6 HA6 HX6 T6 b0 b1 b2 b3 hR7
      cases came with
      | false =>
        go_wp2_with fail
        go_roundg (5 - (i + 1))
        case measure => have := HK.out; omega
        case rel => exact ⟨i + 1, _, nxt r1.num, by first | rfl | simp, by omega, ⟨by have := HK.out; omega⟩, ⟨.more HTR.out (.inl ⟨out, hst.out, rfl⟩)⟩, N7, T7, HA7, HX7⟩
      | true =>
        go_wp2_with fail
        refine (Sb.GetAnswer_calls Ao out.length co out w7 HC7.out rfl hco hlo hbo).mono ?_
        rintro e w8 ⟨u8, v8, rfl, hu8, hv8, hb8⟩
        rcases hgn : Sb.getN out with ⟨nm8, code8, bd8, ns8, er8⟩
        dsimp only at hu8 hv8 ⊢
        obtain ⟨A8, c8, rfl, hc8, _⟩ := Kd.R_reads hu8
        obtain ⟨B8, d8, rfl, hd8, _⟩ := Kd.R_reads hv8
        have N8 := Aside0.mk (N7.out.kept hb8)
        have HA8 := Aside0.mk (blk_below HA7.out hb8)
        have HX8 := Aside0.mk (blk_below HX7.out hb8)
        have T8 := Aside0.mk (T7.out.trans (Tn.of_below hb8))
        have h78 : w.heap.size ≤ w7.heap.size := by have := blk_lt HA7.out; omega
        have HU8 := Aside0.mk (Kd.R_lower hu8 h78)
        have HV8 := Aside0.mk (Kd.R_lower hv8 h78)
        have HGN := Aside0.mk hgn
        clear hu8 hv8 hb8 N7 HA7 HX7 T7 HC7 hgn h78
        have hpS8 : (ps.set tt ((⟨r1.fs.tail, nxt r1.num, r1.sent + 1, r1.ticks + tk, L', dev', r1.bl⟩ : Rq).of p))[tt]? = some ((⟨r1.fs.tail, nxt r1.num, r1.sent + 1, r1.ticks + tk, L', dev', r1.bl⟩ : Rq).of p) := by rw [List.getElem?_set_self hlt]
        have g3 : w8.cell? ⟨gp, 4 * tt + 3, none⟩ = some (.bool r1.bl) := N8.out.cell hpS8 3 _ rfl
        have zg3 := N8.out.frozen (4 * tt + 3)
        have a1 : w8.cell? ⟨w.heap.size, 1, none⟩ = some (.int .i64 (nxt r1.num)) := (blk_cell HA8.out 1).trans rfl
        have hgl := N8.out.lt gp N8.out.mem.2.1
        have hal := blk_lt HA8.out
        have hapg : w.heap.size ≠ gp := fun e => hxT (e ▸ hTs.gp)
        have haxg : w.heap.size + 1 ≠ gp := fun e => hyT (e ▸ hTs.gp)
        have hxl := blk_lt HX8.out
        have hne1 : (w8.heap.size == gp) = false := beq_eq_false_iff_ne.2 (by omega)
        have hne2 : (w8.heap.size == w.heap.size) = false := beq_eq_false_iff_ne.2 (by omega)
        have hne3 : (w8.heap.size == w.heap.size + 1) = false := beq_eq_false_iff_ne.2 (by omega)
        have x0 : w8.cell? ⟨w.heap.size + 1, 0, none⟩ = some (.int .i64 0) := (blk_cell HX8.out 0).trans rfl
        have x1 : w8.cell? ⟨w.heap.size + 1, 1, none⟩ = some (.int .i64 0) := (blk_cell HX8.out 1).trans rfl
        have x2 : w8.cell? ⟨w.heap.size + 1, 2, none⟩ = some (.slice none 0 0) := (blk_cell HX8.out 2).trans rfl
        have x3 : w8.cell? ⟨w.heap.size + 1, 3, none⟩ = some (.slice none 0 0) := (blk_cell HX8.out 3).trans rfl
        have y0 := blk_frozen HX8.out 0
        have y1 := blk_frozen HX8.out 1
        have y2 := blk_frozen HX8.out 2
        have y3 := blk_frozen HX8.out 3
        by_cases k8 : er8 = 0
        · subst k8
          by_cases n8 : nm8 = nxt r1.num
          · subst n8
            go_wp2_with fail
            refine bodyPost_ret (results_ct rfl _ _ (w.heap.size + 1) 36 _ (0, 0) _ rfl (blk_alloc (fill4_res HX8.out _ _ _ _) _) Try.underlying36 rfl (by kernel_rfl)) rfl ?_
            have N9 := (N8.out.set4 hm2 HX8.out (.int .i64 0) (.int .i64 code8) (.slice A8 (Sb.getN out).2.2.1.length c8) (.slice B8 (Sb.getN out).2.2.2.1.length d8)).kept (below_alloc (Below.refl _ _) (.cells #[.int .i64 0, .int .i64 code8, .slice A8 (Sb.getN out).2.2.1.length c8, .slice B8 (Sb.getN out).2.2.2.1.length d8] 36))
            have T9 := HLS.out _ ((T8.out.trans (Tn.set4 w8 hmt2 (.int .i64 0) (.int .i64 code8) (.slice A8 (Sb.getN out).2.2.1.length c8) (.slice B8 (Sb.getN out).2.2.2.1.length d8))).trans (Tn.of_below (below_alloc (Below.refl _ _) (.cells #[.int .i64 0, .int .i64 code8, .slice A8 (Sb.getN out).2.2.1.length c8, .slice B8 (Sb.getN out).2.2.2.1.length d8] 36))))
            have R9 := set4_R (base := w.heap.size) HX8.out (.int .i64 0) (.int .i64 code8) (.slice A8 (Sb.getN out).2.2.1.length c8) (.slice B8 (Sb.getN out).2.2.2.1.length d8)
            exact ⟨_, _, 0, code8, _, _, ⟨r1.fs.tail, nxt r1.num, r1.sent + 1, r1.ticks + tk, L', dev', r1.bl⟩, rfl, Kd.R_alloc (R9.1 _ _ HU8.out) _, Kd.R_alloc (R9.2 _ _ HV8.out) _, HES.out _ _ _ _ _ _ N9 (HMS.out _), T9, .inl ⟨rfl, i, r1, h5, HTR.out, out, hst.out, rfl, by rw [HGN.out]⟩⟩
          · have hn8 : (nm8 != nxt r1.num) = true := bne_iff_ne.2 n8
            go_wp2_with fail
            go_roundg (5 - (i + 1))
            case measure => have := HK.out; omega
            case rel =>
              have N9 := N8.out.setP (p' := (⟨r1.fs.tail, nxt r1.num, r1.sent + 1, r1.ticks + tk, L', dev', true⟩ : Rq).of p) hpS8 3 (.bool true) (by omega) rfl rfl rfl rfl rfl
              rw [List.set_set] at N9
              exact ⟨i + 1, ⟨r1.fs.tail, nxt r1.num, r1.sent + 1, r1.ticks + tk, L', dev', true⟩, nxt r1.num, by first | rfl | simp, by omega, ⟨by have := HK.out; omega⟩, ⟨.more HTR.out (.inr ⟨out, hst.out, rfl, by rw [HGN.out]; exact fun h => n8 h.2⟩)⟩,
                ⟨N9.kept (below_alloc (Below.refl _ _) _)⟩, ⟨(T8.out.trans (Tn.of_set w8 (hTT1 _ hTs.gp) (4 * tt + 3) (.bool true))).trans (Tn.of_below (below_alloc (Below.refl _ _) _))⟩,
                ⟨blk_alloc (blk_far (p := ⟨gp, 4 * tt + 3, none⟩) HA8.out hapg (.bool true)) _⟩, ⟨blk_alloc (blk_far (p := ⟨gp, 4 * tt + 3, none⟩) HX8.out haxg (.bool true)) _⟩⟩
        · have hk8 : (er8 != 0) = true := bne_iff_ne.2 k8
          go_wp2_with fail
          go_roundg (5 - (i + 1))
          case measure => have := HK.out; omega
          case rel =>
            have N9 := N8.out.setP (p' := (⟨r1.fs.tail, nxt r1.num, r1.sent + 1, r1.ticks + tk, L', dev', true⟩ : Rq).of p) hpS8 3 (.bool true) (by omega) rfl rfl rfl rfl rfl
            rw [List.set_set] at N9
            exact ⟨i + 1, ⟨r1.fs.tail, nxt r1.num, r1.sent + 1, r1.ticks + tk, L', dev', true⟩, nxt r1.num, by first | rfl | simp, by omega, ⟨by have := HK.out; omega⟩, ⟨.more HTR.out (.inr ⟨out, hst.out, rfl, by rw [HGN.out]; exact fun h => k8 h.1⟩)⟩,
              ⟨N9.kept (below_alloc (Below.refl _ _) _)⟩, ⟨(T8.out.trans (Tn.of_set w8 (hTT1 _ hTs.gp) (4 * tt + 3) (.bool true))).trans (Tn.of_below (below_alloc (Below.refl _ _) _))⟩,
              ⟨blk_alloc (blk_far (p := ⟨gp, 4 * tt + 3, none⟩) HA8.out hapg (.bool true)) _⟩, ⟨blk_alloc (blk_far (p := ⟨gp, 4 * tt + 3, none⟩) HX8.out haxg (.bool true)) _⟩⟩
    · have hd5 : decide ((i : Int) < 5) = false := decide_eq_false (by omega)
      have x0 : wr.cell? ⟨w.heap.size + 1, 0, none⟩ = some (.int .i64 0) := (blk_cell HX.out 0).trans rfl
      have y0 := blk_frozen HX.out 0
      have x1 : wr.cell? ⟨w.heap.size + 1, 1, none⟩ = some (.int .i64 0) := (blk_cell HX.out 1).trans rfl
      have y1 := blk_frozen HX.out 1
      have x2 : wr.cell? ⟨w.heap.size + 1, 2, none⟩ = some (.slice none 0 0) := (blk_cell HX.out 2).trans rfl
      have y2 := blk_frozen HX.out 2
      have x3 : wr.cell? ⟨w.heap.size + 1, 3, none⟩ = some (.slice none 0 0) := (blk_cell HX.out 3).trans rfl
      have y3 := blk_frozen HX.out 3
      go_wp2_with fail
      refine bodyPost_ret (results_ct rfl _ _ (w.heap.size + 1) 36 _ (0, 0) _ rfl (fill4_res HX.out _ _ _ _) Try.underlying36 rfl (by kernel_rfl)) rfl ?_
      have hi5 : i = 5 := by omega
      subst hi5
      exact ⟨_, _, 9, 0, [], [], r1, rfl, Kd.R_nil _ _ _ _ _, Kd.R_nil _ _ _ _ _, HES.out _ _ _ _ _ _ (HN.out.set4 hm2 HX.out _ _ _ _) (HMS.out _), HLS.out _ (HTN.out.trans (Tn.set4 wr hmt2 _ _ _ _)), .inr ⟨rfl, rfl, rfl, rfl, HTR.out⟩⟩
end
end Go.Proofs.Ytpkfeepepbchlaa.Bl
