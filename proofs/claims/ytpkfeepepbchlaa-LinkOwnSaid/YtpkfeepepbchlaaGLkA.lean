import Derived.Test.YtpkfeepepbchlaaGLk9
namespace Go.Proofs.Ytpkfeepepbchlaa.Bl
open Go.RowKit Go.Maps Go.Proofs.YtpkfeepepbchlaaW.PrintWords Go.Proofs.YtpkfeepepbchlaaW.PrintLast Go.Proofs.YtpkfeepepbchlaaW.PrintMore Go.Proofs.Ytpkfeepepbchlaa.PK
set_option linter.unusedVariables false
set_option linter.unusedSimpArgs false
theorem Tries.head {q kind : Int} {k : ByteArray} {t : List Int} {i : Nat} {a c : Rq} (h : Tries q kind k t (i + 1) a c) : ∃ b, Lost q kind k t a b ∧ Tries q kind k t i b c := by
  generalize hj : i + 1 = j at h
  induction h generalizing i with
  | nil => omega
  | more h1 h2 ih =>
    rename_i j' a' b' c'
    have e : j' = i := by omega
    subst e
    cases j' with
    | zero =>
      cases h1
      exact ⟨c', h2, .nil _⟩
    | succ m =>
      obtain ⟨b, hb, hr⟩ := ih rfl
      exact ⟨b, hb, .more hr h2⟩
theorem Tries.zero {q kind : Int} {k : ByteArray} {t : List Int} {a c : Rq} (h : Tries q kind k t 0 a c) : c = a := by
  generalize hj : 0 = j at h
  cases h with
  | nil => rfl
  | more => omega
theorem Step.plain {q kind : Int} {k : ByteArray} {t out : List Int} {r r' : Rq} {came : Bool} {m : Nat} (h : Step q kind k t r r' came out) (h0 : (hdF r.fs).f0 = 0) (hK : Sb.okA kind 0 k.size t.length = true) (ht : Sb.Bytes t) (hr : Rok m r) (hS : SmOk r.L) :
    came = true ∧ r'.dev = r.dev ∧ r'.ticks = r.ticks + 1 ∧ ∃ code bd ns, DoR q r.L kind (nxt r.num) k t r'.L (nxt r.num) code bd ns ∧ Sb.getN out = (nxt r.num, code, bd, ns, 0) := by
  obtain ⟨tk, h1, h2, h3, h4, h5⟩ := h
  rw [h0] at h5
  rcases h5 with ⟨h, _⟩ | ⟨h, _⟩ | ⟨h, _⟩ | ⟨h, _⟩ | ⟨h, _⟩ | ⟨_, _, _, _, _, _, _, hc, hd, htk, hv⟩
  · omega
  · omega
  · omega
  · omega
  · omega
  · have hx := nxt_in hr.2.2.2.1
    obtain ⟨code, bd, ns, hD, hg, _⟩ := honest (okA_num hK ⟨by omega, hx.2⟩) ht hS hr.2.1 hv
    exact ⟨hc, hd, by rw [h4, htk], code, bd, ns, hD, hg⟩
theorem Lost.no {q kind : Int} {k : ByteArray} {t : List Int} {r r' : Rq} {m : Nat} (h : Lost q kind k t r r') (h0 : (hdF r.fs).f0 = 0) (hK : Sb.okA kind 0 k.size t.length = true) (ht : Sb.Bytes t) (hr : Rok m r) (hS : SmOk r.L) : False := by
  rcases h with ⟨out, hs, _⟩ | ⟨out, hs, _, hno⟩
  · have := (hs.plain h0 hK ht hr hS).1
    cases this
  · obtain ⟨_, _, _, code, bd, ns, _, hg⟩ := hs.plain h0 hK ht hr hS
    rw [hg] at hno
    exact hno ⟨rfl, rfl⟩
theorem Step.mute {q kind : Int} {k : ByteArray} {t out : List Int} {r r' : Rq} {came : Bool} (h : Step q kind k t r r' came out) (h0 : (hdF r.fs).f0 = 1 ∨ (hdF r.fs).f0 = 2) :
    came = false ∧ r'.dev = r.dev ∧ r'.fs = r.fs.tail ∧ r'.num = nxt r.num ∧ r'.sent = r.sent + 1 ∧ r'.ticks = r.ticks + 4 ∧ (((hdF r.fs).f0 = 1 ∧ r'.L = r.L) ∨ ((hdF r.fs).f0 = 2 ∧ ∃ o, SvR q r.L (r.s kind k t) r'.L o)) := by
  obtain ⟨tk, h1, h2, h3, h4, h5⟩ := h
  rcases h5 with ⟨e, c, l, d, t'⟩ | ⟨e, c, l, d, t'⟩ | ⟨e, _⟩ | ⟨e, _⟩ | ⟨e, _⟩ | ⟨e, e2, _⟩
  · exact ⟨c, d, h1, h2, h3, by rw [h4, t'], .inl ⟨e, l⟩⟩
  · exact ⟨c, d, h1, h2, h3, by rw [h4, t'], .inr ⟨e, l⟩⟩
  · omega
  · omega
  · omega
  · omega
theorem Got.no {q kind code : Int} {k : ByteArray} {t bd : List Int} {ns : List ByteArray} {r r' : Rq} (h : Got q kind k t r r' code bd ns) (h0 : (hdF r.fs).f0 = 1 ∨ (hdF r.fs).f0 = 2) : False := by
  obtain ⟨out, hs, _⟩ := h
  have := (hs.mute h0).1
  cases this
theorem Lost.mute {q kind : Int} {k : ByteArray} {t : List Int} {r r' : Rq} (h : Lost q kind k t r r') (h0 : (hdF r.fs).f0 = 1 ∨ (hdF r.fs).f0 = 2) :
    r'.dev = r.dev ∧ r'.bl = r.bl ∧ r'.fs = r.fs.tail ∧ r'.num = nxt r.num ∧ r'.sent = r.sent + 1 ∧ r'.ticks = r.ticks + 4 ∧ (((hdF r.fs).f0 = 1 ∧ r'.L = r.L) ∨ ((hdF r.fs).f0 = 2 ∧ ∃ o, SvR q r.L (r.s kind k t) r'.L o)) := by
  rcases h with ⟨out, hs, hb⟩ | ⟨out, hs, _, _⟩
  · obtain ⟨_, e1, e2, e3, e4, e5, e6⟩ := hs.mute h0
    exact ⟨e1, hb, e2, e3, e4, e5, e6⟩
  · have := (hs.mute h0).1
    cases this
def rq0 : Rq := ⟨[⟨1, []⟩], 0, 0, 0, [], false, false⟩
theorem one_mem {f : Ft} (hf : f ∈ [(⟨1, []⟩ : Ft)]) : f.f1 = [] := by
  have e : f = ⟨1, []⟩ := by simpa using hf
  rw [e]
theorem one_ok : FtOk [(⟨1, []⟩ : Ft)] := fun f hf => by
  rw [one_mem hf]
  exact ⟨by simp, Sb.Bytes.nil⟩
theorem rq0_ok : Rok 5 rq0 := ⟨by decide, (fun y hy => by cases hy), one_ok, by decide, by decide, by decide⟩
theorem wake_plain {i : Nat} {r1 r' : Rq} {code : Int} {bd : List Int} {ns : List ByteArray} :
    (Tries 100 2 ⟨#[120]⟩ [] i rq0 r1 → Got 100 2 ⟨#[120]⟩ [] r1 r' code bd ns → code = 1 ∧ r'.sent = 2 ∧ r'.ticks = 5) ∧ ¬ Tries 100 2 ⟨#[120]⟩ [] 5 rq0 r' := by
  have hK : Sb.okA 2 0 (⟨#[120]⟩ : ByteArray).size ([] : List Int).length = true := by decide +kernel
  have first : ∀ {r : Rq}, Lost 100 2 ⟨#[120]⟩ [] rq0 r → r.fs = [] ∧ r.num = 1 ∧ r.sent = 1 ∧ r.ticks = 4 ∧ r.L = [] ∧ Rok 7 r ∧ SmOk r.L := fun {r} h => by
    obtain ⟨came, out, hs⟩ := h.step
    have hok := hs.ok hK Sb.Bytes.nil rq0_ok
    obtain ⟨e1, e2, e3, e4, e5, e6, e7⟩ := h.mute (.inl rfl)
    have hL : r.L = [] := by
      rcases e7 with ⟨_, e⟩ | ⟨e, _⟩
      · exact e
      · exact absurd (show (1 : Int) = 2 from e) (by decide)
    exact ⟨e3, e4, e5, e6, hL, hok, fun y hy => by rw [hL] at hy; cases hy⟩
  refine ⟨fun h1 h2 => ?_, fun h => ?_⟩
  · cases i with
    | zero =>
      rw [h1.zero] at h2
      exact (h2.no (.inl rfl)).elim
    | succ i =>
      obtain ⟨b, hb, hr⟩ := h1.head
      obtain ⟨f1, f2, f3, f4, f5, f6, f7⟩ := first hb
      have h0 : (hdF b.fs).f0 = 0 := by rw [f1]; rfl
      cases i with
      | zero =>
        rw [hr.zero] at h2
        obtain ⟨out, hs, _, hg⟩ := h2
        obtain ⟨_, _, g3, code', bd', ns', hD, hg'⟩ := hs.plain h0 hK Sb.Bytes.nil f6 f7
        rw [hg'] at hg
        injection hg with _ hg
        injection hg with hg _
        obtain ⟨tk, _, _, g5, _⟩ := hs
        refine ⟨?_, by rw [g5, f3]; rfl, by rw [g3, f4]; rfl⟩
        rw [← hg]
        rw [f5] at hD
        rcases hD with ⟨h, _⟩ | ⟨_, _, ⟨h, _⟩ | ⟨_, _, _, _, h⟩ | ⟨h, _⟩ | ⟨h, _⟩⟩
        · exact absurd (okA_num hK (num' := nxt b.num) (by have := nxt_in f6.2.2.2.1; omega)) (by rw [h]; decide)
        · exact absurd h (by decide)
        · rw [h]; rfl
        · exact absurd h (by decide)
        · exact absurd h (by decide)
      | succ i =>
        obtain ⟨c, hc, _⟩ := hr.head
        exact (hc.no h0 hK Sb.Bytes.nil f6 f7).elim
  · obtain ⟨b, hb, hr⟩ := h.head
    obtain ⟨f1, f2, f3, f4, f5, f6, f7⟩ := first hb
    obtain ⟨c, hc, _⟩ := hr.head
    exact hc.no (by rw [f1]; rfl) hK Sb.Bytes.nil f6 f7
theorem C_one {w : World} {b : Nat} {kind : Int} (h : w.heap[b]? = some (.cells #[.int .i64 kind, .slice none 0 0] 43 (0, 0))) : Kd.C kF w (some ⟨b, 0, none⟩) 1 [⟨kind, []⟩] := by
  refine ⟨rfl, by decide, fun _ => ⟨⟨b, 0, none⟩, rfl, fun j p hj => ?_⟩⟩
  have hj0 : j = 0 := by
    have := (List.getElem?_eq_some_iff.1 hj).1
    simp only [List.length_cons, List.length_nil] at this
    omega
  subst hj0
  injection hj with hj
  subst hj
  refine ⟨[.int .i64 kind, .slice none 0 0], rfl, k43_mk w ⟨kind, []⟩ (Nat.le_refl 0) (Kd.C_nil _ _), fun i u hu => ?_⟩
  have e : (⟨b, 0, none⟩ : Addr).add (0 * kF.sz + i) = ⟨b, i, none⟩ := by
    rw [Nat.zero_mul, Nat.zero_add]
    unfold Addr.add
    by_cases hi : i = 0
    · subst hi; rfl
    · rw [if_neg hi]; simp
  rw [e, blk_cell h i]
  rw [← List.getElem?_toArray] at hu
  exact hu
set_option maxRecDepth 20000 in
set_option maxHeartbeats 16000000 in
theorem wakes_calls (w : World) : Calls Try.prog 8 #[] w fun e w' => e = .returned (.bool true) ∧ Below w.heap.size w w' := by
  have K1 := blk_new w (.cells #[.int .i64 1, .slice none 0 0] 43)
  have B1 := Aside0.mk (below_alloc (Below.refl w.heap.size w) (.cells #[.int .i64 1, .slice none 0 0] 43))
  have C1 := Aside0.mk (C_one K1)
  clear K1
  go_enter Try.func8, Try.ntmps8
  go_wp2_with fail
  generalize w.alloc (.cells #[.int .i64 1, .slice none 0 0] 43) = w1 at B1 C1 ⊢
  refine (New_net 1 (by omega) 100 (by omega) (some ⟨w.heap.size, 0, none⟩) 1 [⟨1, []⟩] w1 C1.out (Nat.le_refl _) (by simp) (fun f hf => by rw [one_mem hf]; simp)).mono ?_
  rintro e w2 ⟨n, gp, cap, ps, rfl, hN, hpl, hps, hnew, hb2⟩
  obtain ⟨p, rfl⟩ : ∃ p, ps = [p] := by
    match ps, hpl with
    | [p], _ => exact ⟨p, rfl⟩
  obtain ⟨p1, p2, p3, p4⟩ := hps p (by simp)
  have hB2 := B1.out.trans (hb2.mono B1.out.size)
  have HB2 := Aside0.mk hB2
  have HN := Aside0.mk hN
  have HNW := Aside0.mk hnew
  have HPP := Aside0.mk (And.intro p1 (And.intro p3 p4))
  clear hb2 hB2 hN hnew hps
  have hpe : rq0.of p = p := by
    obtain ⟨q1, q3, q4⟩ := HPP.out
    cases p
    simp only at q1 q3 q4
    subst q1 q3 q4
    rfl
  have hN' : Nt (n :: gp :: [p].map (·.b)) w2 n gp cap 100 ([p].set 0 (rq0.of p)) rq0.fs rq0.num rq0.sent rq0.ticks := by rw [hpe]; exact HN.out
  have hTs : Ts (n :: gp :: [p].map (·.b)) (n :: gp :: [p].map (·.b)) n gp [p] := ⟨by simp, by simp, by simp, fun _ h => h⟩
  go_wp2_with fail
  refine (Ask_calls (m := 5) rq0 (show [p][0]? = some p from rfl) hN' hTs p2 (by omega) rq0_ok (by omega) 2 0 ⟨#[120]⟩ none 0 [] (by decide +kernel) Sb.Bytes.nil (Kd.F_nil _ _ _) (Nat.le_refl _)).mono ?_
  rintro e w3 ⟨ub, un, er, code, bd, ns, r', rfl, hub, hun, hN3, hT3, hcs⟩
  have hk : er = 0 ∧ code = 1 ∧ r'.sent = 2 ∧ r'.ticks = 5 := by
    rcases hcs with ⟨h0, i, r1, _, h1, h2⟩ | ⟨_, _, _, _, h⟩
    · exact ⟨h0, (wake_plain (r' := r')).1 h1 h2⟩
    · exact absurd h (wake_plain (i := 0) (r1 := r') (r' := r') (code := 0) (bd := []) (ns := [])).2
  obtain ⟨rfl, rfl, hs, ht⟩ := hk
  rw [hs, ht] at hN3
  obtain ⟨A3, c3, rfl, _, _⟩ := Kd.R_reads hub
  obtain ⟨A4, c4, rfl, _, _⟩ := Kd.R_reads hun
  have hb3 := Tn.below HB2.out hT3 HB2.out.size (fun s hs => by have := HNW.out s hs; have := B1.out.size; omega)
  have HB3 := Aside0.mk hb3
  have HN3 := Aside0.mk hN3
  clear hcs hub hun hN3 hT3 hb3 hs ht HN
  go_wp2_with fail
  have bb := below_alloc (Below.refl w3.heap.size w3) (.cells #[.int .i64 0, .int .i64 1, .slice A3 bd.length c3, .slice A4 ns.length c4] 36)
  refine (Sent_calls (HN3.out.kept bb)).mono ?_
  rintro e w4 ⟨rfl, rfl⟩
  go_wp2_with fail
  refine (Ticks_calls (HN3.out.kept bb)).mono ?_
  rintro e w5 ⟨rfl, rfl⟩
  go_wp2_with fail
  go_ret
  exact ⟨rfl, HB3.out.trans (bb.mono HB3.out.size)⟩
end Go.Proofs.Ytpkfeepepbchlaa.Bl
