import Derived.Test.YtpkfeepepbchlaaGLkE
import Derived.Test.YtpkfeepepbchlaaGLkF
namespace Go.Proofs.Ytpkfeepepbchlaa.Bl
open Go.RowKit Go.Maps Go.Proofs.YtpkfeepepbchlaaW.PrintWords Go.Proofs.YtpkfeepepbchlaaW.PrintLast Go.Proofs.YtpkfeepepbchlaaW.PrintMore Go.Proofs.Ytpkfeepepbchlaa.PK
set_option linter.unusedVariables false
set_option linter.unusedSimpArgs false
abbrev nilS : Value := .slice none 0 0
structure Nn (base : Nat) (S : List Nat) (W : World) (n gp cap m : Nat) (ps : List Pr) (num sent ticks : Int) : Prop where
  nt : Nt S W n gp cap 1000 ps [] num sent ticks
  ts : Ts S S n gp ps
  ty : ∀ k ∈ S, k = n ∨ k = gp ∨ ∃ p ∈ ps, p.b = k
  len : ps.length = 3
  a1 : ∃ p, ps[1]? = some p ∧ Mute base W p.o ∧ p.L = [] ∧ p.dev = false
  oth : ∀ (i : Nat) (p : Pr), ps[i]? = some p → i ≠ 1 → p.o = nilS ∧ p.L.length ≤ m ∧ EntOk p.L
  num : 0 ≤ num ∧ num ≤ 2147483647
  sent : 0 ≤ sent ∧ sent ≤ m
  ticks : 0 ≤ ticks ∧ ticks ≤ 4 * m
structure Mm (S : List Nat) (W : World) (n gp cap m : Nat) (ps : List Pr) (num sent ticks : Int) : Prop where
  nt : Nt S W n gp cap 1000 ps [] num sent ticks
  ts : Ts S S n gp ps
  ty : ∀ k ∈ S, k = n ∨ k = gp ∨ ∃ p ∈ ps, p.b = k
  len : ps.length = 3
  oth : ∀ p ∈ ps, p.o = nilS ∧ p.L.length ≤ m ∧ EntOk p.L
  num : 0 ≤ num ∧ num ≤ 2147483647
  sent : 0 ≤ sent ∧ sent ≤ m
  ticks : 0 ≤ ticks ∧ ticks ≤ 4 * m
theorem set_at {ps : List Pr} {tt : Nat} {p b : Pr} (hp : ps[tt]? = some p) {i : Nat} {r : Pr} (h : (ps.set tt b)[i]? = some r) : (i = tt ∧ r = b) ∨ (i ≠ tt ∧ ps[i]? = some r) := by
  have hlt := (List.getElem?_eq_some_iff.1 hp).1
  rw [List.getElem?_set] at h
  by_cases e : tt = i
  · rw [if_pos e, if_pos hlt] at h
    injection h with h
    exact .inl ⟨e.symm, h.symm⟩
  · rw [if_neg e] at h
    exact .inr ⟨fun e' => e e'.symm, h⟩
theorem ty_set {S : List Nat} {n gp tt : Nat} {ps : List Pr} {p b : Pr} (h : ∀ k ∈ S, k = n ∨ k = gp ∨ ∃ p ∈ ps, p.b = k) (hp : ps[tt]? = some p) (e : b.b = p.b) : ∀ k ∈ S, k = n ∨ k = gp ∨ ∃ p ∈ ps.set tt b, p.b = k := fun k hk => by
  have hlt := (List.getElem?_eq_some_iff.1 hp).1
  rcases h k hk with h | h | ⟨r, hr, hb⟩
  · exact .inl h
  · exact .inr (.inl h)
  · refine .inr (.inr ?_)
    obtain ⟨j, hj⟩ := List.getElem?_of_mem hr
    by_cases hjt : tt = j
    · subst hjt
      rw [hp] at hj
      injection hj with hj
      exact ⟨b, List.mem_of_getElem? (List.getElem?_set_self hlt), by rw [e, hj]; exact hb⟩
    · exact ⟨r, List.mem_of_getElem? (i := j) (by rw [List.getElem?_set, if_neg hjt]; exact hj), hb⟩
section
variable {base : Nat} {S T : List Nat} {w w' : World} {n gp cap m : Nat} {ps : List Pr} {num sent ticks : Int}
theorem Nn.kept (h : Nn base S w n gp cap m ps num sent ticks) (hb : Below w.heap.size w w') : Nn base S w' n gp cap m ps num sent ticks := by
  obtain ⟨p, h1, h2, h3⟩ := h.a1
  exact ⟨h.nt.kept hb, h.ts, h.ty, h.len, ⟨p, h1, Kd.Q_below h2 hb, h3⟩, h.oth, h.num, h.sent, h.ticks⟩
theorem Mm.kept (h : Mm S w n gp cap m ps num sent ticks) (hb : Below w.heap.size w w') : Mm S w' n gp cap m ps num sent ticks :=
  ⟨h.nt.kept hb, h.ts, h.ty, h.len, h.oth, h.num, h.sent, h.ticks⟩
theorem Nn.tys (h : Nn base S w n gp cap m ps num sent ticks) : ∀ k ∈ S, ∀ (cells : Array Value) (t : TypeId), w.heap[k]? = some (.cells cells t (0, 0)) → t = 58 ∨ t = 60 := fun k hk cells t hc => h.nt.types (h.ty k hk) cells t hc
theorem Mm.tys (h : Mm S w n gp cap m ps num sent ticks) : ∀ k ∈ S, ∀ (cells : Array Value) (t : TypeId), w.heap[k]? = some (.cells cells t (0, 0)) → t = 58 ∨ t = 60 := fun k hk cells t hc => h.nt.types (h.ty k hk) cells t hc
theorem Nn.aside (h : Nn base S w n gp cap m ps num sent ticks) (ht : Tn T w w') (hd : ∀ k ∈ S, k ∉ T) (hT : ∀ k ∈ T, ∀ (cells : Array Value) (t : TypeId), w.heap[k]? = some (.cells cells t (0, 0)) → t = 58 ∨ t = 60) : Nn base S w' n gp cap m ps num sent ticks := by
  obtain ⟨p, h1, h2, h3⟩ := h.a1
  have hM := h2.aside ht hT
  refine ⟨h.nt.aside (base := base) (Tf.of ht) hd hT (fun r hr => ?_), h.ts, h.ty, h.len, ⟨p, h1, hM, h3⟩, h.oth, h.num, h.sent, h.ticks⟩
  obtain ⟨i, hi⟩ := List.getElem?_of_mem hr
  by_cases h1i : i = 1
  · subst h1i
    rw [h1] at hi
    injection hi with hi
    rw [← hi]
    exact hM.own
  · exact .inl (h.oth i r hi h1i).1
theorem Mm.aside (h : Mm S w n gp cap m ps num sent ticks) (ht : Tf base T w w') (hd : ∀ k ∈ S, k ∉ T) (hT : ∀ k ∈ T, ∀ (cells : Array Value) (t : TypeId), w.heap[k]? = some (.cells cells t (0, 0)) → t = 58 ∨ t = 60) : Mm S w' n gp cap m ps num sent ticks :=
  ⟨h.nt.aside ht hd hT (fun p hp => .inl (h.oth p hp).1), h.ts, h.ty, h.len, h.oth, h.num, h.sent, h.ticks⟩
theorem Nn.more (h : Nn base S w n gp cap m ps num sent ticks) {m' : Nat} (hm : m ≤ m') : Nn base S w n gp cap m' ps num sent ticks :=
  ⟨h.nt, h.ts, h.ty, h.len, h.a1, fun i p hp hi => by have := h.oth i p hp hi; exact ⟨this.1, by omega, this.2.2⟩, h.num, by have := h.sent; omega, by have := h.ticks; omega⟩
theorem Mm.more (h : Mm S w n gp cap m ps num sent ticks) {m' : Nat} (hm : m ≤ m') : Mm S w n gp cap m' ps num sent ticks :=
  ⟨h.nt, h.ts, h.ty, h.len, fun p hp => by have := h.oth p hp; exact ⟨this.1, by omega, this.2.2⟩, h.num, by have := h.sent; omega, by have := h.ticks; omega⟩
set_option maxRecDepth 20000 in
set_option maxHeartbeats 16000000 in
theorem Ask_no2 {q : Int} {fs : List Ft} (h : Nt S w n gp cap q ps fs num sent ticks) (x kind nm : Int) (k : ByteArray) (Ab : Option Addr) (cb : Nat) (t : List Int) (hT : Bs.C w Ab t.length t) (hcb : t.length ≤ cb) (hno : ¬ (0 ≤ x ∧ x < ps.length) ∨ Sb.okA kind 0 k.size t.length = false) :
    Calls Try.prog 12 #[.pointer (some ⟨n, 0, none⟩), .int .i64 x, .agg #[.int .i64 kind, .int .i64 nm, .string k, .slice Ab t.length cb]] w fun e w' =>
      e = .returned (.tuple #[.agg #[.int .i64 0, .int .i64 0, .slice none 0 0, .slice none 0 0], .int .i64 (if 0 ≤ x ∧ x < (ps.length : Int) then 14 else 3)]) ∧ Below w.heap.size w w' := by
  have HT := Aside0.mk hT
  have HH := Aside0.mk h
  have K0 := Aside0.mk (blk_new w (.cells #[.int .i64 kind, .int .i64 0, .string k, .slice Ab t.length cb] 30))
  have K1 := Aside0.mk (blk_alloc K0.out (.cells #[.int .i64 0, .int .i64 0, .slice none 0 0, .slice none 0 0] 36))
  have hs1 := alloc_size w (.cells #[.int .i64 kind, .int .i64 0, .string k, .slice Ab t.length cb] 30)
  have K2 := Aside0.mk (hs1 ▸ blk_new (w.alloc (.cells #[.int .i64 kind, .int .i64 0, .string k, .slice Ab t.length cb] 30)) (.cells #[.int .i64 0, .int .i64 0, .slice none 0 0, .slice none 0 0] 36))
  have B1 := Aside0.mk (below_alloc (below_alloc (Below.refl w.heap.size w) (.cells #[.int .i64 kind, .int .i64 0, .string k, .slice Ab t.length cb] 30)) (.cells #[.int .i64 0, .int .i64 0, .slice none 0 0, .slice none 0 0] 36))
  clear hs1 K0 hT h
  go_enter Try.func12, Try.ntmps12
  go_wp2_with fail
  generalize (w.alloc (.cells #[.int .i64 kind, .int .i64 0, .string k, .slice Ab t.length cb] 30)).alloc (.cells #[.int .i64 0, .int .i64 0, .slice none 0 0, .slice none 0 0] 36) = w1 at K1 K2 B1 ⊢
  refine (Sb.PutAsk_calls kind 0 k Ab t.length cb t w1 trivial trivial rfl hcb (Kd.C_below HT.out B1.out)).mono ?_
  rintro e w2 ⟨u, rfl, hu, hb2⟩
  have hag : Sb.okA kind 0 k.size t.length = false → (Sb.askB kind 0 k t).2 = 14 := fun h => by rw [Sb.askB_no h]
  generalize (Sb.askB kind 0 k t).2 = ea at hag ⊢
  obtain ⟨A2, c2, rfl, _, _⟩ := Kd.R_reads hu
  have B2 := Aside0.mk (B1.out.trans (hb2.mono B1.out.size))
  have KX2 := Aside0.mk (blk_below K2.out hb2)
  have N2 := Aside0.mk (HH.out.kept B2.out)
  clear hu hb2 K1 K2 B1
  go_wp2_with fail
  refine (there_calls N2.out x).mono ?_
  rintro e w3 ⟨rfl, rfl⟩
  have x0 : w3.cell? ⟨w.heap.size + 1, 0, none⟩ = some (.int .i64 0) := (blk_cell KX2.out 0).trans rfl
  have y0 := blk_frozen KX2.out 0
  have x1 : w3.cell? ⟨w.heap.size + 1, 1, none⟩ = some (.int .i64 0) := (blk_cell KX2.out 1).trans rfl
  have y1 := blk_frozen KX2.out 1
  have x2 : w3.cell? ⟨w.heap.size + 1, 2, none⟩ = some (.slice none 0 0) := (blk_cell KX2.out 2).trans rfl
  have y2 := blk_frozen KX2.out 2
  have x3 : w3.cell? ⟨w.heap.size + 1, 3, none⟩ = some (.slice none 0 0) := (blk_cell KX2.out 3).trans rfl
  have y3 := blk_frozen KX2.out 3
  by_cases hx : 0 ≤ x ∧ x < (ps.length : Int)
  · have e1 : decide (0 ≤ x ∧ x < (ps.length : Int)) = true := decide_eq_true hx
    have hK : Sb.okA kind 0 k.size t.length = false := by
      rcases hno with h | h
      · exact absurd hx h
      · exact h
    obtain rfl := hag hK
    rw [e1]
    go_wp2_with fail
    refine bodyPost_ret (results_ct rfl _ _ (w.heap.size + 1) 36 _ (0, 0) _ rfl (fill4_res KX2.out _ _ _ _) Try.underlying36 rfl (by kernel_rfl)) rfl ?_
    exact ⟨rfl, below_set (below_set (below_set (below_set B2.out (by omega)) (by omega)) (by omega)) (by omega)⟩
  · have e1 : decide (0 ≤ x ∧ x < (ps.length : Int)) = false := decide_eq_false hx
    rw [e1]
    go_wp2_with fail
    refine bodyPost_ret (results_ct rfl _ _ (w.heap.size + 1) 36 _ (0, 0) _ rfl (fill4_res KX2.out _ _ _ _) Try.underlying36 rfl (by kernel_rfl)) rfl ?_
    exact ⟨rfl, below_set (below_set (below_set (below_set B2.out (by omega)) (by omega)) (by omega)) (by omega)⟩
theorem Ask_first {q : Int} {tt : Nat} {p : Pr} (h : Nt S w n gp cap q ps [] num sent ticks) (hTs : Ts T S n gp ps) (hp : ps[tt]? = some p) (ho : p.o = nilS) (hm : m ≤ 90000) (hL : p.L.length ≤ m) (hE : EntOk p.L) (hnum : 0 ≤ num ∧ num ≤ 2147483647) (hst : 0 ≤ sent ∧ sent ≤ m) (htk : 0 ≤ ticks ∧ ticks ≤ 4 * m) (hq : 0 ≤ q ∧ q ≤ 9223372036854775807) (kind nm : Int) (k : ByteArray) (Ab : Option Addr) (cb : Nat) (t : List Int) (hK : Sb.okA kind 0 k.size t.length = true) (htb : Sb.Bytes t) (hT : Kd.F Bs w (fun k => k ∉ S) Ab t.length t) (hcb : t.length ≤ cb) :
    Calls Try.prog 12 #[.pointer (some ⟨n, 0, none⟩), .int .i64 tt, .agg #[.int .i64 kind, .int .i64 nm, .string k, .slice Ab t.length cb]] w fun e w' =>
      ∃ ub un code bd ns L' num' sent' ticks', e = .returned (.tuple #[.agg #[.int .i64 0, .int .i64 code, ub, un], .int .i64 0]) ∧ Bs.R 5 w' w.heap.size (fun _ => True) ub bd ∧ Kd.string.R 9 w' w.heap.size (fun _ => True) un ns ∧
        Nt S w' n gp cap q (ps.set tt { p with L := L' }) [] num' sent' ticks' ∧ Tn T w w' ∧ DoR q p.L kind (nxt num) k t L' (nxt num) code bd ns ∧ Sb.okA kind (nxt num) k.size t.length = true ∧ L'.length ≤ m + 20 ∧ EntOk L' ∧ (0 ≤ num' ∧ num' ≤ 2147483647) ∧ (0 ≤ sent' ∧ sent' ≤ ((m + 20 : Nat) : Int)) ∧ (0 ≤ ticks' ∧ ticks' ≤ 4 * ((m + 20 : Nat) : Int)) := by
  have hsm : SmOk p.L := (h.prov p (List.mem_of_getElem? hp)).small
  have hself : ps.set tt p = ps := by
    obtain ⟨hl9, he9⟩ := List.getElem?_eq_some_iff.1 hp
    rw [← he9]
    exact List.set_getElem_self hl9
  have hR : Rok m ⟨[], num, sent, ticks, p.L, p.dev, p.bl⟩ := ⟨hL, hE, (fun f hf => by cases hf), hnum, hst, htk⟩
  refine (Ask_calls (T := T) ⟨[], num, sent, ticks, p.L, p.dev, p.bl⟩ hp (by show Nt S w n gp cap q (ps.set tt p) [] num sent ticks; rw [hself]; exact h) hTs ho hm hR hq kind nm k Ab cb t hK htb hT hcb).mono ?_
  rintro e w' ⟨ub, un, er, code, bd, ns, r', rfl, hub, hun, hN, hTn, hcs⟩
  obtain ⟨rfl, hD, hfs, hdv, hbl, hok, hrk, _⟩ := first_try hK htb hR hsm rfl hcs
  rw [hfs] at hN
  have e1 : r'.of p = { p with L := r'.L } := by
    show ({ p with L := r'.L, dev := r'.dev, bl := r'.bl } : Pr) = { p with L := r'.L }
    rw [hdv, hbl]
  rw [e1] at hN
  obtain ⟨k1, k2, _, k4, k5, k6⟩ := hrk
  exact ⟨ub, un, code, bd, ns, r'.L, r'.num, r'.sent, r'.ticks, rfl, hub, hun, hN, hTn, hD, hok, by omega, k2, k4, by push_cast at k5 ⊢; omega, by push_cast at k6 ⊢; omega⟩
theorem Nn.asked (h : Nn base S w n gp cap m ps num sent ticks) {tt : Nat} (htt : tt ≠ 1) {p : Pr} (hp : ps[tt]? = some p) {L' : List Ent} {num' sent' ticks' : Int} (hN : Nt S w' n gp cap 1000 (ps.set tt { p with L := L' }) [] num' sent' ticks') (hM : ∀ v, Mute base w v → Mute base w' v) (hL : L'.length ≤ m + 20) (hE : EntOk L') (h1 : 0 ≤ num' ∧ num' ≤ 2147483647) (h2 : 0 ≤ sent' ∧ sent' ≤ ((m + 20 : Nat) : Int)) (h3 : 0 ≤ ticks' ∧ ticks' ≤ 4 * ((m + 20 : Nat) : Int)) : Nn base S w' n gp cap (m + 20) (ps.set tt { p with L := L' }) num' sent' ticks' := by
  obtain ⟨a, ha, hmu, hl⟩ := h.a1
  refine ⟨hN, h.ts.set hp _ rfl, ty_set h.ty hp rfl, by rw [List.length_set]; exact h.len, ⟨a, by rw [List.getElem?_set, if_neg htt]; exact ha, hM _ hmu, hl⟩, fun i r hi hne => ?_, h1, h2, h3⟩
  rcases set_at hp hi with ⟨rfl, rfl⟩ | ⟨_, hi⟩
  · exact ⟨(h.oth i p hp hne).1, hL, hE⟩
  · have := h.oth i r hi hne
    exact ⟨this.1, by omega, this.2.2⟩
theorem Nn.silent (h : Nn base S w n gp cap m ps num sent ticks) {p : Pr} (hp : ps[1]? = some p) {u : Value} {num' : Int} (hN : Nt S w' n gp cap 1000 (ps.set 1 { p with o := u }) [] num' (sent + 5) (ticks + 20)) (hM : Mute base w' u) (h1 : 0 ≤ num' ∧ num' ≤ 2147483647) : Nn base S w' n gp cap (m + 20) (ps.set 1 { p with o := u }) num' (sent + 5) (ticks + 20) := by
  obtain ⟨a, ha, hmu, hl⟩ := h.a1
  rw [hp] at ha
  injection ha with ha
  subst ha
  have hlt := (List.getElem?_eq_some_iff.1 hp).1
  have hs := h.sent
  have ht := h.ticks
  refine ⟨hN, h.ts.set hp _ rfl, ty_set h.ty hp rfl, by rw [List.length_set]; exact h.len, ⟨{ p with o := u }, List.getElem?_set_self hlt, hM, hl⟩, fun i r hi hne => ?_, h1, by push_cast; omega, by push_cast; omega⟩
  rcases set_at hp hi with ⟨rfl, rfl⟩ | ⟨_, hi⟩
  · exact absurd rfl hne
  · have := h.oth i r hi hne
    exact ⟨this.1, by omega, this.2.2⟩
theorem Mm.asked (h : Mm S w n gp cap m ps num sent ticks) {tt : Nat} {p : Pr} (hp : ps[tt]? = some p) {L' : List Ent} {num' sent' ticks' : Int} (hN : Nt S w' n gp cap 1000 (ps.set tt { p with L := L' }) [] num' sent' ticks') (hL : L'.length ≤ m + 20) (hE : EntOk L') (h1 : 0 ≤ num' ∧ num' ≤ 2147483647) (h2 : 0 ≤ sent' ∧ sent' ≤ ((m + 20 : Nat) : Int)) (h3 : 0 ≤ ticks' ∧ ticks' ≤ 4 * ((m + 20 : Nat) : Int)) : Mm S w' n gp cap (m + 20) (ps.set tt { p with L := L' }) num' sent' ticks' := by
  refine ⟨hN, h.ts.set hp _ rfl, ty_set h.ty hp rfl, by rw [List.length_set]; exact h.len, fun r hr => ?_, h1, h2, h3⟩
  obtain ⟨i, hi⟩ := List.getElem?_of_mem hr
  rcases set_at hp hi with ⟨rfl, rfl⟩ | ⟨_, hi⟩
  · exact ⟨(h.oth p (List.mem_of_getElem? hp)).1, hL, hE⟩
  · have := h.oth r (List.mem_of_getElem? hi)
    exact ⟨this.1, by omega, this.2.2⟩
def SameP (ps rs : List Pr) : Prop := ∀ (i : Nat) (p r : Pr), i ≠ 1 → ps[i]? = some p → rs[i]? = some r → refP p.L = refP r.L
theorem SameP.set {ps rs : List Pr} {tt : Nat} {p r : Pr} {L M : List Ent} (h : SameP ps rs) (hp : ps[tt]? = some p) (hr : rs[tt]? = some r) (e : refP L = refP M) : SameP (ps.set tt { p with L := L }) (rs.set tt { r with L := M }) := fun i a b hi ha hb => by
  rcases set_at hp ha with ⟨rfl, rfl⟩ | ⟨h1, ha⟩
  · rcases set_at hr hb with ⟨_, rfl⟩ | ⟨h2, _⟩
    · exact e
    · exact absurd rfl h2
  · rcases set_at hr hb with ⟨h2, _⟩ | ⟨_, hb⟩
    · exact absurd h2 h1
    · exact h i a b hi ha hb
theorem SameP.mute {ps rs : List Pr} {p : Pr} {u : Value} (h : SameP ps rs) (hp : ps[1]? = some p) : SameP (ps.set 1 { p with o := u }) rs := fun i a b hi ha hb => by
  rcases set_at hp ha with ⟨h1, _⟩ | ⟨_, ha⟩
  · exact absurd h1 hi
  · exact h i a b hi ha hb
end
end Go.Proofs.Ytpkfeepepbchlaa.Bl
