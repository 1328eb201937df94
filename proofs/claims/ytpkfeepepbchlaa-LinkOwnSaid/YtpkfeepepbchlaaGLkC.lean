import Derived.Test.YtpkfeepepbchlaaGLk9
namespace Go.Proofs.Ytpkfeepepbchlaa.Bl
open Go.RowKit Go.Maps Go.Proofs.YtpkfeepepbchlaaW.PrintWords Go.Proofs.YtpkfeepepbchlaaW.PrintLast Go.Proofs.YtpkfeepepbchlaaW.PrintMore Go.Proofs.Ytpkfeepepbchlaa.PK
set_option linter.unusedVariables false
set_option linter.unusedSimpArgs false
def kV : Kd (Int × Unit) := Kd.pair (Kd.int .i64) (Kd.scalar (fun _ : Unit => Value.slice none 0 0) (fun _ => rfl))
theorem kV_mk (x : Int) (w : World) (base : Nat) (ok : Nat → Prop) : kV.M w base ok (x, ()) [.int .i64 x, .slice none 0 0] := ⟨[.int .i64 x], [.slice none 0 0], rfl, rfl, rfl⟩
abbrev Mute (base : Nat) (w : World) (v : Value) : Prop := Kd.Q kV 43 w base (fun _ => True) v [(1, ())]
theorem Q_keep' {base : Nat} {w w' : World} {v : Value} {xs : List (Int × Unit)} (h : Kd.Q kV 43 w base (fun _ => True) v xs) (hk : ∀ (k : Nat) (cells : Array Value), w.heap[k]? = some (.cells cells 43 (0, 0)) → w'.heap[k]? = w.heap[k]?) : Kd.Q kV 43 w' base (fun _ => True) v xs :=
  Kd.Q_mono (Kd.Q_step (Kd.Q_bound h) (fun k hk' _ => by
    obtain ⟨_, _, _, q, hq, cells, hc⟩ := hk'
    have e : q = 43 := by simpa [kV, Kd.pair, Kd.int, Kd.scalar] using hq
    rw [e] at hc
    exact hk k cells hc)) (fun _ _ => trivial)
theorem Mute.form {base : Nat} {w : World} {v : Value} (h : Mute base w v) : ∃ g off cap cur, v = .slice (some ⟨g, off, none⟩) 1 cap ∧ 1 ≤ cap ∧ w.heap[g]? = some (.cells cur 43 (0, 0)) ∧ cur.size = off + 2 * cap ∧ cur[off]? = some (.int .i64 1) ∧ cur[off + 1]? = some (.slice none 0 0) := by
  obtain ⟨_, inner, hq, hr⟩ := h
  have hin : inner = [.int .i64 1, .slice none 0 0] := by
    obtain ⟨h1, h2⟩ := hr
    have h3 := h2 0 (1, ()) rfl
    obtain ⟨c0, c1, e, e0, e1⟩ := h3
    have e0' : c0 = [.int .i64 1] := e0
    have e1' : c1 = [.slice none 0 0] := e1
    subst e0' e1'
    have hl : inner.length = 2 := h1
    rw [Nat.zero_mul, List.drop_zero, List.take_of_length_le (by rw [hl]; exact Nat.le_refl 2)] at e
    exact e
  rcases hq.2 with ⟨h0, _⟩ | ⟨g, off, cap, cur, e, _, hh, hn, _, hs, ht⟩
  · exact absurd h0 (by decide)
  · refine ⟨g, off * 2, cap, cur, e, hn, hh, ?_, ?_, ?_⟩
    · rw [hs, Nat.add_mul, Nat.mul_comm cap]
      rfl
    · rw [hin] at ht
      have := congrArg (fun l => l[0]?) ht
      simp only [List.getElem?_take, List.getElem?_drop] at this
      simpa [kV, Kd.pair, Kd.int, Kd.scalar] using this
    · rw [hin] at ht
      have := congrArg (fun l => l[1]?) ht
      simp only [List.getElem?_take, List.getElem?_drop] at this
      simpa [kV, Kd.pair, Kd.int, Kd.scalar] using this
theorem Mute.own {base : Nat} {w : World} {v : Value} (h : Mute base w v) : OwnF w v := by
  obtain ⟨g, off, cap, cur, h1, h2, h3, h4, h5, h6⟩ := h.form
  exact .inr ⟨g, off, cap, cur, h1, h2, h3, h4, h5, h6⟩
theorem infoV : (Try.prog.info? 43).map (fun i => (i.zero, i.size, i.bytes)) = some (some (.agg #[.int .i64 0, .slice none 0 0]), 2, 32) := by kernel_rfl
section
variable {T S : List Nat} {w w1 : World} {n gp cap : Nat} {q : Int} {ps : List Pr} {num sent ticks : Int}
theorem Nt.setO (h : Nt S w n gp cap q ps [] num sent ticks) {tt : Nat} {p : Pr} (hp : ps[tt]? = some p) (hoth : ∀ (i : Nat) (r : Pr), ps[i]? = some r → i ≠ tt → r.o = .slice none 0 0) {o : Option Nat} (hg : w.grownBy w1 o) (ho : ∀ k, o = some k → ∃ cells, w.heap[k]? = some (.cells cells 43 (0, 0))) (u : Value) (hO : OwnF (w1.setCell ⟨gp, 4 * tt + 1, none⟩ u) u) :
    Nt S (w1.setCell ⟨gp, 4 * tt + 1, none⟩ u) n gp cap q (ps.set tt { p with o := u }) [] num sent ticks := by
  have hm := List.mem_of_getElem? hp
  obtain ⟨A, c, h1, h2, h3⟩ := h.net
  obtain ⟨pc, p1, p2⟩ := h.row
  have hne := h.ngp
  have hlt : tt < ps.length := (List.getElem?_eq_some_iff.1 hp).1
  have hty : ∀ (k t : Nat) (cells : Array Value), t ≠ 43 → w.heap[k]? = some (.cells cells t (0, 0)) → w1.heap[k]? = some (.cells cells t (0, 0)) := fun k t cells ht hk =>
    (hg.block k (blk_lt hk) (fun e => by
      obtain ⟨cs, hc⟩ := ho k e.symm
      rw [hk] at hc
      injection hc with hc
      injection hc with _ hc
      exact ht hc)).trans hk
  have h1' := hty _ _ _ (by decide) h1
  have p1' := hty _ _ _ (by decide) p1
  have hat : ∀ (i : Nat) (r : Pr), (ps.set tt { p with o := u })[i]? = some r → (i = tt ∧ r = { p with o := u }) ∨ (i ≠ tt ∧ ps[i]? = some r) := fun i r hi => by
    rw [List.getElem?_set] at hi
    by_cases e : tt = i
    · rw [if_pos e, if_pos hlt] at hi
      injection hi with hi
      exact .inl ⟨e.symm, hi.symm⟩
    · rw [if_neg e] at hi
      exact .inr ⟨fun e' => e e'.symm, hi⟩
  have hmem : ∀ r ∈ ps.set tt { p with o := u }, r = { p with o := u } ∨ (r ∈ ps ∧ r.o = .slice none 0 0) := fun r hr => by
    obtain ⟨i, hi⟩ := List.getElem?_of_mem hr
    rcases hat i r hi with ⟨_, h⟩ | ⟨h0, h⟩
    · exact .inl h
    · exact .inr ⟨List.mem_of_getElem? h, hoth i r h h0⟩
  have hBl : ∀ r ∈ ps, Bl (w1.setCell ⟨gp, 4 * tt + 1, none⟩ u) r.g r.b q r.L := fun r hr =>
    ((h.prov r hr).row hg (fun k e => ho k e) (by decide) (by decide)).set p1' (by decide) (by decide) _ u
  exact {
    net := by
      rw [List.length_set]
      exact ⟨A, c, blk_far h1' hne u, h2, fun W _ => ⟨rfl, by simp, fun hn => absurd hn (Nat.lt_irrefl 0)⟩⟩
    row := by
      refine ⟨pc.setIfInBounds (4 * tt + 1) u, blk_put p1' _ u rfl, fun k r hk j v hv => ?_⟩
      have hj : j < 4 := (List.getElem?_eq_some_iff.1 hv).1
      rw [Array.getElem?_setIfInBounds]
      rcases hat k r hk with ⟨rfl, rfl⟩ | ⟨hk1, hk2⟩
      · by_cases hij : j = 1
        · subst hij
          have h5 := p2 k p hp 1 p.o rfl
          have h6 : 4 * k + 1 < pc.size := (Array.getElem?_eq_some_iff.1 h5).1
          rw [if_pos rfl, if_pos h6]
          exact hv
        · rw [if_neg (by omega)]
          refine p2 k p hp j v ?_
          have e : j = 0 ∨ j = 2 ∨ j = 3 := by omega
          rcases e with rfl | rfl | rfl <;> exact hv
      · rw [if_neg (by omega)]
        exact p2 k r hk2 j v hv
    prov := fun r hr => by
      rcases hmem r hr with rfl | ⟨hr, _⟩
      · exact hBl p hm
      · exact hBl r hr
    apart := fun i j x y hx hy e => by
      rcases hat i x hx with ⟨e1, e2⟩ | ⟨_, hx2⟩
      · rcases hat j y hy with ⟨e3, e4⟩ | ⟨_, hy2⟩
        · omega
        · rw [e1]
          exact h.apart tt j p y hp hy2 (by rw [← e, e2])
      · rcases hat j y hy with ⟨e3, e4⟩ | ⟨_, hy2⟩
        · rw [e3]
          exact h.apart i tt x p hx2 hp (by rw [e, e4])
        · exact h.apart i j x y hx2 hy2 e
    mem := ⟨h.mem.1, h.mem.2.1, fun r hr => by
      rcases hmem r hr with rfl | ⟨hr, _⟩
      · exact h.mem.2.2 p hm
      · exact h.mem.2.2 r hr⟩
    lt := fun k hk => by
      have h5 : (w1.setCell ⟨gp, 4 * tt + 1, none⟩ u).heap.size = w1.heap.size := by simp [World.setCell]
      rw [h5]
      exact Nat.lt_of_lt_of_le (h.lt k hk) hg.size
    own := fun r hr => by
      rcases hmem r hr with rfl | ⟨_, hr⟩
      · exact hO
      · exact .inl hr }
structure Tf (base : Nat) (T : List Nat) (w w' : World) : Prop where
  os : w'.os = w.os
  tape : w'.tape = w.tape
  output : w'.output = w.output
  size : w.heap.size ≤ w'.heap.size
  block : ∀ k, k < w.heap.size → k ∉ T → w'.heap[k]? = w.heap[k]? ∨ (base ≤ k ∧ ∃ cells, w.heap[k]? = some (.cells cells 43 (0, 0)))
theorem Tf.of {base : Nat} {T : List Nat} {a b : World} (h : Tn T a b) : Tf base T a b := ⟨h.os, h.tape, h.output, h.size, fun k hk hm => .inl (h.block k hk hm)⟩
theorem Tf.trans {base : Nat} {T : List Nat} {a b c : World} (h : Tf base T a b) (k : Tf base T b c) : Tf base T a c :=
  ⟨k.os.trans h.os, k.tape.trans h.tape, k.output.trans h.output, Nat.le_trans h.size k.size, fun i hi hm => by
    rcases h.block i hi hm with e | e
    · rcases k.block i (Nat.lt_of_lt_of_le hi h.size) hm with e' | ⟨e0, cells, e'⟩
      · exact .inl (e'.trans e)
      · exact .inr ⟨e0, cells, by rw [← e]; exact e'⟩
    · exact .inr e⟩
theorem Tf.mono {base : Nat} {T X : List Nat} {a b : World} (h : Tf base T a b) (hs : ∀ k ∈ T, k ∈ X) : Tf base X a b := ⟨h.os, h.tape, h.output, h.size, fun k hk hm => h.block k hk (fun h' => hm (hs k h'))⟩
theorem Tf.row {base : Nat} {T : List Nat} {a b : World} {o : Option Nat} (hg : a.grownBy b o) (ho : ∀ k, o = some k → base ≤ k ∧ ∃ cells, a.heap[k]? = some (.cells cells 43 (0, 0))) : Tf base T a b :=
  ⟨hg.os, hg.tape, hg.output, hg.size, fun k hk _ => by
    by_cases e : some k = o
    · exact .inr (ho k e.symm)
    · exact .inl (hg.block k hk e)⟩
theorem Tf.below {base : Nat} {T : List Nat} {a b c : World} (h : Below base a b) (k : Tf base T b c) (hb : base ≤ b.heap.size) (hT : ∀ s ∈ T, base ≤ s) : Below base a c :=
  ⟨k.os.trans h.os, k.tape.trans h.tape, k.output.trans h.output, Nat.le_trans h.size k.size, fun i hi => by
    rcases k.block i (by omega) (fun hm => by have := hT i hm; omega) with e | ⟨e, _⟩
    · exact e.trans (h.block i hi)
    · omega⟩
theorem Tf.blk {base : Nat} {T : List Nat} {w w' : World} {g t : Nat} {cs : Array Value} (h : Tf base T w w') (hg : w.heap[g]? = some (.cells cs t (0, 0))) (ht : t ≠ 43) (hs : g ∉ T) : w'.heap[g]? = some (.cells cs t (0, 0)) := by
  rcases h.block g (blk_lt hg) hs with e | ⟨_, cells, hc⟩
  · exact e.trans hg
  · rw [hg] at hc
    injection hc with hc
    injection hc with _ hc
    exact absurd hc ht
set_option maxRecDepth 20000 in
set_option maxHeartbeats 8000000 in
theorem fate_mute (h : Nt S w n gp cap q ps [] num sent ticks) (hT : Ts T S n gp ps) {tt : Nat} {p : Pr} (hp : ps[tt]? = some p) (hoth : ∀ (i : Nat) (r : Pr), ps[i]? = some r → i ≠ tt → r.o = .slice none 0 0) {base : Nat} (hbs : base ≤ w.heap.size) (hM : Mute base w p.o) :
    Calls Try.prog 35 #[.pointer (some ⟨n, 0, none⟩), .pointer (some ⟨gp, 4 * tt, none⟩)] w fun e w' => ∃ u, e = .returned (.agg #[.int .i64 1, .slice none 0 0]) ∧ Mute base w' u ∧ Nt S w' n gp cap q (ps.set tt { p with o := u }) [] num sent ticks ∧ Tf base T w w' := by
  obtain ⟨go, off, co, cur, e1, e2, e3, e4, e5, e6⟩ := hM.form
  have hcell : w.cell? ⟨gp, 4 * tt + 1, none⟩ = some (.slice (some ⟨go, off, none⟩) 1 co) := h.cell hp 1 _ (by rw [← e1]; rfl)
  have d0 : w.cell? ⟨go, off, none⟩ = some (.int .i64 1) := (blk_cell e3 off).trans e5
  have d1 : w.cell? ⟨go, off + 1, none⟩ = some (.slice none 0 0) := (blk_cell e3 (off + 1)).trans e6
  have hal := blk_lt e3
  have hgl : gp < w.heap.size := h.lt gp h.mem.2.1
  have hne2 : (w.heap.size == gp) = false := beq_eq_false_iff_ne.2 (by omega)
  have hne3 : (w.heap.size == go) = false := beq_eq_false_iff_ne.2 (by omega)
  have HH := Aside0.mk h
  have HM := Aside0.mk hM
  have HOT := Aside0.mk hoth
  have B0 := Aside0.mk (below_alloc (below_alloc (Below.refl w.heap.size w) (.cells #[.int .i64 0, .slice none 0 0] 43)) (.cells #[.int .i64 1, .slice none 0 0] 43))
  have K0 := Aside0.mk (blk_alloc (blk_new w (.cells #[.int .i64 0, .slice none 0 0] 43)) (.cells #[.int .i64 1, .slice none 0 0] 43))
  have hs1 := alloc_size w (.cells #[.int .i64 0, .slice none 0 0] 43)
  have K1 := Aside0.mk (hs1 ▸ blk_new (w.alloc (.cells #[.int .i64 0, .slice none 0 0] 43)) (.cells #[.int .i64 1, .slice none 0 0] 43))
  clear h hM e3 e5 e6 hoth hs1
  go_enter Try.func35, Try.ntmps35
  go_wp2_with fail
  generalize (w.alloc (.cells #[.int .i64 0, .slice none 0 0] 43)).alloc (.cells #[.int .i64 1, .slice none 0 0] 43) = w2 at B0 K0 K1 ⊢
  have hs0 : ∃ s0, s0 = w.heap.size := ⟨_, rfl⟩
  obtain ⟨s0, hs0⟩ := hs0
  have hQlt := Kd.Q_lt HM.out
  have hQ1 : Kd.Q kV 43 w base (fun k => k ≠ w.heap.size) p.o [(1, ())] := Kd.Q_mono (Kd.Q_bound HM.out) (fun k hk e => by have := hk.2.2.1; omega)
  have N3 := Aside0.mk ((HH.out.kept B0.out).kept (below_drew (Below.refl _ _)))
  have B3 := Aside0.mk (below_drew B0.out)
  have KR3 := Aside0.mk (blk_drew K0.out)
  have KP3 := blk_drew K1.out
  have hQ3 := Kd.Q_below hQ1 B3.out
  rw [e1] at hQ3
  have hQ4 := Aside0.mk (Kd.Q_drop (k := 1) hQ3 (Nat.le_refl 1))
  have hgoT : ∃ cells, w2.drew.heap[go]? = some (.cells cells 43 (0, 0)) := by
    obtain ⟨g', o', c', cu', f1, _, f3, _⟩ := Mute.form (show Mute base w2.drew p.o from Kd.Q_below HM.out B3.out)
    rw [e1] at f1
    injection f1 with f1 _ _
    injection f1 with f1
    injection f1 with f1 _ _
    subst f1
    exact ⟨cu', f3⟩
  have hgob : base ≤ go := Kd.Q_base HM.out go (by rw [e1]; rfl)
  have hgor := Aside0.mk hgoT
  have hl3 : w.heap.size + 1 < w2.drew.heap.size := blk_lt KP3
  clear hQ1 hQ3 K0 K1 B0 hgoT hQlt HM
  refine wp_region_noPanic ?_
  refine wp_region_held_drew (S := fun W => W.heap[w.heap.size + 1]? = some (.cells #[.int .i64 1, .slice none 0 0] 43 (0, 0))) (by kernel_rfl) (KP3) (fun hHeld => ?_)
  generalize w2.drew = w3 at N3 B3 KR3 KP3 hQ4 hgor hl3 hHeld ⊢
  have g3 : w3.cell? ⟨gp, 4 * tt + 1, none⟩ = some (.slice (some ⟨go, off, none⟩) 1 co) := N3.out.cell hp 1 _ (by rw [← e1]; rfl)
  have zg3 := N3.out.frozen (4 * tt + 1)
  clear KP3 hcell d0 d1
  by_cases hco : co = 1
  · subst hco
    have hQ5 := Aside0.mk (show Kd.Q kV 43 w3 base (fun k => k ≠ w.heap.size) (.slice (some ⟨go, off, none⟩) 0 0) [] from by have h := hQ4.out; rw [if_pos rfl] at h; exact h)
    refine wpAnyH_take (i := 0) (oi := { dst := some 19, op := _, type := _, pos := _, after := _, guard := _ }) (v := ?_) rfl (by kernel_rfl) (by kernel_rfl) (by kernel_rfl) (fun _ _ _ h => h) (Or.inl ⟨by rfl, ?_⟩) hHeld ?_
    rotate_left
    · (intro w hSw; go_simp) <;> (with_reducible rfl)
    try simp only [Act.put, List.setIfInBounds_toArray, List.set_cons_zero, List.set_cons_succ]
    refine wpAnyH_take (i := 1) (oi := { dst := some 20, op := _, type := _, pos := _, after := _, guard := _ }) (v := ?_) rfl (by kernel_rfl) (by kernel_rfl) (by kernel_rfl) (fun _ _ _ h => h) (Or.inl ⟨by rfl, ?_⟩) hHeld ?_
    rotate_left
    · (intro w hSw; go_simp) <;> (with_reducible rfl)
    try simp only [Act.put, List.setIfInBounds_toArray, List.set_cons_zero, List.set_cons_succ]
    refine wpAnyH_take (i := 2) (oi := { dst := some 21, op := _, type := _, pos := _, after := _, guard := _ }) (v := ?_) rfl (by kernel_rfl) (by kernel_rfl) (by kernel_rfl) (fun _ _ _ h => h) (Or.inl ⟨by rfl, ?_⟩) hHeld ?_
    rotate_left
    · (intro w hSw; go_simp) <;> (with_reducible rfl)
    try simp only [Act.put, List.setIfInBounds_toArray, List.set_cons_zero, List.set_cons_succ]
    refine wpAnyH_take (i := 3) (oi := { dst := some 22, op := _, type := _, pos := _, after := _, guard := _ }) (v := ?_) rfl (by kernel_rfl) (by kernel_rfl) (by kernel_rfl) (fun _ _ _ h => h) (Or.inl ⟨by rfl, ?_⟩) hHeld ?_
    rotate_left
    · (intro w hSw; go_simp) <;> (with_reducible rfl)
    try simp only [Act.put, List.setIfInBounds_toArray, List.set_cons_zero, List.set_cons_succ]
    refine wpAnyH_take (i := 6) (oi := { dst := some 25, op := _, type := _, pos := _, after := _, guard := _ }) (v := ?_) rfl (by kernel_rfl) (by kernel_rfl) (by kernel_rfl) (fun _ _ _ h => h) (Or.inl ⟨by rfl, ?_⟩) hHeld ?_
    rotate_left
    · (intro w hSw; have h0 : w.cell? ⟨_, 0, none⟩ = some (.int .i64 1) := (blk_cell hSw 0).trans rfl; have h1 : w.cell? ⟨_, 1, none⟩ = some (.slice none 0 0) := (blk_cell hSw 1).trans rfl; go_simp) <;> (with_reducible rfl)
    try simp only [Act.put, List.setIfInBounds_toArray, List.set_cons_zero, List.set_cons_succ]
    refine wpAnyH_ready (rs := [4, 7]) (by kernel_rfl) (by simp) (AllReadyH.cons (o := { dst := some 23, op := _, type := _, pos := _, after := _, guard := _ }) rfl (fun K hK => ?_) (AllReadyH.cons (o := { dst := some 26, op := _, type := _, pos := _, after := _, guard := _ }) rfl (fun K hK => ?_) AllReadyH.nil))
    · go_simp
      refine hK.out _ _ (hHeld) (fun hHeld2 => ?_)
      clear hK K hHeld
      have hHeld := hHeld2
      clear hHeld2
      try simp only [Act.put, List.setIfInBounds_toArray, List.set_cons_zero, List.set_cons_succ]
      refine wpAnyH_take (i := 5) (oi := { dst := some 24, op := _, type := _, pos := _, after := _, guard := _ }) (v := ?_) rfl (by kernel_rfl) (by kernel_rfl) (by kernel_rfl) (fun _ _ _ h => h) (Or.inl ⟨by rfl, ?_⟩) hHeld ?_
      rotate_left
      · (intro w hSw; go_simp) <;> (with_reducible rfl)
      try simp only [Act.put, List.setIfInBounds_toArray, List.set_cons_zero, List.set_cons_succ]
      refine wpAnyH_ready (rs := [7]) (by kernel_rfl) (by simp) (AllReadyH.cons (o := { dst := some 26, op := _, type := _, pos := _, after := _, guard := _ }) rfl (fun K hK => ?_) AllReadyH.nil)
      go_simp
      refine hK.out _ _ (blk_alloc hHeld _) (fun hHeld2 => ?_)
      clear hK K
      have hHeldA := hHeld2
      clear hHeld2
      try simp only [Act.put, List.setIfInBounds_toArray, List.set_cons_zero, List.set_cons_succ]
      refine wpAnyH_ready (rs := [8]) (by kernel_rfl) (by simp) (AllReadyH.cons (o := { dst := some 27, op := _, type := _, pos := _, after := _, guard := _ }) rfl (fun K hK => ?_) AllReadyH.nil)
      refine Kd.Q_append_step kV (w0 := w3) base rfl (.tmp 24) (.tmp 26) 22 43 (.agg #[.int .i64 0, .slice none 0 0]) 32 rfl Try.underlying22 infoV rfl (by decide) (by omega) (Value.slice (some ⟨go, off, none⟩) 0 0) [] (1, ()) [.int .i64 1, .slice none 0 0] (fun k => k ≠ w.heap.size) (fun _ => False) rfl rfl (kV_mk _ _ _ _) (fun _ h => h.elim) (fun k hk => by omega) hQ5.out (Below.refl _ _) (Nat.le_trans hbs B3.out.size) (by simp) ?_
      intro v7 w7 ho7 hb7 hg7 hat7
      rw [List.nil_append] at ho7
      obtain ⟨A7, c7, rfl, _⟩ := Kd.Q_slice ho7
      have hpne : some (w.heap.size + 1) ≠ (Value.slice (some ⟨go, off, none⟩) 0 0).ownBlock := by simp only [Value.ownBlock]; intro e; injection e; omega
      have hrne : some w.heap.size ≠ (Value.slice (some ⟨go, off, none⟩) 0 0).ownBlock := by simp only [Value.ownBlock]; intro e; injection e; omega
      have hP7 := blk_grown hHeld hg7 hpne
      refine hK.out _ _ hP7 (fun hHeld2 => ?_)
      clear hK K hHeldA hHeld
      have hHeld := hHeld2
      clear hHeld2
      try simp only [Act.put, List.setIfInBounds_toArray, List.set_cons_zero, List.set_cons_succ]
      have hR7 := blk_grown KR3.out hg7 hrne
      have hty : ∀ k, (Value.slice (some ⟨go, off, none⟩) 0 0).ownBlock = some k → ∃ cells, w3.heap[k]? = some (.cells cells 43 (0, 0)) := fun k e => by simp only [Value.ownBlock] at e; injection e with e; subst e; exact hgor.out
      have hgpne : some gp ≠ (Value.slice (some ⟨go, off, none⟩) 0 0).ownBlock := fun e => by
        obtain ⟨cells, hc⟩ := hty gp e.symm
        obtain ⟨pc, p1, _⟩ := N3.out.row
        rw [hc] at p1
        injection p1 with p1
        injection p1 with _ p1
        exact absurd p1 (by decide)
      have gc7 : w7.cell? ⟨gp, 4 * tt + 1, none⟩ = some (.slice (some ⟨go, off, none⟩) 1 1) := by
        obtain ⟨pc, p1, p2⟩ := N3.out.row
        exact (blk_cell (blk_grown p1 hg7 hgpne) _).trans (p2 tt p hp 1 _ (by rw [← e1]; rfl))
      have gz7 : w7.frozen? ⟨gp, 4 * tt + 1, none⟩ = false := by
        obtain ⟨pc, p1, p2⟩ := N3.out.row
        exact blk_frozen (blk_grown p1 hg7 hgpne) _
      have hpg : w.heap.size + 1 ≠ gp := by omega
      have hrg : w.heap.size ≠ gp := by omega
      have HO7 := Aside0.mk ho7
      have hgp7 : w7.heap[gp]? = w3.heap[gp]? := hg7.block gp (by omega) hgpne
      refine wpAnyH_take (i := 9) (oi := { dst := some 28, op := _, type := _, pos := _, after := _, guard := _ }) (v := ?_) rfl (by kernel_rfl) (by kernel_rfl) (by kernel_rfl) (fun _ _ _ h => h) (Or.inl ⟨by rfl, ?_⟩) hHeld ?_
      rotate_left
      · (intro w hSw; go_simp) <;> (with_reducible rfl)
      try simp only [Act.put, List.setIfInBounds_toArray, List.set_cons_zero, List.set_cons_succ]
      refine wpAnyH_take (i := 10) (oi := { dst := some 29, op := _, type := _, pos := _, after := _, guard := _ }) (v := ?_) rfl (by kernel_rfl) (by kernel_rfl) (by kernel_rfl) (fun _ _ _ h => h) (Or.inl ⟨by rfl, ?_⟩) hHeld ?_
      rotate_left
      · (intro w hSw; go_simp) <;> (with_reducible rfl)
      try simp only [Act.put, List.setIfInBounds_toArray, List.set_cons_zero, List.set_cons_succ]
      refine wpAnyH_ready (rs := [11]) (by kernel_rfl) (by simp) (AllReadyH.cons (o := { dst := none, op := _, type := _, pos := _, after := _, guard := _ }) rfl (fun K hK => ?_) AllReadyH.nil)
      go_simp
      refine hK.out _ _ (blk_far (p := ⟨gp, 4 * tt + 1, none⟩) hHeld hpg _) (fun hHeld2 => ?_)
      clear hK K hHeld
      have hHeld := hHeld2
      clear hHeld2
      try simp only [Act.put, List.setIfInBounds_toArray, List.set_cons_zero, List.set_cons_succ]
      refine wpAnyH_done (by kernel_rfl) ?_ _
      refine NoPanic.normal ?_
      have HP8 := Aside0.mk hHeld
      have HR8 := Aside0.mk (blk_far (p := ⟨gp, 4 * tt + 1, none⟩) hR7 hrg (.slice A7 1 c7))
      obtain ⟨pc, p1, p2⟩ := N3.out.row
      have hQ8 := Kd.Q_set HO7.out (hgp7.trans p1) (by decide) (4 * tt + 1) (.slice A7 1 c7)
      have N8 := Aside0.mk (N3.out.setO hp HOT.out hg7 hty (.slice A7 1 c7) (Mute.own (Kd.Q_mono hQ8 (fun _ _ => trivial))))
      have T8 := Aside0.mk (((Tf.of (base := base) (Tn.of_below (S := T) B3.out)).trans (Tf.row hg7 (fun k e => ⟨by simp only [Value.ownBlock] at e; injection e with e; omega, hty k e⟩))).trans (Tf.of (Tn.of_set w7 hT.gp (4 * tt + 1) (.slice A7 1 c7))))
      have HQ8 := Aside0.mk hQ8
      generalize w7.setCell ⟨gp, 4 * tt + 1, none⟩ (.slice A7 1 c7) = w8 at HP8 HR8 HQ8 N8 T8 ⊢
      clear gc7 gz7 hHeld hR7 hty hgpne hgp7 p1 p2 ho7 hg7 hb7 hat7 hQ8 hP7 hpne hrne g3 zg3 HO7
      have y0 : w8.cell? ⟨w.heap.size + 1, 0, none⟩ = some (.int .i64 1) := (blk_cell HP8.out 0).trans rfl
      have y1 : w8.cell? ⟨w.heap.size + 1, 1, none⟩ = some (.slice none 0 0) := (blk_cell HP8.out 1).trans rfl
      have r0 : w8.cell? ⟨w.heap.size, 0, none⟩ = some (.int .i64 0) := (blk_cell HR8.out 0).trans rfl
      have r1 : w8.cell? ⟨w.heap.size, 1, none⟩ = some (.slice none 0 0) := (blk_cell HR8.out 1).trans rfl
      have z0 := blk_frozen HR8.out 0
      have z1 := blk_frozen HR8.out 1
      go_wp2_with fail
      have hR9 := blk_put (blk_put HR8.out 0 (.int .i64 1) rfl) 1 (.slice none 0 0) rfl
      refine bodyPost_ret (results_cell_row rfl _ _ w.heap.size 43 _ (0, 0) _ rfl hR9 Try.underlying43 rfl (by kernel_rfl)) rfl ?_
      have hwS : w.heap.size ∉ S := fun hm => by have := HH.out.lt _ hm; omega
      have hQ9 : Mute base ((w8.setCell ⟨w.heap.size, 0, none⟩ (.int .i64 1)).setCell ⟨w.heap.size, 1, none⟩ (.slice none 0 0)) (.slice A7 1 c7) := Kd.Q_mono (Kd.Q_far (p := ⟨w.heap.size, 1, none⟩) (Kd.Q_far (p := ⟨w.heap.size, 0, none⟩) HQ8.out (fun k hk => hk) _) (fun k hk => hk) _) (fun _ _ => trivial)
      have hTn : Tn [w.heap.size] w8 ((w8.setCell ⟨w.heap.size, 0, none⟩ (.int .i64 1)).setCell ⟨w.heap.size, 1, none⟩ (.slice none 0 0)) := (Tn.of_set w8 (by simp) 0 _).trans (Tn.of_set _ (by simp) 1 _)
      have hdis : ∀ k ∈ S, k ∉ [w.heap.size] := fun k hk hm => by
        have e : k = w.heap.size := by simpa using hm
        exact hwS (e ▸ hk)
      refine ⟨rfl, .slice A7 1 c7, hQ9, N8.out.apartS hTn hdis (fun r hr => ((N8.out.prov r hr).set HR8.out (by decide) (by decide) 0 _).set (blk_put HR8.out 0 (.int .i64 1) rfl) (by decide) (by decide) 1 _) (fun r hr => ?_) rfl, T8.out.trans ⟨hTn.os, hTn.tape, hTn.output, hTn.size, fun k hk hm => ?_⟩⟩
      · obtain ⟨i, hi⟩ := List.getElem?_of_mem hr
        rw [List.getElem?_set] at hi
        by_cases hit : tt = i
        · rw [if_pos hit] at hi
          split at hi
          · injection hi with hi
            rw [← hi]
            exact hQ9.own
          · cases hi
        · rw [if_neg hit] at hi
          exact .inl (HOT.out i r hi (fun e => hit e.symm))
      · by_cases hkw : k = w.heap.size
        · rw [hkw]
          exact .inr ⟨hbs, _, HR8.out⟩
        · exact .inl (hTn.block k hk (by simpa using hkw))
    · go_simp
      refine hK.out _ _ (blk_alloc hHeld _) (fun hHeld2 => ?_)
      clear hK K
      have hHeldA := hHeld2
      clear hHeld2
      try simp only [Act.put, List.setIfInBounds_toArray, List.set_cons_zero, List.set_cons_succ]
      have gA : (w3.alloc (.cells #[.int .i64 1, .slice none 0 0] 43)).cell? ⟨gp, 4 * tt + 1, none⟩ = some (.slice (some ⟨go, off, none⟩) 1 1) := (N3.out.kept (below_alloc (Below.refl _ _) _)).cell hp 1 _ (by rw [← e1]; rfl)
      refine wpAnyH_ready (rs := [4]) (by kernel_rfl) (by simp) (AllReadyH.cons (o := { dst := some 23, op := _, type := _, pos := _, after := _, guard := _ }) rfl (fun K hK => ?_) AllReadyH.nil)
      go_simp
      refine hK.out _ _ (hHeldA) (fun hHeld2 => ?_)
      clear hK K hHeldA
      have hHeldA := hHeld2
      clear hHeld2 gA
      try simp only [Act.put, List.setIfInBounds_toArray, List.set_cons_zero, List.set_cons_succ]
      refine wpAnyH_take (i := 5) (oi := { dst := some 24, op := _, type := _, pos := _, after := _, guard := _ }) (v := ?_) rfl (by kernel_rfl) (by kernel_rfl) (by kernel_rfl) (fun _ _ _ h => h) (Or.inl ⟨by rfl, ?_⟩) hHeldA ?_
      rotate_left
      · (intro w hSw; go_simp) <;> (with_reducible rfl)
      try simp only [Act.put, List.setIfInBounds_toArray, List.set_cons_zero, List.set_cons_succ]
      refine wpAnyH_ready (rs := [8]) (by kernel_rfl) (by simp) (AllReadyH.cons (o := { dst := some 27, op := _, type := _, pos := _, after := _, guard := _ }) rfl (fun K hK => ?_) AllReadyH.nil)
      refine Kd.Q_append_step kV (w0 := w3) base rfl (.tmp 24) (.tmp 26) 22 43 (.agg #[.int .i64 0, .slice none 0 0]) 32 rfl Try.underlying22 infoV rfl (by decide) (by omega) (Value.slice (some ⟨go, off, none⟩) 0 0) [] (1, ()) [.int .i64 1, .slice none 0 0] (fun k => k ≠ w.heap.size) (fun _ => False) rfl rfl (kV_mk _ _ _ _) (fun _ h => h.elim) (fun k hk => by omega) hQ5.out (Below.refl _ _) (Nat.le_trans hbs B3.out.size) (by simp) ?_
      intro v7 w7 ho7 hb7 hg7 hat7
      rw [List.nil_append] at ho7
      obtain ⟨A7, c7, rfl, _⟩ := Kd.Q_slice ho7
      have hpne : some (w.heap.size + 1) ≠ (Value.slice (some ⟨go, off, none⟩) 0 0).ownBlock := by simp only [Value.ownBlock]; intro e; injection e; omega
      have hrne : some w.heap.size ≠ (Value.slice (some ⟨go, off, none⟩) 0 0).ownBlock := by simp only [Value.ownBlock]; intro e; injection e; omega
      have hP7 := blk_grown hHeld hg7 hpne
      refine hK.out _ _ hP7 (fun hHeld2 => ?_)
      clear hK K hHeldA hHeld
      have hHeld := hHeld2
      clear hHeld2
      try simp only [Act.put, List.setIfInBounds_toArray, List.set_cons_zero, List.set_cons_succ]
      have hR7 := blk_grown KR3.out hg7 hrne
      have hty : ∀ k, (Value.slice (some ⟨go, off, none⟩) 0 0).ownBlock = some k → ∃ cells, w3.heap[k]? = some (.cells cells 43 (0, 0)) := fun k e => by simp only [Value.ownBlock] at e; injection e with e; subst e; exact hgor.out
      have hgpne : some gp ≠ (Value.slice (some ⟨go, off, none⟩) 0 0).ownBlock := fun e => by
        obtain ⟨cells, hc⟩ := hty gp e.symm
        obtain ⟨pc, p1, _⟩ := N3.out.row
        rw [hc] at p1
        injection p1 with p1
        injection p1 with _ p1
        exact absurd p1 (by decide)
      have gc7 : w7.cell? ⟨gp, 4 * tt + 1, none⟩ = some (.slice (some ⟨go, off, none⟩) 1 1) := by
        obtain ⟨pc, p1, p2⟩ := N3.out.row
        exact (blk_cell (blk_grown p1 hg7 hgpne) _).trans (p2 tt p hp 1 _ (by rw [← e1]; rfl))
      have gz7 : w7.frozen? ⟨gp, 4 * tt + 1, none⟩ = false := by
        obtain ⟨pc, p1, p2⟩ := N3.out.row
        exact blk_frozen (blk_grown p1 hg7 hgpne) _
      have hpg : w.heap.size + 1 ≠ gp := by omega
      have hrg : w.heap.size ≠ gp := by omega
      have HO7 := Aside0.mk ho7
      have hgp7 : w7.heap[gp]? = w3.heap[gp]? := hg7.block gp (by omega) hgpne
      refine wpAnyH_take (i := 9) (oi := { dst := some 28, op := _, type := _, pos := _, after := _, guard := _ }) (v := ?_) rfl (by kernel_rfl) (by kernel_rfl) (by kernel_rfl) (fun _ _ _ h => h) (Or.inl ⟨by rfl, ?_⟩) hHeld ?_
      rotate_left
      · (intro w hSw; go_simp) <;> (with_reducible rfl)
      try simp only [Act.put, List.setIfInBounds_toArray, List.set_cons_zero, List.set_cons_succ]
      refine wpAnyH_take (i := 10) (oi := { dst := some 29, op := _, type := _, pos := _, after := _, guard := _ }) (v := ?_) rfl (by kernel_rfl) (by kernel_rfl) (by kernel_rfl) (fun _ _ _ h => h) (Or.inl ⟨by rfl, ?_⟩) hHeld ?_
      rotate_left
      · (intro w hSw; go_simp) <;> (with_reducible rfl)
      try simp only [Act.put, List.setIfInBounds_toArray, List.set_cons_zero, List.set_cons_succ]
      refine wpAnyH_ready (rs := [11]) (by kernel_rfl) (by simp) (AllReadyH.cons (o := { dst := none, op := _, type := _, pos := _, after := _, guard := _ }) rfl (fun K hK => ?_) AllReadyH.nil)
      go_simp
      refine hK.out _ _ (blk_far (p := ⟨gp, 4 * tt + 1, none⟩) hHeld hpg _) (fun hHeld2 => ?_)
      clear hK K hHeld
      have hHeld := hHeld2
      clear hHeld2
      try simp only [Act.put, List.setIfInBounds_toArray, List.set_cons_zero, List.set_cons_succ]
      refine wpAnyH_done (by kernel_rfl) ?_ _
      refine NoPanic.normal ?_
      have HP8 := Aside0.mk hHeld
      have HR8 := Aside0.mk (blk_far (p := ⟨gp, 4 * tt + 1, none⟩) hR7 hrg (.slice A7 1 c7))
      obtain ⟨pc, p1, p2⟩ := N3.out.row
      have hQ8 := Kd.Q_set HO7.out (hgp7.trans p1) (by decide) (4 * tt + 1) (.slice A7 1 c7)
      have N8 := Aside0.mk (N3.out.setO hp HOT.out hg7 hty (.slice A7 1 c7) (Mute.own (Kd.Q_mono hQ8 (fun _ _ => trivial))))
      have T8 := Aside0.mk (((Tf.of (base := base) (Tn.of_below (S := T) B3.out)).trans (Tf.row hg7 (fun k e => ⟨by simp only [Value.ownBlock] at e; injection e with e; omega, hty k e⟩))).trans (Tf.of (Tn.of_set w7 hT.gp (4 * tt + 1) (.slice A7 1 c7))))
      have HQ8 := Aside0.mk hQ8
      generalize w7.setCell ⟨gp, 4 * tt + 1, none⟩ (.slice A7 1 c7) = w8 at HP8 HR8 HQ8 N8 T8 ⊢
      clear gc7 gz7 hHeld hR7 hty hgpne hgp7 p1 p2 ho7 hg7 hb7 hat7 hQ8 hP7 hpne hrne g3 zg3 HO7
      have y0 : w8.cell? ⟨w.heap.size + 1, 0, none⟩ = some (.int .i64 1) := (blk_cell HP8.out 0).trans rfl
      have y1 : w8.cell? ⟨w.heap.size + 1, 1, none⟩ = some (.slice none 0 0) := (blk_cell HP8.out 1).trans rfl
      have r0 : w8.cell? ⟨w.heap.size, 0, none⟩ = some (.int .i64 0) := (blk_cell HR8.out 0).trans rfl
      have r1 : w8.cell? ⟨w.heap.size, 1, none⟩ = some (.slice none 0 0) := (blk_cell HR8.out 1).trans rfl
      have z0 := blk_frozen HR8.out 0
      have z1 := blk_frozen HR8.out 1
      go_wp2_with fail
      have hR9 := blk_put (blk_put HR8.out 0 (.int .i64 1) rfl) 1 (.slice none 0 0) rfl
      refine bodyPost_ret (results_cell_row rfl _ _ w.heap.size 43 _ (0, 0) _ rfl hR9 Try.underlying43 rfl (by kernel_rfl)) rfl ?_
      have hwS : w.heap.size ∉ S := fun hm => by have := HH.out.lt _ hm; omega
      have hQ9 : Mute base ((w8.setCell ⟨w.heap.size, 0, none⟩ (.int .i64 1)).setCell ⟨w.heap.size, 1, none⟩ (.slice none 0 0)) (.slice A7 1 c7) := Kd.Q_mono (Kd.Q_far (p := ⟨w.heap.size, 1, none⟩) (Kd.Q_far (p := ⟨w.heap.size, 0, none⟩) HQ8.out (fun k hk => hk) _) (fun k hk => hk) _) (fun _ _ => trivial)
      have hTn : Tn [w.heap.size] w8 ((w8.setCell ⟨w.heap.size, 0, none⟩ (.int .i64 1)).setCell ⟨w.heap.size, 1, none⟩ (.slice none 0 0)) := (Tn.of_set w8 (by simp) 0 _).trans (Tn.of_set _ (by simp) 1 _)
      have hdis : ∀ k ∈ S, k ∉ [w.heap.size] := fun k hk hm => by
        have e : k = w.heap.size := by simpa using hm
        exact hwS (e ▸ hk)
      refine ⟨rfl, .slice A7 1 c7, hQ9, N8.out.apartS hTn hdis (fun r hr => ((N8.out.prov r hr).set HR8.out (by decide) (by decide) 0 _).set (blk_put HR8.out 0 (.int .i64 1) rfl) (by decide) (by decide) 1 _) (fun r hr => ?_) rfl, T8.out.trans ⟨hTn.os, hTn.tape, hTn.output, hTn.size, fun k hk hm => ?_⟩⟩
      · obtain ⟨i, hi⟩ := List.getElem?_of_mem hr
        rw [List.getElem?_set] at hi
        by_cases hit : tt = i
        · rw [if_pos hit] at hi
          split at hi
          · injection hi with hi
            rw [← hi]
            exact hQ9.own
          · cases hi
        · rw [if_neg hit] at hi
          exact .inl (HOT.out i r hi (fun e => hit e.symm))
      · by_cases hkw : k = w.heap.size
        · rw [hkw]
          exact .inr ⟨hbs, _, HR8.out⟩
        · exact .inl (hTn.block k hk (by simpa using hkw))
  · have hQ5 := Aside0.mk (show Kd.Q kV 43 w3 base (fun k => k ≠ w.heap.size) (.slice (some ⟨go, off + 2, none⟩) 0 (co - 1)) [] from by have h := hQ4.out; rw [if_neg hco] at h; exact h)
    refine wpAnyH_take (i := 0) (oi := { dst := some 19, op := _, type := _, pos := _, after := _, guard := _ }) (v := ?_) rfl (by kernel_rfl) (by kernel_rfl) (by kernel_rfl) (fun _ _ _ h => h) (Or.inl ⟨by rfl, ?_⟩) hHeld ?_
    rotate_left
    · (intro w hSw; go_simp) <;> (with_reducible rfl)
    try simp only [Act.put, List.setIfInBounds_toArray, List.set_cons_zero, List.set_cons_succ]
    refine wpAnyH_take (i := 1) (oi := { dst := some 20, op := _, type := _, pos := _, after := _, guard := _ }) (v := ?_) rfl (by kernel_rfl) (by kernel_rfl) (by kernel_rfl) (fun _ _ _ h => h) (Or.inl ⟨by rfl, ?_⟩) hHeld ?_
    rotate_left
    · (intro w hSw; go_simp) <;> (with_reducible rfl)
    try simp only [Act.put, List.setIfInBounds_toArray, List.set_cons_zero, List.set_cons_succ]
    refine wpAnyH_take (i := 2) (oi := { dst := some 21, op := _, type := _, pos := _, after := _, guard := _ }) (v := ?_) rfl (by kernel_rfl) (by kernel_rfl) (by kernel_rfl) (fun _ _ _ h => h) (Or.inl ⟨by rfl, ?_⟩) hHeld ?_
    rotate_left
    · (intro w hSw; go_simp) <;> (with_reducible rfl)
    try simp only [Act.put, List.setIfInBounds_toArray, List.set_cons_zero, List.set_cons_succ]
    refine wpAnyH_take (i := 3) (oi := { dst := some 22, op := _, type := _, pos := _, after := _, guard := _ }) (v := ?_) rfl (by kernel_rfl) (by kernel_rfl) (by kernel_rfl) (fun _ _ _ h => h) (Or.inl ⟨by rfl, ?_⟩) hHeld ?_
    rotate_left
    · (intro w hSw; go_simp) <;> (with_reducible rfl)
    try simp only [Act.put, List.setIfInBounds_toArray, List.set_cons_zero, List.set_cons_succ]
    refine wpAnyH_take (i := 6) (oi := { dst := some 25, op := _, type := _, pos := _, after := _, guard := _ }) (v := ?_) rfl (by kernel_rfl) (by kernel_rfl) (by kernel_rfl) (fun _ _ _ h => h) (Or.inl ⟨by rfl, ?_⟩) hHeld ?_
    rotate_left
    · (intro w hSw; have h0 : w.cell? ⟨_, 0, none⟩ = some (.int .i64 1) := (blk_cell hSw 0).trans rfl; have h1 : w.cell? ⟨_, 1, none⟩ = some (.slice none 0 0) := (blk_cell hSw 1).trans rfl; go_simp) <;> (with_reducible rfl)
    try simp only [Act.put, List.setIfInBounds_toArray, List.set_cons_zero, List.set_cons_succ]
    refine wpAnyH_ready (rs := [4, 7]) (by kernel_rfl) (by simp) (AllReadyH.cons (o := { dst := some 23, op := _, type := _, pos := _, after := _, guard := _ }) rfl (fun K hK => ?_) (AllReadyH.cons (o := { dst := some 26, op := _, type := _, pos := _, after := _, guard := _ }) rfl (fun K hK => ?_) AllReadyH.nil))
    · go_simp
      refine hK.out _ _ (hHeld) (fun hHeld2 => ?_)
      clear hK K hHeld
      have hHeld := hHeld2
      clear hHeld2
      try simp only [Act.put, List.setIfInBounds_toArray, List.set_cons_zero, List.set_cons_succ]
      refine wpAnyH_take (i := 5) (oi := { dst := some 24, op := _, type := _, pos := _, after := _, guard := _ }) (v := ?_) rfl (by kernel_rfl) (by kernel_rfl) (by kernel_rfl) (fun _ _ _ h => h) (Or.inl ⟨by rfl, ?_⟩) hHeld ?_
      rotate_left
      · (intro w hSw; go_simp) <;> (with_reducible rfl)
      try simp only [Act.put, List.setIfInBounds_toArray, List.set_cons_zero, List.set_cons_succ]
      refine wpAnyH_ready (rs := [7]) (by kernel_rfl) (by simp) (AllReadyH.cons (o := { dst := some 26, op := _, type := _, pos := _, after := _, guard := _ }) rfl (fun K hK => ?_) AllReadyH.nil)
      go_simp
      refine hK.out _ _ (blk_alloc hHeld _) (fun hHeld2 => ?_)
      clear hK K
      have hHeldA := hHeld2
      clear hHeld2
      try simp only [Act.put, List.setIfInBounds_toArray, List.set_cons_zero, List.set_cons_succ]
      refine wpAnyH_ready (rs := [8]) (by kernel_rfl) (by simp) (AllReadyH.cons (o := { dst := some 27, op := _, type := _, pos := _, after := _, guard := _ }) rfl (fun K hK => ?_) AllReadyH.nil)
      refine Kd.Q_append_step kV (w0 := w3) base rfl (.tmp 24) (.tmp 26) 22 43 (.agg #[.int .i64 0, .slice none 0 0]) 32 rfl Try.underlying22 infoV rfl (by decide) (by omega) (Value.slice (some ⟨go, off + 2, none⟩) 0 (co - 1)) [] (1, ()) [.int .i64 1, .slice none 0 0] (fun k => k ≠ w.heap.size) (fun _ => False) rfl rfl (kV_mk _ _ _ _) (fun _ h => h.elim) (fun k hk => by omega) hQ5.out (Below.refl _ _) (Nat.le_trans hbs B3.out.size) (by simp) ?_
      intro v7 w7 ho7 hb7 hg7 hat7
      rw [List.nil_append] at ho7
      obtain ⟨A7, c7, rfl, _⟩ := Kd.Q_slice ho7
      have hpne : some (w.heap.size + 1) ≠ (Value.slice (some ⟨go, off + 2, none⟩) 0 (co - 1)).ownBlock := by simp only [Value.ownBlock]; intro e; injection e; omega
      have hrne : some w.heap.size ≠ (Value.slice (some ⟨go, off + 2, none⟩) 0 (co - 1)).ownBlock := by simp only [Value.ownBlock]; intro e; injection e; omega
      have hP7 := blk_grown hHeld hg7 hpne
      refine hK.out _ _ hP7 (fun hHeld2 => ?_)
      clear hK K hHeldA hHeld
      have hHeld := hHeld2
      clear hHeld2
      try simp only [Act.put, List.setIfInBounds_toArray, List.set_cons_zero, List.set_cons_succ]
      have hR7 := blk_grown KR3.out hg7 hrne
      have hty : ∀ k, (Value.slice (some ⟨go, off + 2, none⟩) 0 (co - 1)).ownBlock = some k → ∃ cells, w3.heap[k]? = some (.cells cells 43 (0, 0)) := fun k e => by simp only [Value.ownBlock] at e; injection e with e; subst e; exact hgor.out
      have hgpne : some gp ≠ (Value.slice (some ⟨go, off + 2, none⟩) 0 (co - 1)).ownBlock := fun e => by
        obtain ⟨cells, hc⟩ := hty gp e.symm
        obtain ⟨pc, p1, _⟩ := N3.out.row
        rw [hc] at p1
        injection p1 with p1
        injection p1 with _ p1
        exact absurd p1 (by decide)
      have gc7 : w7.cell? ⟨gp, 4 * tt + 1, none⟩ = some (.slice (some ⟨go, off, none⟩) 1 co) := by
        obtain ⟨pc, p1, p2⟩ := N3.out.row
        exact (blk_cell (blk_grown p1 hg7 hgpne) _).trans (p2 tt p hp 1 _ (by rw [← e1]; rfl))
      have gz7 : w7.frozen? ⟨gp, 4 * tt + 1, none⟩ = false := by
        obtain ⟨pc, p1, p2⟩ := N3.out.row
        exact blk_frozen (blk_grown p1 hg7 hgpne) _
      have hpg : w.heap.size + 1 ≠ gp := by omega
      have hrg : w.heap.size ≠ gp := by omega
      have HO7 := Aside0.mk ho7
      have hgp7 : w7.heap[gp]? = w3.heap[gp]? := hg7.block gp (by omega) hgpne
      refine wpAnyH_take (i := 9) (oi := { dst := some 28, op := _, type := _, pos := _, after := _, guard := _ }) (v := ?_) rfl (by kernel_rfl) (by kernel_rfl) (by kernel_rfl) (fun _ _ _ h => h) (Or.inl ⟨by rfl, ?_⟩) hHeld ?_
      rotate_left
      · (intro w hSw; go_simp) <;> (with_reducible rfl)
      try simp only [Act.put, List.setIfInBounds_toArray, List.set_cons_zero, List.set_cons_succ]
      refine wpAnyH_take (i := 10) (oi := { dst := some 29, op := _, type := _, pos := _, after := _, guard := _ }) (v := ?_) rfl (by kernel_rfl) (by kernel_rfl) (by kernel_rfl) (fun _ _ _ h => h) (Or.inl ⟨by rfl, ?_⟩) hHeld ?_
      rotate_left
      · (intro w hSw; go_simp) <;> (with_reducible rfl)
      try simp only [Act.put, List.setIfInBounds_toArray, List.set_cons_zero, List.set_cons_succ]
      refine wpAnyH_ready (rs := [11]) (by kernel_rfl) (by simp) (AllReadyH.cons (o := { dst := none, op := _, type := _, pos := _, after := _, guard := _ }) rfl (fun K hK => ?_) AllReadyH.nil)
      go_simp
      refine hK.out _ _ (blk_far (p := ⟨gp, 4 * tt + 1, none⟩) hHeld hpg _) (fun hHeld2 => ?_)
      clear hK K hHeld
      have hHeld := hHeld2
      clear hHeld2
      try simp only [Act.put, List.setIfInBounds_toArray, List.set_cons_zero, List.set_cons_succ]
      refine wpAnyH_done (by kernel_rfl) ?_ _
      refine NoPanic.normal ?_
      have HP8 := Aside0.mk hHeld
      have HR8 := Aside0.mk (blk_far (p := ⟨gp, 4 * tt + 1, none⟩) hR7 hrg (.slice A7 1 c7))
      obtain ⟨pc, p1, p2⟩ := N3.out.row
      have hQ8 := Kd.Q_set HO7.out (hgp7.trans p1) (by decide) (4 * tt + 1) (.slice A7 1 c7)
      have N8 := Aside0.mk (N3.out.setO hp HOT.out hg7 hty (.slice A7 1 c7) (Mute.own (Kd.Q_mono hQ8 (fun _ _ => trivial))))
      have T8 := Aside0.mk (((Tf.of (base := base) (Tn.of_below (S := T) B3.out)).trans (Tf.row hg7 (fun k e => ⟨by simp only [Value.ownBlock] at e; injection e with e; omega, hty k e⟩))).trans (Tf.of (Tn.of_set w7 hT.gp (4 * tt + 1) (.slice A7 1 c7))))
      have HQ8 := Aside0.mk hQ8
      generalize w7.setCell ⟨gp, 4 * tt + 1, none⟩ (.slice A7 1 c7) = w8 at HP8 HR8 HQ8 N8 T8 ⊢
      clear gc7 gz7 hHeld hR7 hty hgpne hgp7 p1 p2 ho7 hg7 hb7 hat7 hQ8 hP7 hpne hrne g3 zg3 HO7
      have y0 : w8.cell? ⟨w.heap.size + 1, 0, none⟩ = some (.int .i64 1) := (blk_cell HP8.out 0).trans rfl
      have y1 : w8.cell? ⟨w.heap.size + 1, 1, none⟩ = some (.slice none 0 0) := (blk_cell HP8.out 1).trans rfl
      have r0 : w8.cell? ⟨w.heap.size, 0, none⟩ = some (.int .i64 0) := (blk_cell HR8.out 0).trans rfl
      have r1 : w8.cell? ⟨w.heap.size, 1, none⟩ = some (.slice none 0 0) := (blk_cell HR8.out 1).trans rfl
      have z0 := blk_frozen HR8.out 0
      have z1 := blk_frozen HR8.out 1
      go_wp2_with fail
      have hR9 := blk_put (blk_put HR8.out 0 (.int .i64 1) rfl) 1 (.slice none 0 0) rfl
      refine bodyPost_ret (results_cell_row rfl _ _ w.heap.size 43 _ (0, 0) _ rfl hR9 Try.underlying43 rfl (by kernel_rfl)) rfl ?_
      have hwS : w.heap.size ∉ S := fun hm => by have := HH.out.lt _ hm; omega
      have hQ9 : Mute base ((w8.setCell ⟨w.heap.size, 0, none⟩ (.int .i64 1)).setCell ⟨w.heap.size, 1, none⟩ (.slice none 0 0)) (.slice A7 1 c7) := Kd.Q_mono (Kd.Q_far (p := ⟨w.heap.size, 1, none⟩) (Kd.Q_far (p := ⟨w.heap.size, 0, none⟩) HQ8.out (fun k hk => hk) _) (fun k hk => hk) _) (fun _ _ => trivial)
      have hTn : Tn [w.heap.size] w8 ((w8.setCell ⟨w.heap.size, 0, none⟩ (.int .i64 1)).setCell ⟨w.heap.size, 1, none⟩ (.slice none 0 0)) := (Tn.of_set w8 (by simp) 0 _).trans (Tn.of_set _ (by simp) 1 _)
      have hdis : ∀ k ∈ S, k ∉ [w.heap.size] := fun k hk hm => by
        have e : k = w.heap.size := by simpa using hm
        exact hwS (e ▸ hk)
      refine ⟨.slice A7 1 c7, rfl, hQ9, N8.out.apartS hTn hdis (fun r hr => ((N8.out.prov r hr).set HR8.out (by decide) (by decide) 0 _).set (blk_put HR8.out 0 (.int .i64 1) rfl) (by decide) (by decide) 1 _) (fun r hr => ?_) rfl, T8.out.trans ⟨hTn.os, hTn.tape, hTn.output, hTn.size, fun k hk hm => ?_⟩⟩
      · obtain ⟨i, hi⟩ := List.getElem?_of_mem hr
        rw [List.getElem?_set] at hi
        by_cases hit : tt = i
        · rw [if_pos hit] at hi
          split at hi
          · injection hi with hi
            rw [← hi]
            exact hQ9.own
          · cases hi
        · rw [if_neg hit] at hi
          exact .inl (HOT.out i r hi (fun e => hit e.symm))
      · by_cases hkw : k = w.heap.size
        · rw [hkw]
          exact .inr ⟨hbs, _, HR8.out⟩
        · exact .inl (hTn.block k hk (by simpa using hkw))
    · go_simp
      refine hK.out _ _ (blk_alloc hHeld _) (fun hHeld2 => ?_)
      clear hK K
      have hHeldA := hHeld2
      clear hHeld2
      try simp only [Act.put, List.setIfInBounds_toArray, List.set_cons_zero, List.set_cons_succ]
      have gA : (w3.alloc (.cells #[.int .i64 1, .slice none 0 0] 43)).cell? ⟨gp, 4 * tt + 1, none⟩ = some (.slice (some ⟨go, off, none⟩) 1 co) := (N3.out.kept (below_alloc (Below.refl _ _) _)).cell hp 1 _ (by rw [← e1]; rfl)
      refine wpAnyH_ready (rs := [4]) (by kernel_rfl) (by simp) (AllReadyH.cons (o := { dst := some 23, op := _, type := _, pos := _, after := _, guard := _ }) rfl (fun K hK => ?_) AllReadyH.nil)
      go_simp
      refine hK.out _ _ (hHeldA) (fun hHeld2 => ?_)
      clear hK K hHeldA
      have hHeldA := hHeld2
      clear hHeld2 gA
      try simp only [Act.put, List.setIfInBounds_toArray, List.set_cons_zero, List.set_cons_succ]
      refine wpAnyH_take (i := 5) (oi := { dst := some 24, op := _, type := _, pos := _, after := _, guard := _ }) (v := ?_) rfl (by kernel_rfl) (by kernel_rfl) (by kernel_rfl) (fun _ _ _ h => h) (Or.inl ⟨by rfl, ?_⟩) hHeldA ?_
      rotate_left
      · (intro w hSw; go_simp) <;> (with_reducible rfl)
      try simp only [Act.put, List.setIfInBounds_toArray, List.set_cons_zero, List.set_cons_succ]
      refine wpAnyH_ready (rs := [8]) (by kernel_rfl) (by simp) (AllReadyH.cons (o := { dst := some 27, op := _, type := _, pos := _, after := _, guard := _ }) rfl (fun K hK => ?_) AllReadyH.nil)
      refine Kd.Q_append_step kV (w0 := w3) base rfl (.tmp 24) (.tmp 26) 22 43 (.agg #[.int .i64 0, .slice none 0 0]) 32 rfl Try.underlying22 infoV rfl (by decide) (by omega) (Value.slice (some ⟨go, off + 2, none⟩) 0 (co - 1)) [] (1, ()) [.int .i64 1, .slice none 0 0] (fun k => k ≠ w.heap.size) (fun _ => False) rfl rfl (kV_mk _ _ _ _) (fun _ h => h.elim) (fun k hk => by omega) hQ5.out (Below.refl _ _) (Nat.le_trans hbs B3.out.size) (by simp) ?_
      intro v7 w7 ho7 hb7 hg7 hat7
      rw [List.nil_append] at ho7
      obtain ⟨A7, c7, rfl, _⟩ := Kd.Q_slice ho7
      have hpne : some (w.heap.size + 1) ≠ (Value.slice (some ⟨go, off + 2, none⟩) 0 (co - 1)).ownBlock := by simp only [Value.ownBlock]; intro e; injection e; omega
      have hrne : some w.heap.size ≠ (Value.slice (some ⟨go, off + 2, none⟩) 0 (co - 1)).ownBlock := by simp only [Value.ownBlock]; intro e; injection e; omega
      have hP7 := blk_grown hHeld hg7 hpne
      refine hK.out _ _ hP7 (fun hHeld2 => ?_)
      clear hK K hHeldA hHeld
      have hHeld := hHeld2
      clear hHeld2
      try simp only [Act.put, List.setIfInBounds_toArray, List.set_cons_zero, List.set_cons_succ]
      have hR7 := blk_grown KR3.out hg7 hrne
      have hty : ∀ k, (Value.slice (some ⟨go, off + 2, none⟩) 0 (co - 1)).ownBlock = some k → ∃ cells, w3.heap[k]? = some (.cells cells 43 (0, 0)) := fun k e => by simp only [Value.ownBlock] at e; injection e with e; subst e; exact hgor.out
      have hgpne : some gp ≠ (Value.slice (some ⟨go, off + 2, none⟩) 0 (co - 1)).ownBlock := fun e => by
        obtain ⟨cells, hc⟩ := hty gp e.symm
        obtain ⟨pc, p1, _⟩ := N3.out.row
        rw [hc] at p1
        injection p1 with p1
        injection p1 with _ p1
        exact absurd p1 (by decide)
      have gc7 : w7.cell? ⟨gp, 4 * tt + 1, none⟩ = some (.slice (some ⟨go, off, none⟩) 1 co) := by
        obtain ⟨pc, p1, p2⟩ := N3.out.row
        exact (blk_cell (blk_grown p1 hg7 hgpne) _).trans (p2 tt p hp 1 _ (by rw [← e1]; rfl))
      have gz7 : w7.frozen? ⟨gp, 4 * tt + 1, none⟩ = false := by
        obtain ⟨pc, p1, p2⟩ := N3.out.row
        exact blk_frozen (blk_grown p1 hg7 hgpne) _
      have hpg : w.heap.size + 1 ≠ gp := by omega
      have hrg : w.heap.size ≠ gp := by omega
      have HO7 := Aside0.mk ho7
      have hgp7 : w7.heap[gp]? = w3.heap[gp]? := hg7.block gp (by omega) hgpne
      refine wpAnyH_take (i := 9) (oi := { dst := some 28, op := _, type := _, pos := _, after := _, guard := _ }) (v := ?_) rfl (by kernel_rfl) (by kernel_rfl) (by kernel_rfl) (fun _ _ _ h => h) (Or.inl ⟨by rfl, ?_⟩) hHeld ?_
      rotate_left
      · (intro w hSw; go_simp) <;> (with_reducible rfl)
      try simp only [Act.put, List.setIfInBounds_toArray, List.set_cons_zero, List.set_cons_succ]
      refine wpAnyH_take (i := 10) (oi := { dst := some 29, op := _, type := _, pos := _, after := _, guard := _ }) (v := ?_) rfl (by kernel_rfl) (by kernel_rfl) (by kernel_rfl) (fun _ _ _ h => h) (Or.inl ⟨by rfl, ?_⟩) hHeld ?_
      rotate_left
      · (intro w hSw; go_simp) <;> (with_reducible rfl)
      try simp only [Act.put, List.setIfInBounds_toArray, List.set_cons_zero, List.set_cons_succ]
      refine wpAnyH_ready (rs := [11]) (by kernel_rfl) (by simp) (AllReadyH.cons (o := { dst := none, op := _, type := _, pos := _, after := _, guard := _ }) rfl (fun K hK => ?_) AllReadyH.nil)
      go_simp
      refine hK.out _ _ (blk_far (p := ⟨gp, 4 * tt + 1, none⟩) hHeld hpg _) (fun hHeld2 => ?_)
      clear hK K hHeld
      have hHeld := hHeld2
      clear hHeld2
      try simp only [Act.put, List.setIfInBounds_toArray, List.set_cons_zero, List.set_cons_succ]
      refine wpAnyH_done (by kernel_rfl) ?_ _
      refine NoPanic.normal ?_
      have HP8 := Aside0.mk hHeld
      have HR8 := Aside0.mk (blk_far (p := ⟨gp, 4 * tt + 1, none⟩) hR7 hrg (.slice A7 1 c7))
      obtain ⟨pc, p1, p2⟩ := N3.out.row
      have hQ8 := Kd.Q_set HO7.out (hgp7.trans p1) (by decide) (4 * tt + 1) (.slice A7 1 c7)
      have N8 := Aside0.mk (N3.out.setO hp HOT.out hg7 hty (.slice A7 1 c7) (Mute.own (Kd.Q_mono hQ8 (fun _ _ => trivial))))
      have T8 := Aside0.mk (((Tf.of (base := base) (Tn.of_below (S := T) B3.out)).trans (Tf.row hg7 (fun k e => ⟨by simp only [Value.ownBlock] at e; injection e with e; omega, hty k e⟩))).trans (Tf.of (Tn.of_set w7 hT.gp (4 * tt + 1) (.slice A7 1 c7))))
      have HQ8 := Aside0.mk hQ8
      generalize w7.setCell ⟨gp, 4 * tt + 1, none⟩ (.slice A7 1 c7) = w8 at HP8 HR8 HQ8 N8 T8 ⊢
      clear gc7 gz7 hHeld hR7 hty hgpne hgp7 p1 p2 ho7 hg7 hb7 hat7 hQ8 hP7 hpne hrne g3 zg3 HO7
      have y0 : w8.cell? ⟨w.heap.size + 1, 0, none⟩ = some (.int .i64 1) := (blk_cell HP8.out 0).trans rfl
      have y1 : w8.cell? ⟨w.heap.size + 1, 1, none⟩ = some (.slice none 0 0) := (blk_cell HP8.out 1).trans rfl
      have r0 : w8.cell? ⟨w.heap.size, 0, none⟩ = some (.int .i64 0) := (blk_cell HR8.out 0).trans rfl
      have r1 : w8.cell? ⟨w.heap.size, 1, none⟩ = some (.slice none 0 0) := (blk_cell HR8.out 1).trans rfl
      have z0 := blk_frozen HR8.out 0
      have z1 := blk_frozen HR8.out 1
      go_wp2_with fail
      have hR9 := blk_put (blk_put HR8.out 0 (.int .i64 1) rfl) 1 (.slice none 0 0) rfl
      refine bodyPost_ret (results_cell_row rfl _ _ w.heap.size 43 _ (0, 0) _ rfl hR9 Try.underlying43 rfl (by kernel_rfl)) rfl ?_
      have hwS : w.heap.size ∉ S := fun hm => by have := HH.out.lt _ hm; omega
      have hQ9 : Mute base ((w8.setCell ⟨w.heap.size, 0, none⟩ (.int .i64 1)).setCell ⟨w.heap.size, 1, none⟩ (.slice none 0 0)) (.slice A7 1 c7) := Kd.Q_mono (Kd.Q_far (p := ⟨w.heap.size, 1, none⟩) (Kd.Q_far (p := ⟨w.heap.size, 0, none⟩) HQ8.out (fun k hk => hk) _) (fun k hk => hk) _) (fun _ _ => trivial)
      have hTn : Tn [w.heap.size] w8 ((w8.setCell ⟨w.heap.size, 0, none⟩ (.int .i64 1)).setCell ⟨w.heap.size, 1, none⟩ (.slice none 0 0)) := (Tn.of_set w8 (by simp) 0 _).trans (Tn.of_set _ (by simp) 1 _)
      have hdis : ∀ k ∈ S, k ∉ [w.heap.size] := fun k hk hm => by
        have e : k = w.heap.size := by simpa using hm
        exact hwS (e ▸ hk)
      refine ⟨.slice A7 1 c7, rfl, hQ9, N8.out.apartS hTn hdis (fun r hr => ((N8.out.prov r hr).set HR8.out (by decide) (by decide) 0 _).set (blk_put HR8.out 0 (.int .i64 1) rfl) (by decide) (by decide) 1 _) (fun r hr => ?_) rfl, T8.out.trans ⟨hTn.os, hTn.tape, hTn.output, hTn.size, fun k hk hm => ?_⟩⟩
      · obtain ⟨i, hi⟩ := List.getElem?_of_mem hr
        rw [List.getElem?_set] at hi
        by_cases hit : tt = i
        · rw [if_pos hit] at hi
          split at hi
          · injection hi with hi
            rw [← hi]
            exact hQ9.own
          · cases hi
        · rw [if_neg hit] at hi
          exact .inl (HOT.out i r hi (fun e => hit e.symm))
      · by_cases hkw : k = w.heap.size
        · rw [hkw]
          exact .inr ⟨hbs, _, HR8.out⟩
        · exact .inl (hTn.block k hk (by simpa using hkw))
end
end Go.Proofs.Ytpkfeepepbchlaa.Bl
