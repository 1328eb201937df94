import Derived.Test.YtpkfeepepbchlaaGLk7
namespace Go.Proofs.Ytpkfeepepbchlaa.Bl
open Go.RowKit Go.Maps Go.Proofs.YtpkfeepepbchlaaW.PrintWords Go.Proofs.YtpkfeepepbchlaaW.PrintLast Go.Proofs.YtpkfeepepbchlaaW.PrintMore Go.Proofs.Ytpkfeepepbchlaa.PK
set_option linter.unusedVariables false
set_option linter.unusedSimpArgs false
def kP : Kd (Nat × Unit × Bool × Bool) := Kd.pair (Kd.scalar (fun g : Nat => Value.pointer (some ⟨g, 0, none⟩)) (fun _ => rfl)) (Kd.pair (Kd.scalar (fun _ : Unit => Value.slice none 0 0) (fun _ => rfl)) (Kd.pair Kd.bool Kd.bool))
def elP (p : Pr) : Nat × Unit × Bool × Bool := (p.g, (), false, false)
theorem kP_mk (w : World) (base : Nat) (ok : Nat → Prop) (g : Nat) : kP.M w base ok (g, (), false, false) [.pointer (some ⟨g, 0, none⟩), .slice none 0 0, .bool false, .bool false] :=
  ⟨[.pointer (some ⟨g, 0, none⟩)], [.slice none 0 0, .bool false, .bool false], rfl, rfl, [.slice none 0 0], [.bool false, .bool false], rfl, rfl, [.bool false], [.bool false], rfl, rfl, rfl⟩
theorem kP_open {w : World} {base : Nat} {ok : Nat → Prop} {x : Nat × Unit × Bool × Bool} {cs : List Value} (h : kP.M w base ok x cs) : cs = [.pointer (some ⟨x.1, 0, none⟩), .slice none 0 0, .bool x.2.2.1, .bool x.2.2.2] := by
  obtain ⟨_, _, rfl, rfl, _, _, rfl, rfl, _, _, rfl, rfl, rfl⟩ := h
  rfl
theorem infoP : (Try.prog.info? 60).map (fun i => (i.zero, i.size, i.bytes)) = some (some (.agg #[.pointer none, .slice none 0 0, .bool false, .bool false]), 4, 40) := by kernel_rfl
theorem Bl.row {w w' : World} {g b t : Nat} {q : Int} {L : List Ent} {o : Option Nat} (h : Bl w g b q L) (hg : w.grownBy w' o) (ht : ∀ k, o = some k → ∃ cells, w.heap[k]? = some (.cells cells t (0, 0))) (h5 : t ≠ 5) (h60 : t ≠ 68) : Bl w' g b q L := by
  have hgo : some g ≠ o := fun e => by
    obtain ⟨cells, hc⟩ := ht g e.symm
    rw [h.blk] at hc
    injection hc with hc
    injection hc with _ hc
    exact h60 hc.symm
  have hbo : some b ≠ o := fun e => by
    obtain ⟨cells, hc⟩ := ht b e.symm
    obtain ⟨es, cl, hb⟩ := own_blk h.map
    rw [hb] at hc
    cases hc
  have hh : ∀ (j : Nat) (cells : Array Value), w.heap[j]? = some (.cells cells 5 (0, 0)) → w'.heap[j]? = w.heap[j]? := fun j cells hj => hg.block j (blk_lt hj) (fun e => by
    obtain ⟨cells', hc⟩ := ht j e.symm
    rw [hj] at hc
    injection hc with hc
    injection hc with _ hc
    exact h5 hc.symm)
  exact ⟨(hg.block g h.lt.1 hgo).trans h.blk, h.map.kept hg hbo, h.apart, fun x hx => by
    obtain ⟨A, c, e, hc, hC, hT⟩ := h.ent x hx
    exact ⟨A, c, e, hc, C_keep hC hT hh, hT.keep hh⟩, h.small⟩
structure Mk (w W : World) (n : Nat) (q : Int) (ps : List Pr) (v : Value) : Prop where
  net : W.heap[n]? = some (.cells #[v, .slice none 0 0, .int .i64 0, .int .i64 0, .int .i64 0] 58 (0, 0))
  row : Kd.R kP 60 W w.heap.size (fun _ => True) v (ps.map elP)
  prov : ∀ p ∈ ps, Bl W p.g p.b q [] ∧ p.L = [] ∧ p.o = .slice none 0 0 ∧ p.dev = false ∧ p.bl = false ∧ w.heap.size ≤ p.b ∧ p.b < W.heap.size
  apart : ∀ (i j : Nat) (p r : Pr), ps[i]? = some p → ps[j]? = some r → p.b = r.b → i = j
  below : Below w.heap.size w W
theorem Mk.kept {w W W' : World} {n : Nat} {q : Int} {ps : List Pr} {v : Value} (h : Mk w W n q ps v) (hb : Below W.heap.size W W') : Mk w W' n q ps v :=
  ⟨blk_below h.net hb, Kd.R_below h.row hb, fun p hp => by
    obtain ⟨h1, h2, h3, h4, h5, h6, h7⟩ := h.prov p hp
    exact ⟨h1.kept hb, h2, h3, h4, h5, h6, Nat.lt_of_lt_of_le h7 hb.size⟩, h.apart, h.below.trans (hb.mono h.below.size)⟩
theorem Mk.drew {w W : World} {n : Nat} {q : Int} {ps : List Pr} {v : Value} (h : Mk w W n q ps v) : Mk w W.drew n q ps v := h.kept (below_drew (Below.refl _ _))
theorem Mk.more {w W W' : World} {n g b : Nat} {q : Int} {ps : List Pr} {v v' : Value} (h : Mk w W n q ps v) (hn : w.heap.size ≤ n) (hB : Bl W g b q []) (hb : w.heap.size ≤ b) (hnew : ∀ p ∈ ps, p.b ≠ b) (hr : Kd.R kP 60 W' w.heap.size (fun _ => True) v' (ps.map elP ++ [(g, (), false, false)])) (hg : W.grownBy W' v.ownBlock) (hbw : Below w.heap.size w W') :
    Mk w (W'.setCell ⟨n, 0, none⟩ v') n q (ps ++ [⟨g, b, [], .slice none 0 0, false, false⟩]) v' := by
  have hty := Kd.R_typed h.row
  have hn' := blk_grown h.net hg (Kd.R_ne h.row h.net (by decide))
  have hB' := hB.row hg hty (by decide) (by decide)
  have hBl := hB'.lt.2
  have hsz : (W'.setCell ⟨n, 0, none⟩ v').heap.size = W'.heap.size := by simp [World.setCell]
  refine ⟨blk_put hn' 0 v' rfl, ?_, fun p hp => ?_, fun i j p r hi hj e => ?_, below_set hbw hn⟩
  · rw [List.map_append]
    exact Kd.R_set hr hn' (by decide) 0 v'
  · rw [hsz]
    rcases List.mem_append.1 hp with hp | hp
    · obtain ⟨h1, h2, h3, h4, h5, h6, h7⟩ := h.prov p hp
      exact ⟨(h1.row hg hty (by decide) (by decide)).set hn' (by decide) (by decide) 0 v', h2, h3, h4, h5, h6, Nat.lt_of_lt_of_le h7 hg.size⟩
    · have e : p = ⟨g, b, [], .slice none 0 0, false, false⟩ := by simpa using hp
      subst e
      exact ⟨hB'.set hn' (by decide) (by decide) 0 v', rfl, rfl, rfl, rfl, hb, hBl⟩
  · have key : ∀ (i : Nat) (p : Pr), (ps ++ [⟨g, b, [], .slice none 0 0, false, false⟩])[i]? = some p → (ps[i]? = some p ∧ p.b ≠ b) ∨ (i = ps.length ∧ p.b = b) := fun i p hi => by
      by_cases hl : i < ps.length
      · rw [List.getElem?_append_left hl] at hi
        exact .inl ⟨hi, hnew p (List.mem_of_getElem? hi)⟩
      · rw [List.getElem?_append_right (by omega)] at hi
        have h0 : i - ps.length = 0 := by
          have := (List.getElem?_eq_some_iff.1 hi).1
          simp only [List.length_cons, List.length_nil] at this
          omega
        rw [h0] at hi
        injection hi with hi
        exact .inr ⟨by omega, by rw [← hi]⟩
    rcases key i p hi with ⟨h1, h2⟩ | ⟨h1, h2⟩
    · rcases key j r hj with ⟨h3, h4⟩ | ⟨h3, h4⟩
      · exact h.apart i j p r h1 h3 e
      · exact absurd (e.trans h4) h2
    · rcases key j r hj with ⟨h3, h4⟩ | ⟨h3, h4⟩
      · exact absurd (e.symm.trans h2) h4
      · omega
theorem Mk.done {w W W' : World} {n : Nat} {q : Int} {ps : List Pr} {v v2 : Value} {fs : List Ft} (h : Mk w W n q ps v) (hn : w.heap.size ≤ n) (h1 : 0 < ps.length) (hnet : W'.heap[n]? = some (.cells #[v, v2, .int .i64 0, .int .i64 0, .int .i64 0] 58 (0, 0))) (hf : Kd.R kF 43 W' w.heap.size (fun k => W.heap.size ≤ k) v2 fs) (hg : W.grownBy W' (some n)) :
    ∃ gp cap, Nt (n :: gp :: ps.map (·.b)) W' n gp cap q ps fs 0 0 0 ∧ w.heap.size ≤ gp := by
  obtain ⟨gp, cap, rfl, hgb, hgl, cells, hgc⟩ := Kd.R_form h.row (by rw [List.length_map]; exact h1)
  have hnl := blk_lt h.net
  have hne : gp ≠ n := by
    rintro rfl
    have := h.net
    rw [hgc] at this
    injection this with this
    injection this with _ this
    exact absurd this (by decide)
  refine ⟨gp, cap, ?_, hgb⟩
  rw [List.length_map] at hnet
  obtain ⟨A2, c2, rfl, hc2, _⟩ := Kd.R_reads hf
  have hgc' : W'.heap[gp]? = some (.cells cells 60 (0, 0)) := (hg.block gp hgl (fun e => hne (by injection e))).trans hgc
  have hlt : ∀ k ∈ n :: gp :: ps.map (·.b), k < W.heap.size := fun k hk => by
    simp only [List.mem_cons, List.mem_map] at hk
    rcases hk with rfl | rfl | ⟨p, hp, rfl⟩
    · exact hnl
    · exact hgl
    · exact (h.prov p hp).2.2.2.2.2.2
  exact {
    net := ⟨A2, c2, hnet, hc2, Kd.F_mono (Kd.R_F hf) (fun k hk hm => by have := hlt k hm; omega)⟩
    row := by
      refine ⟨cells, hgc', fun i p hi j u hu => ?_⟩
      have hil : i < ps.length := (List.getElem?_eq_some_iff.1 hi).1
      have hrow := h.row
      rw [List.length_map] at hrow
      obtain ⟨c, hcl, hM, hcc, _⟩ := Kd.R_elem hrow (0, (), false, false) (i : Int) (by omega) (by omega)
      have hx : (ps.map elP).getD (Int.toNat (i : Int)) (0, (), false, false) = elP p := by
        rw [Int.toNat_natCast, List.getD_eq_getElem?_getD, List.getElem?_map, hi]
        rfl
      rw [hx] at hM
      have hce := kP_open hM
      obtain ⟨_, e2, e3, e4, e5, _, _⟩ := h.prov p (List.mem_of_getElem? hi)
      have hu' : c[j]? = some u := by
        rw [hce, ← hu]
        unfold Pr.cs elP
        rw [e3, e4, e5]
      have h5 := hcc j u hu'
      rw [Int.toNat_natCast] at h5
      rw [show 4 * i + j = i * kP.sz + j from by rw [Nat.mul_comm]; rfl]
      exact (blk_cell hgc _).symm.trans h5
    prov := fun p hp => by
      obtain ⟨b1, b2, _⟩ := h.prov p hp
      rw [b2]
      exact b1.row hg (fun k e => by injection e with e; subst e; exact ⟨_, h.net⟩) (by decide) (by decide)
    apart := h.apart
    mem := ⟨by simp, by simp, fun p hp => by simp only [List.mem_cons, List.mem_map]; exact .inr (.inr ⟨p, hp, rfl⟩)⟩
    lt := fun k hk => Nat.lt_of_lt_of_le (hlt k hk) hg.size
    own := fun p hp => .inl (h.prov p hp).2.2.1 }
attribute [local go_sem] max2_int min2_int max_two min_two
set_option maxRecDepth 20000 in
set_option maxHeartbeats 16000000 in
theorem New_net (P : Nat) (hP : 1 ≤ P ∧ P ≤ 250) (q0 : Int) (hq : 0 ≤ q0 ∧ q0 ≤ 140737488355328) (A : Option Addr) (c : Nat) (fs : List Ft) (w : World) (hC : Kd.C kF w A fs.length fs) (hc : fs.length ≤ c) (hl : fs.length ≤ 1000) (hfo : ∀ f ∈ fs, f.f1.length ≤ 3000) :
    Calls Try.prog 10 #[.int .i64 P, .int .i64 q0, .slice A fs.length c] w fun e w' => ∃ n gp cap ps, e = .returned (.pointer (some ⟨n, 0, none⟩)) ∧ Nt (n :: gp :: ps.map (·.b)) w' n gp cap q0 ps fs 0 0 0 ∧ ps.length = P ∧ (∀ p ∈ ps, p.L = [] ∧ p.o = .slice none 0 0 ∧ p.dev = false ∧ p.bl = false) ∧ (∀ k ∈ n :: gp :: ps.map (·.b), w.heap.size ≤ k) ∧ Below w.heap.size w w' := by
  have HC := Aside0.mk hC
  have hmn : min (P : Int) 256 = P := by omega
  have hmx : max (0 : Int) (P : Int) = P := by omega
  have hm1 : (P : Int) ≤ 256 := by omega
  have hm2 : (0 : Int) ≤ (P : Int) := by omega
  have K1 := Aside0.mk (blk_new w (.cells #[.slice none 0 0, .slice none 0 0, .int .i64 0, .int .i64 0, .int .i64 0] 58))
  have B1 := Aside0.mk (below_alloc (Below.refl w.heap.size w) (.cells #[.slice none 0 0, .slice none 0 0, .int .i64 0, .int .i64 0, .int .i64 0] 58))
  clear hC
  go_enter Try.func10, Try.ntmps10
  go_wp2_with fail
  generalize hn : w.heap.size = n at K1 ⊢
  have M1 := Aside0.mk (show Mk w (w.alloc (.cells #[.slice none 0 0, .slice none 0 0, .int .i64 0, .int .i64 0, .int .i64 0] 58)) n q0 [] (.slice none 0 0) from ⟨K1.out, Kd.R_nil _ _ _ _ _, by simp, by simp, B1.out⟩)
  generalize w.alloc (.cells #[.slice none 0 0, .slice none 0 0, .int .i64 0, .int .i64 0, .int .i64 0] 58) = w1 at M1 ⊢
  clear K1 B1 hmn hmx hm1 hm2
  go_loopg [13] P (fun kq v13 w' => ∃ (i : Nat) (ps : List Pr) (v : Value), v13 = .int .i64 i ∧ i ≤ P ∧ ps.length = i ∧ Aside0 (kq + i = P) ∧ Aside0 (Mk w w' n q0 ps v))
  case atStart => exact ⟨0, [], _, rfl, Nat.zero_le _, rfl, ⟨rfl⟩, M1⟩
  case round =>
    clear M1
    obtain ⟨i, ps, v, rfl, hi, hpl, HK, HM⟩ := hrel
    by_cases hlt : i < P
    · have hci : (i : Int) < (P : Int) := by omega
      go_wp2_with fail
      have MD := Aside0.mk HM.out.drew
      obtain ⟨Av, cv, rfl, _, _⟩ := Kd.R_reads HM.out.row
      rw [List.length_map, hpl] at MD
      refine wp_region_noPanic ?_
      refine wp_region_held_drew (S := fun W => Below w.heap.size w W) (by kernel_rfl) (below_drew HM.out.below) (fun hHeld => ?_)
      clear HM
      generalize wr.drew = w5 at MD hHeld ⊢
      refine wpAnyH_take (i := 0) (oi := { dst := some 15, op := _, type := _, pos := _, after := _, guard := _ }) (v := ?_) rfl (by kernel_rfl) (by kernel_rfl) (by kernel_rfl) (fun _ _ _ h => h) (Or.inl ⟨by rfl, ?_⟩) hHeld ?_
      rotate_left
      · (intro w hSw; go_simp) <;> (with_reducible rfl)
      try simp only [Act.put, List.setIfInBounds_toArray, List.set_cons_zero, List.set_cons_succ]
      refine wpAnyH_take (i := 1) (oi := { dst := some 16, op := _, type := _, pos := _, after := _, guard := _ }) (v := ?_) rfl (by kernel_rfl) (by kernel_rfl) (by kernel_rfl) (fun _ _ _ h => h) (Or.inl ⟨by rfl, ?_⟩) hHeld ?_
      rotate_left
      · (intro w hSw; go_simp) <;> (with_reducible rfl)
      try simp only [Act.put, List.setIfInBounds_toArray, List.set_cons_zero, List.set_cons_succ]
      refine wpAnyH_take (i := 2) (oi := { dst := some 17, op := _, type := _, pos := _, after := _, guard := _ }) (v := ?_) rfl (by kernel_rfl) (by kernel_rfl) (by kernel_rfl) (fun _ _ _ h => h) (Or.inl ⟨by rfl, ?_⟩) hHeld ?_
      rotate_left
      · (intro w hSw; go_simp) <;> (with_reducible rfl)
      try simp only [Act.put, List.setIfInBounds_toArray, List.set_cons_zero, List.set_cons_succ]
      refine wpAnyH_take (i := 3) (oi := { dst := some 18, op := _, type := _, pos := _, after := _, guard := _ }) (v := ?_) rfl (by kernel_rfl) (by kernel_rfl) (by kernel_rfl) (fun _ _ _ h => h) (Or.inl ⟨by rfl, ?_⟩) hHeld ?_
      rotate_left
      · (intro w hSw; go_simp) <;> (with_reducible rfl)
      try simp only [Act.put, List.setIfInBounds_toArray, List.set_cons_zero, List.set_cons_succ]
      refine wpAnyH_take (i := 5) (oi := { dst := some 20, op := _, type := _, pos := _, after := _, guard := _ }) (v := ?_) rfl (by kernel_rfl) (by kernel_rfl) (by kernel_rfl) (fun _ _ _ h => h) (Or.inl ⟨by rfl, ?_⟩) hHeld ?_
      rotate_left
      · (intro w hSw; go_simp) <;> (with_reducible rfl)
      try simp only [Act.put, List.setIfInBounds_toArray, List.set_cons_zero, List.set_cons_succ]
      refine wpAnyH_ready (rs := [4, 6]) (by kernel_rfl) (by simp) (AllReadyH.cons (o := { dst := some 19, op := _, type := _, pos := _, after := _, guard := _ }) rfl (fun K hK => ?_) (AllReadyH.cons (o := { dst := some 21, op := _, type := _, pos := _, after := _, guard := _ }) rfl (fun K hK => ?_) AllReadyH.nil))
      · have gn : w5.cell? ⟨n, 0, none⟩ = some (.slice Av i cv) := (blk_cell MD.out.net 0).trans rfl
        go_simp
        clear gn
        refine hK.out _ _ (hHeld) (fun hHeld2 => ?_)
        clear hK K hHeld
        have hHeld := hHeld2
        clear hHeld2
        try simp only [Act.put, List.setIfInBounds_toArray, List.set_cons_zero, List.set_cons_succ]
        refine wpAnyH_ready (rs := [6]) (by kernel_rfl) (by simp) (AllReadyH.cons (o := { dst := some 21, op := _, type := _, pos := _, after := _, guard := _ }) rfl (fun K hK => ?_) AllReadyH.nil)
        go_simp
        refine (New_calls q0 w5).mono ?_
        rintro e w6 ⟨g2, b2, rfl, hB2, hg2, hb2, hb6⟩
        rw [if_neg (by omega)] at hB2
        have M6 := Aside0.mk (MD.out.kept hb6)
        have hnew : ∀ p ∈ ps, p.b ≠ b2 := fun p hp => by have := (MD.out.prov p hp).2.2.2.2.2.2; omega
        have hb2w : w.heap.size ≤ b2 := Nat.le_trans MD.out.below.size hb2
        have HB2 := Aside0.mk hB2
        refine hK.out _ _ M6.out.below (fun hHeld2 => ?_)
        clear hK K hHeld hB2 hb6 MD
        have hHeld := hHeld2
        clear hHeld2
        try simp only [Act.put, List.setIfInBounds_toArray, List.set_cons_zero, List.set_cons_succ]
        refine wpAnyH_take (i := 7) (oi := { dst := some 22, op := _, type := _, pos := _, after := _, guard := _ }) (v := ?_) rfl (by kernel_rfl) (by kernel_rfl) (by kernel_rfl) (fun _ _ _ h => h) (Or.inl ⟨by rfl, ?_⟩) hHeld ?_
        rotate_left
        · (intro w hSw; go_simp) <;> (with_reducible rfl)
        try simp only [Act.put, List.setIfInBounds_toArray, List.set_cons_zero, List.set_cons_succ]
        refine wpAnyH_ready (rs := [8]) (by kernel_rfl) (by simp) (AllReadyH.cons (o := { dst := some 23, op := _, type := _, pos := _, after := _, guard := _ }) rfl (fun K hK => ?_) AllReadyH.nil)
        go_simp
        refine hK.out _ _ (hHeld.trans ((below_alloc (Below.refl _ _) _).mono hHeld.size)) (fun hHeld2 => ?_)
        clear hK K
        have hHeldA := hHeld2
        clear hHeld2
        try simp only [Act.put, List.setIfInBounds_toArray, List.set_cons_zero, List.set_cons_succ]
        refine wpAnyH_ready (rs := [9]) (by kernel_rfl) (by simp) (AllReadyH.cons (o := { dst := some 24, op := _, type := _, pos := _, after := _, guard := _ }) rfl (fun K hK => ?_) AllReadyH.nil)
        refine Kd.R_append_step kP (w0 := w) w.heap.size ?gAW (.tmp 19) (.tmp 23) 56 60 (.agg #[.pointer none, .slice none 0 0, .bool false, .bool false]) 40 rfl Try.underlying56 infoP rfl (by decide) (by omega) _ (ps.map elP) (g2, (), false, false) [.pointer (some ⟨g2, 0, none⟩), .slice none 0 0, .bool false, .bool false] (fun _ => True) (fun _ => False) rfl ?gAX ?gAP ?gAQ ?gAF ?gAO ?gAB ?gAS ?gAL ?_
        (case gAW => rfl)
        (case gAX => rfl)
        (case gAP => exact kP_mk _ _ _ _)
        (case gAQ => exact fun k hk => hk.elim)
        (case gAF => exact fun _ _ => trivial)
        (case gAO => exact M6.out.row)
        (case gAB => exact M6.out.below)
        (case gAS => exact M6.out.below.size)
        (case gAL => rw [List.length_map]; omega)
        intro v7 w7 hr7 hb7 hg7 hat7
        obtain ⟨A7, c7, hv7, _, _⟩ := Kd.R_reads hr7
        rw [show (ps.map elP ++ [(g2, (), false, false)]).length = i + 1 from by simp [hpl]] at hv7
        subst hv7
        have hn7 := blk_grown M6.out.net hg7 (Kd.R_ne M6.out.row M6.out.net (by decide))
        have gn : w7.cell? ⟨n, 0, none⟩ = some (.slice Av i cv) := (blk_cell hn7 0).trans rfl
        have gz := blk_frozen hn7 0
        have M8 := Aside0.mk (M6.out.more (by omega) HB2.out hb2w hnew hr7 hg7 hb7)
        refine hK.out _ _ hb7 (fun hHeld2 => ?_)
        clear hK K hHeldA hHeld hg7 hat7 hr7
        have hHeld := hHeld2
        clear hHeld2
        try simp only [Act.put, List.setIfInBounds_toArray, List.set_cons_zero, List.set_cons_succ]
        refine wpAnyH_take (i := 10) (oi := { dst := some 25, op := _, type := _, pos := _, after := _, guard := _ }) (v := ?_) rfl (by kernel_rfl) (by kernel_rfl) (by kernel_rfl) (fun _ _ _ h => h) (Or.inl ⟨by rfl, ?_⟩) hHeld ?_
        rotate_left
        · (intro w hSw; go_simp) <;> (with_reducible rfl)
        try simp only [Act.put, List.setIfInBounds_toArray, List.set_cons_zero, List.set_cons_succ]
        refine wpAnyH_take (i := 11) (oi := { dst := some 26, op := _, type := _, pos := _, after := _, guard := _ }) (v := ?_) rfl (by kernel_rfl) (by kernel_rfl) (by kernel_rfl) (fun _ _ _ h => h) (Or.inl ⟨by rfl, ?_⟩) hHeld ?_
        rotate_left
        · (intro w hSw; go_simp) <;> (with_reducible rfl)
        try simp only [Act.put, List.setIfInBounds_toArray, List.set_cons_zero, List.set_cons_succ]
        refine wpAnyH_ready (rs := [12]) (by kernel_rfl) (by simp) (AllReadyH.cons (o := { dst := none, op := _, type := _, pos := _, after := _, guard := _ }) rfl (fun K hK => ?_) AllReadyH.nil)
        go_simp
        refine hK.out _ _ (below_set hHeld (by omega)) (fun hHeld2 => ?_)
        clear hK K hHeld
        have hHeld := hHeld2
        clear hHeld2
        try simp only [Act.put, List.setIfInBounds_toArray, List.set_cons_zero, List.set_cons_succ]
        refine wpAnyH_done (by kernel_rfl) ?_ _
        refine NoPanic.normal ?_
        generalize w7.setCell ⟨n, 0, none⟩ (.slice A7 (i + 1) c7) = w9 at M8 ⊢
        clear gn gz hn7 hHeld hb7 hb2w hnew
        go_wp2_with fail
        go_roundg (P - (i + 1))
        case measure => have := HK.out; omega
        case rel => exact ⟨i + 1, _, _, by first | rfl | simp, by omega, by simp [hpl], ⟨by have := HK.out; omega⟩, M8⟩
      · go_simp
        refine (New_calls q0 w5).mono ?_
        rintro e w6 ⟨g2, b2, rfl, hB2, hg2, hb2, hb6⟩
        rw [if_neg (by omega)] at hB2
        have M6 := Aside0.mk (MD.out.kept hb6)
        have hnew : ∀ p ∈ ps, p.b ≠ b2 := fun p hp => by have := (MD.out.prov p hp).2.2.2.2.2.2; omega
        have hb2w : w.heap.size ≤ b2 := Nat.le_trans MD.out.below.size hb2
        have HB2 := Aside0.mk hB2
        refine hK.out _ _ M6.out.below (fun hHeld2 => ?_)
        clear hK K hHeld hB2 hb6 MD
        have hHeld := hHeld2
        clear hHeld2
        try simp only [Act.put, List.setIfInBounds_toArray, List.set_cons_zero, List.set_cons_succ]
        refine wpAnyH_take (i := 7) (oi := { dst := some 22, op := _, type := _, pos := _, after := _, guard := _ }) (v := ?_) rfl (by kernel_rfl) (by kernel_rfl) (by kernel_rfl) (fun _ _ _ h => h) (Or.inl ⟨by rfl, ?_⟩) hHeld ?_
        rotate_left
        · (intro w hSw; go_simp) <;> (with_reducible rfl)
        try simp only [Act.put, List.setIfInBounds_toArray, List.set_cons_zero, List.set_cons_succ]
        refine wpAnyH_ready (rs := [4, 8]) (by kernel_rfl) (by simp) (AllReadyH.cons (o := { dst := some 19, op := _, type := _, pos := _, after := _, guard := _ }) rfl (fun K hK => ?_) (AllReadyH.cons (o := { dst := some 23, op := _, type := _, pos := _, after := _, guard := _ }) rfl (fun K hK => ?_) AllReadyH.nil))
        · have gn : w6.cell? ⟨n, 0, none⟩ = some (.slice Av i cv) := (blk_cell M6.out.net 0).trans rfl
          go_simp
          clear gn
          refine hK.out _ _ (hHeld) (fun hHeld2 => ?_)
          clear hK K hHeld
          have hHeld := hHeld2
          clear hHeld2
          try simp only [Act.put, List.setIfInBounds_toArray, List.set_cons_zero, List.set_cons_succ]
          refine wpAnyH_ready (rs := [8]) (by kernel_rfl) (by simp) (AllReadyH.cons (o := { dst := some 23, op := _, type := _, pos := _, after := _, guard := _ }) rfl (fun K hK => ?_) AllReadyH.nil)
          go_simp
          refine hK.out _ _ (hHeld.trans ((below_alloc (Below.refl _ _) _).mono hHeld.size)) (fun hHeld2 => ?_)
          clear hK K
          have hHeldA := hHeld2
          clear hHeld2
          try simp only [Act.put, List.setIfInBounds_toArray, List.set_cons_zero, List.set_cons_succ]
          refine wpAnyH_ready (rs := [9]) (by kernel_rfl) (by simp) (AllReadyH.cons (o := { dst := some 24, op := _, type := _, pos := _, after := _, guard := _ }) rfl (fun K hK => ?_) AllReadyH.nil)
          refine Kd.R_append_step kP (w0 := w) w.heap.size ?gBW (.tmp 19) (.tmp 23) 56 60 (.agg #[.pointer none, .slice none 0 0, .bool false, .bool false]) 40 rfl Try.underlying56 infoP rfl (by decide) (by omega) _ (ps.map elP) (g2, (), false, false) [.pointer (some ⟨g2, 0, none⟩), .slice none 0 0, .bool false, .bool false] (fun _ => True) (fun _ => False) rfl ?gBX ?gBP ?gBQ ?gBF ?gBO ?gBB ?gBS ?gBL ?_
          (case gBW => rfl)
          (case gBX => rfl)
          (case gBP => exact kP_mk _ _ _ _)
          (case gBQ => exact fun k hk => hk.elim)
          (case gBF => exact fun _ _ => trivial)
          (case gBO => exact M6.out.row)
          (case gBB => exact M6.out.below)
          (case gBS => exact M6.out.below.size)
          (case gBL => rw [List.length_map]; omega)
          intro v7 w7 hr7 hb7 hg7 hat7
          obtain ⟨A7, c7, hv7, _, _⟩ := Kd.R_reads hr7
          rw [show (ps.map elP ++ [(g2, (), false, false)]).length = i + 1 from by simp [hpl]] at hv7
          subst hv7
          have hn7 := blk_grown M6.out.net hg7 (Kd.R_ne M6.out.row M6.out.net (by decide))
          have gn : w7.cell? ⟨n, 0, none⟩ = some (.slice Av i cv) := (blk_cell hn7 0).trans rfl
          have gz := blk_frozen hn7 0
          have M8 := Aside0.mk (M6.out.more (by omega) HB2.out hb2w hnew hr7 hg7 hb7)
          refine hK.out _ _ hb7 (fun hHeld2 => ?_)
          clear hK K hHeldA hHeld hg7 hat7 hr7
          have hHeld := hHeld2
          clear hHeld2
          try simp only [Act.put, List.setIfInBounds_toArray, List.set_cons_zero, List.set_cons_succ]
          refine wpAnyH_take (i := 10) (oi := { dst := some 25, op := _, type := _, pos := _, after := _, guard := _ }) (v := ?_) rfl (by kernel_rfl) (by kernel_rfl) (by kernel_rfl) (fun _ _ _ h => h) (Or.inl ⟨by rfl, ?_⟩) hHeld ?_
          rotate_left
          · (intro w hSw; go_simp) <;> (with_reducible rfl)
          try simp only [Act.put, List.setIfInBounds_toArray, List.set_cons_zero, List.set_cons_succ]
          refine wpAnyH_take (i := 11) (oi := { dst := some 26, op := _, type := _, pos := _, after := _, guard := _ }) (v := ?_) rfl (by kernel_rfl) (by kernel_rfl) (by kernel_rfl) (fun _ _ _ h => h) (Or.inl ⟨by rfl, ?_⟩) hHeld ?_
          rotate_left
          · (intro w hSw; go_simp) <;> (with_reducible rfl)
          try simp only [Act.put, List.setIfInBounds_toArray, List.set_cons_zero, List.set_cons_succ]
          refine wpAnyH_ready (rs := [12]) (by kernel_rfl) (by simp) (AllReadyH.cons (o := { dst := none, op := _, type := _, pos := _, after := _, guard := _ }) rfl (fun K hK => ?_) AllReadyH.nil)
          go_simp
          refine hK.out _ _ (below_set hHeld (by omega)) (fun hHeld2 => ?_)
          clear hK K hHeld
          have hHeld := hHeld2
          clear hHeld2
          try simp only [Act.put, List.setIfInBounds_toArray, List.set_cons_zero, List.set_cons_succ]
          refine wpAnyH_done (by kernel_rfl) ?_ _
          refine NoPanic.normal ?_
          generalize w7.setCell ⟨n, 0, none⟩ (.slice A7 (i + 1) c7) = w9 at M8 ⊢
          clear gn gz hn7 hHeld hb7 hb2w hnew
          go_wp2_with fail
          go_roundg (P - (i + 1))
          case measure => have := HK.out; omega
          case rel => exact ⟨i + 1, _, _, by first | rfl | simp, by omega, by simp [hpl], ⟨by have := HK.out; omega⟩, M8⟩
        · go_simp
          refine hK.out _ _ (hHeld.trans ((below_alloc (Below.refl _ _) _).mono hHeld.size)) (fun hHeld2 => ?_)
          clear hK K
          have hHeldA := hHeld2
          clear hHeld2
          try simp only [Act.put, List.setIfInBounds_toArray, List.set_cons_zero, List.set_cons_succ]
          have HN6a := blk_alloc M6.out.net (.cells #[.pointer (some ⟨g2, 0, none⟩), .slice none 0 0, .bool false, .bool false] 60)
          refine wpAnyH_ready (rs := [4]) (by kernel_rfl) (by simp) (AllReadyH.cons (o := { dst := some 19, op := _, type := _, pos := _, after := _, guard := _ }) rfl (fun K hK => ?_) AllReadyH.nil)
          have gn : (w6.alloc (.cells #[.pointer (some ⟨g2, 0, none⟩), .slice none 0 0, .bool false, .bool false] 60)).cell? ⟨n, 0, none⟩ = some (.slice Av i cv) := (blk_cell HN6a 0).trans rfl
          go_simp
          clear gn HN6a
          refine hK.out _ _ (hHeldA) (fun hHeld2 => ?_)
          clear hK K hHeldA
          have hHeldA := hHeld2
          clear hHeld2
          try simp only [Act.put, List.setIfInBounds_toArray, List.set_cons_zero, List.set_cons_succ]
          refine wpAnyH_ready (rs := [9]) (by kernel_rfl) (by simp) (AllReadyH.cons (o := { dst := some 24, op := _, type := _, pos := _, after := _, guard := _ }) rfl (fun K hK => ?_) AllReadyH.nil)
          refine Kd.R_append_step kP (w0 := w) w.heap.size ?gCW (.tmp 19) (.tmp 23) 56 60 (.agg #[.pointer none, .slice none 0 0, .bool false, .bool false]) 40 rfl Try.underlying56 infoP rfl (by decide) (by omega) _ (ps.map elP) (g2, (), false, false) [.pointer (some ⟨g2, 0, none⟩), .slice none 0 0, .bool false, .bool false] (fun _ => True) (fun _ => False) rfl ?gCX ?gCP ?gCQ ?gCF ?gCO ?gCB ?gCS ?gCL ?_
          (case gCW => rfl)
          (case gCX => rfl)
          (case gCP => exact kP_mk _ _ _ _)
          (case gCQ => exact fun k hk => hk.elim)
          (case gCF => exact fun _ _ => trivial)
          (case gCO => exact M6.out.row)
          (case gCB => exact M6.out.below)
          (case gCS => exact M6.out.below.size)
          (case gCL => rw [List.length_map]; omega)
          intro v7 w7 hr7 hb7 hg7 hat7
          obtain ⟨A7, c7, hv7, _, _⟩ := Kd.R_reads hr7
          rw [show (ps.map elP ++ [(g2, (), false, false)]).length = i + 1 from by simp [hpl]] at hv7
          subst hv7
          have hn7 := blk_grown M6.out.net hg7 (Kd.R_ne M6.out.row M6.out.net (by decide))
          have gn : w7.cell? ⟨n, 0, none⟩ = some (.slice Av i cv) := (blk_cell hn7 0).trans rfl
          have gz := blk_frozen hn7 0
          have M8 := Aside0.mk (M6.out.more (by omega) HB2.out hb2w hnew hr7 hg7 hb7)
          refine hK.out _ _ hb7 (fun hHeld2 => ?_)
          clear hK K hHeldA hHeld hg7 hat7 hr7
          have hHeld := hHeld2
          clear hHeld2
          try simp only [Act.put, List.setIfInBounds_toArray, List.set_cons_zero, List.set_cons_succ]
          refine wpAnyH_take (i := 10) (oi := { dst := some 25, op := _, type := _, pos := _, after := _, guard := _ }) (v := ?_) rfl (by kernel_rfl) (by kernel_rfl) (by kernel_rfl) (fun _ _ _ h => h) (Or.inl ⟨by rfl, ?_⟩) hHeld ?_
          rotate_left
          · (intro w hSw; go_simp) <;> (with_reducible rfl)
          try simp only [Act.put, List.setIfInBounds_toArray, List.set_cons_zero, List.set_cons_succ]
          refine wpAnyH_take (i := 11) (oi := { dst := some 26, op := _, type := _, pos := _, after := _, guard := _ }) (v := ?_) rfl (by kernel_rfl) (by kernel_rfl) (by kernel_rfl) (fun _ _ _ h => h) (Or.inl ⟨by rfl, ?_⟩) hHeld ?_
          rotate_left
          · (intro w hSw; go_simp) <;> (with_reducible rfl)
          try simp only [Act.put, List.setIfInBounds_toArray, List.set_cons_zero, List.set_cons_succ]
          refine wpAnyH_ready (rs := [12]) (by kernel_rfl) (by simp) (AllReadyH.cons (o := { dst := none, op := _, type := _, pos := _, after := _, guard := _ }) rfl (fun K hK => ?_) AllReadyH.nil)
          go_simp
          refine hK.out _ _ (below_set hHeld (by omega)) (fun hHeld2 => ?_)
          clear hK K hHeld
          have hHeld := hHeld2
          clear hHeld2
          try simp only [Act.put, List.setIfInBounds_toArray, List.set_cons_zero, List.set_cons_succ]
          refine wpAnyH_done (by kernel_rfl) ?_ _
          refine NoPanic.normal ?_
          generalize w7.setCell ⟨n, 0, none⟩ (.slice A7 (i + 1) c7) = w9 at M8 ⊢
          clear gn gz hn7 hHeld hb7 hb2w hnew
          go_wp2_with fail
          go_roundg (P - (i + 1))
          case measure => have := HK.out; omega
          case rel => exact ⟨i + 1, _, _, by first | rfl | simp, by omega, by simp [hpl], ⟨by have := HK.out; omega⟩, M8⟩
    · have hci : ¬ ((i : Int) < (P : Int)) := by omega
      go_wp2_with fail
      refine (More_calls w wr n v A c fs HM.out.below (by omega) HM.out.net HC.out hc hl hfo).mono ?_
      rintro e w2 ⟨v2, rfl, hn2, hr2, hg2⟩
      have HM2 := Aside0.mk (HM.out.done (by omega) (by omega) hn2 hr2 hg2)
      have hbel : Below w.heap.size w w2 := ⟨hg2.os.trans HM.out.below.os, hg2.tape.trans HM.out.below.tape, hg2.output.trans HM.out.below.output, Nat.le_trans HM.out.below.size hg2.size, fun k hk => (hg2.block k (Nat.lt_of_lt_of_le hk HM.out.below.size) (fun e => by injection e; omega)).trans (HM.out.below.block k hk)⟩
      have HB2 := Aside0.mk hbel
      clear hn2 hr2 hg2 hbel
      go_wp2_with fail
      go_ret
      obtain ⟨gp, cap, hN, hgp⟩ := HM2.out
      refine ⟨n, gp, cap, ps, rfl, hN, by omega, fun p hp => ?_, fun k hk => ?_, HB2.out⟩
      · obtain ⟨_, h2, h3, h4, h5, _⟩ := HM.out.prov p hp
        exact ⟨h2, h3, h4, h5⟩
      · simp only [List.mem_cons, List.mem_map] at hk
        rcases hk with rfl | rfl | ⟨p, hp, rfl⟩
        · omega
        · exact hgp
        · exact (HM.out.prov p hp).2.2.2.2.2.1
end Go.Proofs.Ytpkfeepepbchlaa.Bl
