import Derived.Test.YtpkfeepepbchlaaGWr4
namespace Go.Proofs.Ytpkfeepepbchlaa.Sb
open Go.RowKit Go.Proofs.YtpkfeepepbchlaaW.PrintWords Go.Proofs.YtpkfeepepbchlaaW.PrintLast Go.Proofs.YtpkfeepepbchlaaW.PrintMore Go.Proofs.Ytpkfeepepbchlaa.PK
set_option linter.unusedVariables false
set_option linter.unusedSimpArgs false
theorem Rd.far {w0 w : World} {g : Nat} {s : List Int} {a : Nat} (h : Rd w0 w g s a) {p : Addr} (hp : g ≠ p.block) (hb : w0.heap.size ≤ p.block) (u : Value) : Rd w0 (w.setCell p u) g s a :=
  ⟨IsS105.far h.is hp u, h.below.setCell hb u, h.bytes, h.small, h.le⟩
structure GS (w W w0 : World) (g p : Nat) (t : TypeId) (l : List Int) (at_ : Nat) (rz cs : Array Value) : Prop where
  rd : Rd w0 W g l at_
  res : W.heap[w.heap.size]? = some (.cells rz t (0, 0))
  blk : W.heap[p]? = some (.cells cs t (0, 0))
  below : Below w.heap.size w W
  lt : w.heap.size < w0.heap.size
  ne : g < p
theorem GS.ge {w W w0 : World} {g p : Nat} {t : TypeId} {l : List Int} {at_ : Nat} {rz cs : Array Value} (h : GS w W w0 g p t l at_ rz cs) : w0.heap.size ≤ g := IsS105.ge h.rd.is
theorem GS.step {w W W' w0 : World} {g p : Nat} {t : TypeId} {l : List Int} {at_ a : Nat} {rz cs : Array Value} (h : GS w W w0 g p t l at_ rz cs) (h' : Rd w0 W' g l a) (k : KeepBut W W' g none) : GS w W' w0 g p t l a rz cs := by
  have hg := h.ge
  have hlt := h.lt
  have hne := h.ne
  exact ⟨h', k.blk h.res (by omega) (by simp), k.blk h.blk (by omega) (by simp), h.below.trans (h.rd.kept h' k (by omega)), hlt, hne⟩
theorem GS.put {w W w0 : World} {g p : Nat} {t : TypeId} {l : List Int} {at_ : Nat} {rz cs cs' : Array Value} (h : GS w W w0 g p t l at_ rz cs) (i : Nat) (u : Value) (e : cs.setIfInBounds i u = cs') : GS w (W.setCell ⟨p, i, none⟩ u) w0 g p t l at_ rz cs' := by
  have hg := h.ge
  have hlt := h.lt
  have hne := h.ne
  exact ⟨h.rd.far (by show g ≠ p; omega) (by show w0.heap.size ≤ p; omega) u, blk_far h.res (by show w.heap.size ≠ p; omega) u, blk_put h.blk i u e, h.below.setCell (by show w.heap.size ≤ p; omega) u, hlt, hne⟩
theorem GS.fill {w W w0 : World} {g p : Nat} {t : TypeId} {l : List Int} {at_ : Nat} {r0 r1 r2 r3 : Value} {cs : Array Value} (h : GS w W w0 g p t l at_ #[r0, r1, r2, r3] cs) (a b c d : Value) :
    ((((W.setCell ⟨w.heap.size, 0, none⟩ a).setCell ⟨w.heap.size, 1, none⟩ b).setCell ⟨w.heap.size, 2, none⟩ c).setCell ⟨w.heap.size, 3, none⟩ d).heap[w.heap.size]? = some (.cells #[a, b, c, d] t (0, 0)) ∧
    Below w.heap.size w ((((W.setCell ⟨w.heap.size, 0, none⟩ a).setCell ⟨w.heap.size, 1, none⟩ b).setCell ⟨w.heap.size, 2, none⟩ c).setCell ⟨w.heap.size, 3, none⟩ d) :=
  ⟨blk_put (blk_put (blk_put (blk_put h.res 0 _ rfl) 1 _ rfl) 2 _ rfl) 3 _ rfl, (((h.below.setCell (Nat.le_refl _) _).setCell (Nat.le_refl _) _).setCell (Nat.le_refl _) _).setCell (Nat.le_refl _) _⟩
theorem GS.fillR {w W w0 : World} {g p base : Nat} {t : TypeId} {l xs : List Int} {at_ : Nat} {r0 r1 r2 r3 v : Value} {cs : Array Value} (h : GS w W w0 g p t l at_ #[r0, r1, r2, r3] cs) (hr : Bs.R 5 W base (fun _ => True) v xs) (ht : ∀ q, q ∈ 5 :: Bs.E → q ≠ t) (a b c d : Value) :
    Bs.R 5 ((((W.setCell ⟨w.heap.size, 0, none⟩ a).setCell ⟨w.heap.size, 1, none⟩ b).setCell ⟨w.heap.size, 2, none⟩ c).setCell ⟨w.heap.size, 3, none⟩ d) base (fun _ => True) v xs :=
  Kd.R_set (Kd.R_set (Kd.R_set (Kd.R_set hr h.res ht 0 _) (blk_put h.res 0 _ rfl) ht 1 _) (blk_put (blk_put h.res 0 _ rfl) 1 _ rfl) ht 2 _) (blk_put (blk_put (blk_put h.res 0 _ rfl) 1 _ rfl) 2 _ rfl) ht 3 _
theorem strOfNums_size (xs : List Int) : (strOfNums xs).size = xs.length := by simp [strOfNums, ByteArray.size]
def getA (s : List Int) : Int × Int × List Int × List Int × Int :=
  if s.length < 5 then (0, 0, [], [], 1)
  else if (textR s 5 64).2.2 ≠ 0 then (0, 0, [], [], (textR s 5 64).2.2)
  else if (textR s (5 + (textR s 5 64).2.1) 60000).2.2 ≠ 0 then (0, 0, [], [], (textR s (5 + (textR s 5 64).2.1) 60000).2.2)
  else if s.length ≠ 5 + (textR s 5 64).2.1 + (textR s (5 + (textR s 5 64).2.1) 60000).2.1 then (0, 0, [], [], 2)
  else if okA (s.getD 0 0) (be ((s.drop 1).take 4)) (textR s 5 64).1.length (textR s (5 + (textR s 5 64).2.1) 60000).1.length = false then (0, 0, [], [], 14)
  else (s.getD 0 0, be ((s.drop 1).take 4), (textR s 5 64).1, (textR s (5 + (textR s 5 64).2.1) 60000).1, 0)
set_option maxRecDepth 20000 in
set_option maxHeartbeats 8000000 in
theorem GetAsk_calls (A : Option Addr) (n c : Nat) (l : List Int) (w : World) (hr : Bs.C w A n l) (hn : l.length = n) (hc : n ≤ c) (hl : n ≤ 70000) (hb : Bytes l) :
    Calls Try.prog 49 #[.slice A n c] w fun e w' => ∃ u, e = .returned (.tuple #[.agg #[.int .i64 (getA l).1, .int .i64 (getA l).2.1, .string (strOfNums (getA l).2.2.1), u], .int .i64 (getA l).2.2.2.2]) ∧ Bs.R 5 w' w.heap.size (fun _ => True) u (getA l).2.2.2.1 ∧ Below w.heap.size w w' := by
  have HR := Aside0.mk hr
  have HB := Aside0.mk hb
  have HN := Aside0.mk hn
  clear hr hb hn
  go_enter Try.func49, Try.ntmps49
  go_wp2_with fail
  refine (New_calls A n c l _ (Kd.C_alloc HR.out _) HN.out hc (by omega) HB.out).mono ?_
  rintro e w1 ⟨g, w0, rfl, hrd, hb1, hw0⟩
  have hw0' : w.heap.size < w0.heap.size := by
    have e : (w.alloc (Obj.cells #[.int .i64 0, .int .i64 0, .string { data := #[] }, .slice none 0 0] 30)).heap.size = w.heap.size + 1 := by simp
    omega
  have HRD := Aside0.mk hrd; have HB1 := Aside0.mk hb1
  clear hrd hb1
  go_wp2_with fail
  have hgs : GS w (w1.alloc (Obj.cells #[.int .i64 0, .int .i64 0, .string { data := #[] }, .slice none 0 0] 30)) w0 g w1.heap.size 30 l 0 #[.int .i64 0, .int .i64 0, .string { data := #[] }, .slice none 0 0] #[.int .i64 0, .int .i64 0, .string { data := #[] }, .slice none 0 0] :=
    ⟨HRD.out.later (below_alloc (Below.refl _ _) _), blk_alloc (blk_below (blk_new _ _) HB1.out) _, blk_new _ _, below_alloc (below_step (below_alloc (Below.refl _ _) _) HB1.out) _, hw0', IsS105.lt HRD.out.is⟩
  generalize (w1.alloc (Obj.cells #[.int .i64 0, .int .i64 0, .string { data := #[] }, .slice none 0 0] 30)) = W1 at hgs
  have HG := Aside0.mk hgs
  have n1 : w1.heap.size ≠ w.heap.size := by have := hgs.ge; have := hgs.lt; have := hgs.ne; omega
  have n2 : w.heap.size ≠ w1.heap.size := n1.symm
  clear hgs HRD HB1 hw0 hw0'
  by_cases h5 : l.length < 5
  · have hf := Aside0.mk (show getA l = (0, 0, [], [], 1) by unfold getA; rw [if_pos h5])
    refine (Two_short g l w0 _ HG.out.rd h5).mono ?_
    rintro e w2 ⟨x, y, b, rfl, h2, k2⟩
    have hgs := HG.out.step h2 k2
    clear HG h2 k2
    have HG := Aside0.mk hgs
    clear hgs
    have f0 : w2.cell? ⟨w1.heap.size, 0, none⟩ = some (.int .i64 0) := (blk_cell HG.out.blk 0).trans rfl
    have z0 := blk_frozen HG.out.blk 0
    have f1 : w2.cell? ⟨w1.heap.size, 1, none⟩ = some (.int .i64 0) := (blk_cell HG.out.blk 1).trans rfl
    have z1 := blk_frozen HG.out.blk 1
    have f2 : w2.cell? ⟨w1.heap.size, 2, none⟩ = some (.string { data := #[] }) := (blk_cell HG.out.blk 2).trans rfl
    have z2 := blk_frozen HG.out.blk 2
    have f3 : w2.cell? ⟨w1.heap.size, 3, none⟩ = some (.slice none 0 0) := (blk_cell HG.out.blk 3).trans rfl
    have z3 := blk_frozen HG.out.blk 3
    have q0 : w2.cell? ⟨w.heap.size, 0, none⟩ = some (.int .i64 0) := (blk_cell HG.out.res 0).trans rfl
    have y0 := blk_frozen HG.out.res 0
    have q1 : w2.cell? ⟨w.heap.size, 1, none⟩ = some (.int .i64 0) := (blk_cell HG.out.res 1).trans rfl
    have y1 := blk_frozen HG.out.res 1
    have q2 : w2.cell? ⟨w.heap.size, 2, none⟩ = some (.string { data := #[] }) := (blk_cell HG.out.res 2).trans rfl
    have y2 := blk_frozen HG.out.res 2
    have q3 : w2.cell? ⟨w.heap.size, 3, none⟩ = some (.slice none 0 0) := (blk_cell HG.out.res 3).trans rfl
    have y3 := blk_frozen HG.out.res 3
    go_wp2_with fail
    obtain ⟨hz1, hz2⟩ := ((HG.out.put 0 _ rfl).put 1 _ rfl).fill (.int .i64 0) (.int .i64 0) (.string { data := #[] }) (.slice none 0 0)
    refine bodyPost_ret (results_ct rfl _ _ w.heap.size 30 #[.int .i64 0, .int .i64 0, .string { data := #[] }, .slice none 0 0] (0, 0) _ rfl hz1 Try.underlying30 rfl (by kernel_rfl)) rfl ?_
    rw [hf.out]
    exact ⟨_, rfl, Kd.R_nil _ _ _ _ _, hz2⟩
  · have h5' : 5 ≤ l.length := by omega
    have hA : getA l = (if (textR l 5 64).2.2 ≠ 0 then (0, 0, [], [], (textR l 5 64).2.2)
      else if (textR l (5 + (textR l 5 64).2.1) 60000).2.2 ≠ 0 then (0, 0, [], [], (textR l (5 + (textR l 5 64).2.1) 60000).2.2)
      else if l.length ≠ 5 + (textR l 5 64).2.1 + (textR l (5 + (textR l 5 64).2.1) 60000).2.1 then (0, 0, [], [], 2)
      else if okA (l.getD 0 0) (be ((l.drop 1).take 4)) (textR l 5 64).1.length (textR l (5 + (textR l 5 64).2.1) 60000).1.length = false then (0, 0, [], [], 14)
      else (l.getD 0 0, be ((l.drop 1).take 4), (textR l 5 64).1, (textR l (5 + (textR l 5 64).2.1) 60000).1, 0)) := by
      conv => lhs; unfold getA
      rw [if_neg h5]
    have hT := Two_calls g l w0 _ HG.out.rd h5'
    generalize l.getD 0 0 = kd at hT hA
    generalize be ((l.drop 1).take 4) = nu at hT hA
    have HA := Aside0.mk hA
    clear hA
    refine hT.mono ?_
    clear hT
    rintro e w2 ⟨rfl, h2, k2⟩
    have hgs := HG.out.step h2 k2
    clear HG h2 k2
    have HG := Aside0.mk hgs
    clear hgs
    have f0 : w2.cell? ⟨w1.heap.size, 0, none⟩ = some (.int .i64 0) := (blk_cell HG.out.blk 0).trans rfl
    have z0 := blk_frozen HG.out.blk 0
    have f1 : w2.cell? ⟨w1.heap.size, 1, none⟩ = some (.int .i64 0) := (blk_cell HG.out.blk 1).trans rfl
    have z1 := blk_frozen HG.out.blk 1
    have f2 : w2.cell? ⟨w1.heap.size, 2, none⟩ = some (.string { data := #[] }) := (blk_cell HG.out.blk 2).trans rfl
    have z2 := blk_frozen HG.out.blk 2
    have f3 : w2.cell? ⟨w1.heap.size, 3, none⟩ = some (.slice none 0 0) := (blk_cell HG.out.blk 3).trans rfl
    have z3 := blk_frozen HG.out.blk 3
    go_wp2_with fail
    have hgs := (HG.out.put 0 (.int .i64 kd) rfl).put 1 (.int .i64 nu) rfl
    generalize ((w2.setCell ⟨w1.heap.size, 0, none⟩ (.int .i64 kd)).setCell ⟨w1.heap.size, 1, none⟩ (.int .i64 nu)) = W3 at hgs
    clear HG f0 f1 f2 f3 z0 z1 z2 z3
    have HG := Aside0.mk hgs
    clear hgs
    have hT := RText_calls g l 5 64 w0 W3 HG.out.rd (by omega) (by omega)
    have hL1 := textR_len l 5 64
    have hA := HA.out
    clear HA
    generalize textR l 5 64 = T1 at hT hA hL1
    obtain ⟨t1, m1, e1⟩ := T1
    simp only at hT hA hL1
    have HA := Aside0.mk hA
    have HL1 := Aside0.mk hL1
    clear hA hL1
    refine hT.mono ?_
    clear hT
    rintro e w4 ⟨u1, rfl, hu1, h4, k4⟩
    have hgs := HG.out.step h4 k4
    clear HG h4 k4
    have HG := Aside0.mk hgs
    clear hgs
    obtain ⟨A1, c1, rfl, hc1, hr1⟩ := Kd.R_reads hu1
    have HC1 := Aside0.mk hr1
    clear hu1 hr1
    by_cases k1 : e1 = 0
    · subst k1
      have ks := Kd.C_string (P := Try.prog) Try.underlying28 Try.underlying5 Try.underlying9 (c := c1) HC1.out
      have f0 : w4.cell? ⟨w1.heap.size, 0, none⟩ = some (.int .i64 kd) := (blk_cell HG.out.blk 0).trans rfl
      have z0 := blk_frozen HG.out.blk 0
      have f1 : w4.cell? ⟨w1.heap.size, 1, none⟩ = some (.int .i64 nu) := (blk_cell HG.out.blk 1).trans rfl
      have z1 := blk_frozen HG.out.blk 1
      have f2 : w4.cell? ⟨w1.heap.size, 2, none⟩ = some (.string { data := #[] }) := (blk_cell HG.out.blk 2).trans rfl
      have z2 := blk_frozen HG.out.blk 2
      have f3 : w4.cell? ⟨w1.heap.size, 3, none⟩ = some (.slice none 0 0) := (blk_cell HG.out.blk 3).trans rfl
      have z3 := blk_frozen HG.out.blk 3
      go_wp2_with fail
      have hgs := HG.out.put 2 (.string (strOfNums t1)) rfl
      generalize (w4.setCell ⟨w1.heap.size, 2, none⟩ (.string (strOfNums t1))) = W5 at hgs
      clear HG f0 f1 f2 f3 z0 z1 z2 z3 ks
      have HG := Aside0.mk hgs
      clear hgs
      have hT := RText_calls g l (5 + m1) 60000 w0 W5 HG.out.rd (by omega) (by omega)
      have hL2 := textR_len l (5 + m1) 60000
      have hA := HA.out
      clear HA
      generalize textR l (5 + m1) 60000 = T2 at hT hA hL2
      obtain ⟨t2, m2, e2⟩ := T2
      simp only at hT hA hL2
      have HA := Aside0.mk hA
      have HL2 := Aside0.mk hL2
      clear hA hL2
      refine hT.mono ?_
      clear hT
      rintro e w6 ⟨u2, rfl, hu2, h6, k6⟩
      have hgs := HG.out.step h6 k6
      have hpb : w1.heap.size < W5.heap.size := blk_lt HG.out.blk
      clear HG h6 k6
      have HG := Aside0.mk hgs
      clear hgs
      obtain ⟨A2, c2, rfl, hc2, hr2⟩ := Kd.R_reads hu2
      have HU2 := Aside0.mk hu2
      clear hu2 hr2
      by_cases k2 : e2 = 0
      · subst k2
        have f0 : w6.cell? ⟨w1.heap.size, 0, none⟩ = some (.int .i64 kd) := (blk_cell HG.out.blk 0).trans rfl
        have z0 := blk_frozen HG.out.blk 0
        have f1 : w6.cell? ⟨w1.heap.size, 1, none⟩ = some (.int .i64 nu) := (blk_cell HG.out.blk 1).trans rfl
        have z1 := blk_frozen HG.out.blk 1
        have f2 : w6.cell? ⟨w1.heap.size, 2, none⟩ = some (.string (strOfNums t1)) := (blk_cell HG.out.blk 2).trans rfl
        have z2 := blk_frozen HG.out.blk 2
        have f3 : w6.cell? ⟨w1.heap.size, 3, none⟩ = some (.slice none 0 0) := (blk_cell HG.out.blk 3).trans rfl
        have z3 := blk_frozen HG.out.blk 3
        go_wp2_with fail
        have hgs := HG.out.put 3 (.slice A2 t2.length c2) rfl
        have hu3 : Bs.R 5 (w6.setCell ⟨w1.heap.size, 3, none⟩ (.slice A2 t2.length c2)) W5.heap.size (fun _ => True) (.slice A2 t2.length c2) t2 := Kd.R_set HU2.out HG.out.blk (by decide) 3 _
        generalize (w6.setCell ⟨w1.heap.size, 3, none⟩ (.slice A2 t2.length c2)) = W7 at hgs hu3
        clear HG f0 f1 f2 f3 z0 z1 z2 z3 HU2
        have HG := Aside0.mk hgs
        have HU2 := Aside0.mk hu3
        clear hgs hu3
        have f0 : W7.cell? ⟨w1.heap.size, 0, none⟩ = some (.int .i64 kd) := (blk_cell HG.out.blk 0).trans rfl
        have z0 := blk_frozen HG.out.blk 0
        have f1 : W7.cell? ⟨w1.heap.size, 1, none⟩ = some (.int .i64 nu) := (blk_cell HG.out.blk 1).trans rfl
        have z1 := blk_frozen HG.out.blk 1
        have f2 : W7.cell? ⟨w1.heap.size, 2, none⟩ = some (.string (strOfNums t1)) := (blk_cell HG.out.blk 2).trans rfl
        have z2 := blk_frozen HG.out.blk 2
        have f3 : W7.cell? ⟨w1.heap.size, 3, none⟩ = some (.slice A2 t2.length c2) := (blk_cell HG.out.blk 3).trans rfl
        have z3 := blk_frozen HG.out.blk 3
        go_wp2_with fail
        clear f0 f1 f2 f3
        refine (endedA_calls g l (5 + m1 + m2) kd nu (strOfNums t1) A2 t2.length c2 w0 W7 HG.out.rd (by have := HL2.out; have := HN.out; omega) (by rw [strOfNums_size]; have := HL1.out; have := HN.out; omega)).mono ?_
        rw [strOfNums_size]
        rintro e w8 ⟨rfl, h8, k8⟩
        have hgs := HG.out.step h8 k8
        have hu3 := R_over HU2.out (by have := HG.out.ne; omega) k8
        clear HG h8 k8 HU2
        have HG := Aside0.mk hgs
        have HU2 := Aside0.mk hu3
        clear hgs hu3
        by_cases k3 : l.length = 5 + m1 + m2
        · rw [if_pos k3]
          cases k4 : okA kd nu t1.length t2.length with
          | true =>
            have hf := Aside0.mk (show getA l = (kd, nu, t1, t2, 0) by rw [HA.out]; simp [k3, k4])
            rw [if_pos rfl]
            clear k3 k4
            have f0 : w8.cell? ⟨w1.heap.size, 0, none⟩ = some (.int .i64 kd) := (blk_cell HG.out.blk 0).trans rfl
            have z0 := blk_frozen HG.out.blk 0
            have f1 : w8.cell? ⟨w1.heap.size, 1, none⟩ = some (.int .i64 nu) := (blk_cell HG.out.blk 1).trans rfl
            have z1 := blk_frozen HG.out.blk 1
            have f2 : w8.cell? ⟨w1.heap.size, 2, none⟩ = some (.string (strOfNums t1)) := (blk_cell HG.out.blk 2).trans rfl
            have z2 := blk_frozen HG.out.blk 2
            have f3 : w8.cell? ⟨w1.heap.size, 3, none⟩ = some (.slice A2 t2.length c2) := (blk_cell HG.out.blk 3).trans rfl
            have z3 := blk_frozen HG.out.blk 3
            have q0 : w8.cell? ⟨w.heap.size, 0, none⟩ = some (.int .i64 0) := (blk_cell HG.out.res 0).trans rfl
            have y0 := blk_frozen HG.out.res 0
            have q1 : w8.cell? ⟨w.heap.size, 1, none⟩ = some (.int .i64 0) := (blk_cell HG.out.res 1).trans rfl
            have y1 := blk_frozen HG.out.res 1
            have q2 : w8.cell? ⟨w.heap.size, 2, none⟩ = some (.string { data := #[] }) := (blk_cell HG.out.res 2).trans rfl
            have y2 := blk_frozen HG.out.res 2
            have q3 : w8.cell? ⟨w.heap.size, 3, none⟩ = some (.slice none 0 0) := (blk_cell HG.out.res 3).trans rfl
            have y3 := blk_frozen HG.out.res 3
            go_wp2_with fail
            obtain ⟨hz1, hz2⟩ := HG.out.fill (.int .i64 kd) (.int .i64 nu) (.string (strOfNums t1)) (.slice A2 t2.length c2)
            refine bodyPost_ret (results_ct rfl _ _ w.heap.size 30 #[.int .i64 kd, .int .i64 nu, .string (strOfNums t1), .slice A2 t2.length c2] (0, 0) _ rfl hz1 Try.underlying30 rfl (by kernel_rfl)) rfl ?_
            rw [hf.out]
            exact ⟨_, rfl, Kd.R_lower (HG.out.fillR HU2.out (by decide) _ _ _ _) (by have := HG.out.lt; have := HG.out.ge; have := HG.out.ne; omega), hz2⟩
          | false =>
            have hf := Aside0.mk (show getA l = (0, 0, [], [], 14) by rw [HA.out]; simp [k3, k4])
            rw [if_neg (by decide)]
            clear k3 k4
            have f0 : w8.cell? ⟨w1.heap.size, 0, none⟩ = some (.int .i64 kd) := (blk_cell HG.out.blk 0).trans rfl
            have z0 := blk_frozen HG.out.blk 0
            have f1 : w8.cell? ⟨w1.heap.size, 1, none⟩ = some (.int .i64 nu) := (blk_cell HG.out.blk 1).trans rfl
            have z1 := blk_frozen HG.out.blk 1
            have f2 : w8.cell? ⟨w1.heap.size, 2, none⟩ = some (.string (strOfNums t1)) := (blk_cell HG.out.blk 2).trans rfl
            have z2 := blk_frozen HG.out.blk 2
            have f3 : w8.cell? ⟨w1.heap.size, 3, none⟩ = some (.slice A2 t2.length c2) := (blk_cell HG.out.blk 3).trans rfl
            have z3 := blk_frozen HG.out.blk 3
            have q0 : w8.cell? ⟨w.heap.size, 0, none⟩ = some (.int .i64 0) := (blk_cell HG.out.res 0).trans rfl
            have y0 := blk_frozen HG.out.res 0
            have q1 : w8.cell? ⟨w.heap.size, 1, none⟩ = some (.int .i64 0) := (blk_cell HG.out.res 1).trans rfl
            have y1 := blk_frozen HG.out.res 1
            have q2 : w8.cell? ⟨w.heap.size, 2, none⟩ = some (.string { data := #[] }) := (blk_cell HG.out.res 2).trans rfl
            have y2 := blk_frozen HG.out.res 2
            have q3 : w8.cell? ⟨w.heap.size, 3, none⟩ = some (.slice none 0 0) := (blk_cell HG.out.res 3).trans rfl
            have y3 := blk_frozen HG.out.res 3
            go_wp2_with fail
            obtain ⟨hz1, hz2⟩ := (HG.out).fill (.int .i64 0) (.int .i64 0) (.string { data := #[] }) (.slice none 0 0)
            refine bodyPost_ret (results_ct rfl _ _ w.heap.size 30 #[.int .i64 0, .int .i64 0, .string { data := #[] }, .slice none 0 0] (0, 0) _ rfl hz1 Try.underlying30 rfl (by kernel_rfl)) rfl ?_
            rw [hf.out]
            exact ⟨_, rfl, Kd.R_nil _ _ _ _ _, hz2⟩
        · rw [if_neg k3]
          have hf := Aside0.mk (show getA l = (0, 0, [], [], 2) by rw [HA.out]; simp [k3])
          clear k3
          have f0 : w8.cell? ⟨w1.heap.size, 0, none⟩ = some (.int .i64 kd) := (blk_cell HG.out.blk 0).trans rfl
          have z0 := blk_frozen HG.out.blk 0
          have f1 : w8.cell? ⟨w1.heap.size, 1, none⟩ = some (.int .i64 nu) := (blk_cell HG.out.blk 1).trans rfl
          have z1 := blk_frozen HG.out.blk 1
          have f2 : w8.cell? ⟨w1.heap.size, 2, none⟩ = some (.string (strOfNums t1)) := (blk_cell HG.out.blk 2).trans rfl
          have z2 := blk_frozen HG.out.blk 2
          have f3 : w8.cell? ⟨w1.heap.size, 3, none⟩ = some (.slice A2 t2.length c2) := (blk_cell HG.out.blk 3).trans rfl
          have z3 := blk_frozen HG.out.blk 3
          have q0 : w8.cell? ⟨w.heap.size, 0, none⟩ = some (.int .i64 0) := (blk_cell HG.out.res 0).trans rfl
          have y0 := blk_frozen HG.out.res 0
          have q1 : w8.cell? ⟨w.heap.size, 1, none⟩ = some (.int .i64 0) := (blk_cell HG.out.res 1).trans rfl
          have y1 := blk_frozen HG.out.res 1
          have q2 : w8.cell? ⟨w.heap.size, 2, none⟩ = some (.string { data := #[] }) := (blk_cell HG.out.res 2).trans rfl
          have y2 := blk_frozen HG.out.res 2
          have q3 : w8.cell? ⟨w.heap.size, 3, none⟩ = some (.slice none 0 0) := (blk_cell HG.out.res 3).trans rfl
          have y3 := blk_frozen HG.out.res 3
          go_wp2_with fail
          obtain ⟨hz1, hz2⟩ := (HG.out).fill (.int .i64 0) (.int .i64 0) (.string { data := #[] }) (.slice none 0 0)
          refine bodyPost_ret (results_ct rfl _ _ w.heap.size 30 #[.int .i64 0, .int .i64 0, .string { data := #[] }, .slice none 0 0] (0, 0) _ rfl hz1 Try.underlying30 rfl (by kernel_rfl)) rfl ?_
          rw [hf.out]
          exact ⟨_, rfl, Kd.R_nil _ _ _ _ _, hz2⟩
      · have k2b : (e2 == 0) = false := beq_eq_false_iff_ne.2 k2
        have k2c : (e2 != 0) = true := bne_iff_ne.2 k2
        have hf := Aside0.mk (show getA l = (0, 0, [], [], e2) by rw [HA.out]; simp [k2])
        clear k2
        have f0 : w6.cell? ⟨w1.heap.size, 0, none⟩ = some (.int .i64 kd) := (blk_cell HG.out.blk 0).trans rfl
        have z0 := blk_frozen HG.out.blk 0
        have f1 : w6.cell? ⟨w1.heap.size, 1, none⟩ = some (.int .i64 nu) := (blk_cell HG.out.blk 1).trans rfl
        have z1 := blk_frozen HG.out.blk 1
        have f2 : w6.cell? ⟨w1.heap.size, 2, none⟩ = some (.string (strOfNums t1)) := (blk_cell HG.out.blk 2).trans rfl
        have z2 := blk_frozen HG.out.blk 2
        have f3 : w6.cell? ⟨w1.heap.size, 3, none⟩ = some (.slice none 0 0) := (blk_cell HG.out.blk 3).trans rfl
        have z3 := blk_frozen HG.out.blk 3
        have q0 : w6.cell? ⟨w.heap.size, 0, none⟩ = some (.int .i64 0) := (blk_cell HG.out.res 0).trans rfl
        have y0 := blk_frozen HG.out.res 0
        have q1 : w6.cell? ⟨w.heap.size, 1, none⟩ = some (.int .i64 0) := (blk_cell HG.out.res 1).trans rfl
        have y1 := blk_frozen HG.out.res 1
        have q2 : w6.cell? ⟨w.heap.size, 2, none⟩ = some (.string { data := #[] }) := (blk_cell HG.out.res 2).trans rfl
        have y2 := blk_frozen HG.out.res 2
        have q3 : w6.cell? ⟨w.heap.size, 3, none⟩ = some (.slice none 0 0) := (blk_cell HG.out.res 3).trans rfl
        have y3 := blk_frozen HG.out.res 3
        go_wp2_with fail
        obtain ⟨hz1, hz2⟩ := (HG.out.put 3 _ rfl).fill (.int .i64 0) (.int .i64 0) (.string { data := #[] }) (.slice none 0 0)
        refine bodyPost_ret (results_ct rfl _ _ w.heap.size 30 #[.int .i64 0, .int .i64 0, .string { data := #[] }, .slice none 0 0] (0, 0) _ rfl hz1 Try.underlying30 rfl (by kernel_rfl)) rfl ?_
        rw [hf.out]
        exact ⟨_, rfl, Kd.R_nil _ _ _ _ _, hz2⟩
    · have k1b : (e1 == 0) = false := beq_eq_false_iff_ne.2 k1
      have k1c : (e1 != 0) = true := bne_iff_ne.2 k1
      have hf := Aside0.mk (show getA l = (0, 0, [], [], e1) by rw [HA.out]; simp [k1])
      clear k1
      have f0 : w4.cell? ⟨w1.heap.size, 0, none⟩ = some (.int .i64 kd) := (blk_cell HG.out.blk 0).trans rfl
      have z0 := blk_frozen HG.out.blk 0
      have f1 : w4.cell? ⟨w1.heap.size, 1, none⟩ = some (.int .i64 nu) := (blk_cell HG.out.blk 1).trans rfl
      have z1 := blk_frozen HG.out.blk 1
      have f2 : w4.cell? ⟨w1.heap.size, 2, none⟩ = some (.string { data := #[] }) := (blk_cell HG.out.blk 2).trans rfl
      have z2 := blk_frozen HG.out.blk 2
      have f3 : w4.cell? ⟨w1.heap.size, 3, none⟩ = some (.slice none 0 0) := (blk_cell HG.out.blk 3).trans rfl
      have z3 := blk_frozen HG.out.blk 3
      have q0 : w4.cell? ⟨w.heap.size, 0, none⟩ = some (.int .i64 0) := (blk_cell HG.out.res 0).trans rfl
      have y0 := blk_frozen HG.out.res 0
      have q1 : w4.cell? ⟨w.heap.size, 1, none⟩ = some (.int .i64 0) := (blk_cell HG.out.res 1).trans rfl
      have y1 := blk_frozen HG.out.res 1
      have q2 : w4.cell? ⟨w.heap.size, 2, none⟩ = some (.string { data := #[] }) := (blk_cell HG.out.res 2).trans rfl
      have y2 := blk_frozen HG.out.res 2
      have q3 : w4.cell? ⟨w.heap.size, 3, none⟩ = some (.slice none 0 0) := (blk_cell HG.out.res 3).trans rfl
      have y3 := blk_frozen HG.out.res 3
      go_wp2_with fail
      obtain ⟨hz1, hz2⟩ := (HG.out).fill (.int .i64 0) (.int .i64 0) (.string { data := #[] }) (.slice none 0 0)
      refine bodyPost_ret (results_ct rfl _ _ w.heap.size 30 #[.int .i64 0, .int .i64 0, .string { data := #[] }, .slice none 0 0] (0, 0) _ rfl hz1 Try.underlying30 rfl (by kernel_rfl)) rfl ?_
      rw [hf.out]
      exact ⟨_, rfl, Kd.R_nil _ _ _ _ _, hz2⟩
end Go.Proofs.Ytpkfeepepbchlaa.Sb
