import Derived.Test.YtpkfeepepbchlaaGWr7
namespace Go.Proofs.Ytpkfeepepbchlaa.Sb
open Go.RowKit Go.Proofs.YtpkfeepepbchlaaW.PrintWords Go.Proofs.YtpkfeepepbchlaaW.PrintLast Go.Proofs.YtpkfeepepbchlaaW.PrintMore Go.Proofs.Ytpkfeepepbchlaa.PK
set_option linter.unusedVariables false
set_option linter.unusedSimpArgs false
theorem info9 : (Try.prog.info? 9).map (fun i => (i.zero, i.size, i.bytes)) = some (some (.string ⟨#[]⟩), 1, 16) := by kernel_rfl
set_option maxRecDepth 20000 in
set_option maxHeartbeats 1000000 in
theorem endedN_calls (g : Nat) (s : List Int) (at_ : Nat) (num code : Int) (A : Option Addr) (n c : Nat) (B : Option Addr) (d : Nat) (l : List ByteArray) (w0 w : World) (h : Rd w0 w g s at_) (hn : n ≤ 140737488355328) (hm : l.length ≤ 140737488355328) (hB : Kd.C Kd.string w B l.length l) (hF : ∀ ad, B = some ad → 0 < l.length → ad.block ≠ g) :
    Calls Try.prog 44 #[.pointer (some ⟨g, 0, none⟩), .iface 89 (.agg #[.int .i64 num, .int .i64 code, .slice A n c, .slice B l.length d])] w fun e w' =>
      e = .returned (.int .i64 (if s.length = at_ then (if okR num code n l then 0 else 14) else 2)) ∧ Rd w0 w' g s at_ ∧ KeepBut w w' g none := by
  have HR := Aside0.mk h
  have HN := Aside0.mk hB
  have HF := Aside0.mk hF
  clear h hB hF
  by_cases c1 : s.length = at_
  · have HE := Aside0.mk (show endR s at_ = 0 by unfold endR; rw [if_pos c1])
    rw [if_pos c1]
    clear c1
    cases hK : okR num code n l with
    | true =>
      rw [if_pos rfl]
      go_enter Try.func44, Try.ntmps44
      go_wp2_with fail
      refine (REnd_calls g s at_ w0 w HR.out).mono ?_
      rw [HE.out]
      rintro e w1 ⟨rfl, h1, k1⟩
      have HR1 := Aside0.mk h1; have HK1 := Aside0.mk k1
      clear h1 k1
      go_wp2_with fail
      refine (answerRight_calls num code A n c B d l _ hn hm (Kd.C_keep ByteArray.empty HN.out HK1.out HF.out)).mono ?_
      rintro e w2 ⟨rfl, hb⟩
      have HB := Aside0.mk hb
      clear hb
      go_wp2_with fail
      go_ret
      exact ⟨rfl, HR1.out.later HB.out, HK1.out.trans (KeepBut.of_below HB.out g none) (.inl rfl)⟩
    | false =>
      rw [if_neg (by decide)]
      go_enter Try.func44, Try.ntmps44
      go_wp2_with fail
      refine (REnd_calls g s at_ w0 w HR.out).mono ?_
      rw [HE.out]
      rintro e w1 ⟨rfl, h1, k1⟩
      have HR1 := Aside0.mk h1; have HK1 := Aside0.mk k1
      clear h1 k1
      go_wp2_with fail
      refine (answerRight_calls num code A n c B d l _ hn hm (Kd.C_keep ByteArray.empty HN.out HK1.out HF.out)).mono ?_
      rintro e w2 ⟨rfl, hb⟩
      have HB := Aside0.mk hb
      clear hb
      go_wp2_with fail
      go_ret
      exact ⟨rfl, HR1.out.later HB.out, HK1.out.trans (KeepBut.of_below HB.out g none) (.inl rfl)⟩
  · have HE := Aside0.mk (show endR s at_ = 2 by unfold endR; rw [if_neg c1])
    rw [if_neg c1]
    clear c1
    go_enter Try.func44, Try.ntmps44
    go_wp2_with fail
    refine (REnd_calls g s at_ w0 w HR.out).mono ?_
    rw [HE.out]
    rintro e w1 ⟨rfl, h1, k1⟩
    go_wp2_with fail
    go_ret
    exact ⟨rfl, h1, k1⟩
theorem GS.grown {w W W' w0 : World} {g p b : Nat} {t : TypeId} {l : List Int} {at_ : Nat} {rz cs : Array Value} {row : Option Nat} (h : GS w W w0 g p t l at_ rz cs) (hg : W.grownBy W' row) (hb : Below b W W') (hp : p < b) (hr : ∀ k, row = some k → b ≤ k) : GS w W' w0 g p t l at_ rz cs := by
  have h1 := h.ge
  have h2 := h.lt
  have h3 := h.ne
  have ne : ∀ k, k < b → some k ≠ row := fun k hk e => by have := hr k e.symm; omega
  exact ⟨⟨h.rd.is.grown hg (ne g (by omega)), h.rd.below.trans (hb.mono (by omega)), h.rd.bytes, h.rd.small, h.rd.le⟩, blk_grown h.res hg (ne _ (by omega)), blk_grown h.blk hg (ne _ hp), h.below.trans (hb.mono (by omega)), h2, h3⟩
theorem GS.fillRg {α : Type} {d0 : Kd α} {e0 : Nat} {w W w0 : World} {g p base : Nat} {t : TypeId} {l : List Int} {xs : List α} {at_ : Nat} {r0 r1 r2 r3 v : Value} {cs : Array Value} (h : GS w W w0 g p t l at_ #[r0, r1, r2, r3] cs) (hr : d0.R e0 W base (fun _ => True) v xs) (ht : ∀ q, q ∈ e0 :: d0.E → q ≠ t) (a b c d : Value) :
    d0.R e0 ((((W.setCell ⟨w.heap.size, 0, none⟩ a).setCell ⟨w.heap.size, 1, none⟩ b).setCell ⟨w.heap.size, 2, none⟩ c).setCell ⟨w.heap.size, 3, none⟩ d) base (fun _ => True) v xs :=
  Kd.R_set (Kd.R_set (Kd.R_set (Kd.R_set hr h.res ht 0 _) (blk_put h.res 0 _ rfl) ht 1 _) (blk_put (blk_put h.res 0 _ rfl) 1 _ rfl) ht 2 _) (blk_put (blk_put (blk_put h.res 0 _ rfl) 1 _ rfl) 2 _ rfl) ht 3 _
def namesR (s : List Int) : Nat → Nat → List ByteArray × Nat × Int
  | 0, at_ => ([], at_, 0)
  | k + 1, at_ => if (textR s at_ 64).2.2 ≠ 0 then ([], at_, (textR s at_ 64).2.2) else
      (strOfNums (textR s at_ 64).1 :: (namesR s k (at_ + (textR s at_ 64).2.1)).1, (namesR s k (at_ + (textR s at_ 64).2.1)).2)
def getN (s : List Int) : Int × Int × List Int × List ByteArray × Int :=
  if s.length < 5 then (0, 0, [], [], 1)
  else if (textR s 5 60000).2.2 ≠ 0 then (0, 0, [], [], (textR s 5 60000).2.2)
  else if (smallR s (5 + (textR s 5 60000).2.1) 1000).2.2 ≠ 0 then (0, 0, [], [], (smallR s (5 + (textR s 5 60000).2.1) 1000).2.2)
  else if (namesR s (smallR s (5 + (textR s 5 60000).2.1) 1000).1.toNat (5 + (textR s 5 60000).2.1 + (smallR s (5 + (textR s 5 60000).2.1) 1000).2.1)).2.2 ≠ 0 then
    (0, 0, [], [], (namesR s (smallR s (5 + (textR s 5 60000).2.1) 1000).1.toNat (5 + (textR s 5 60000).2.1 + (smallR s (5 + (textR s 5 60000).2.1) 1000).2.1)).2.2)
  else if s.length ≠ (namesR s (smallR s (5 + (textR s 5 60000).2.1) 1000).1.toNat (5 + (textR s 5 60000).2.1 + (smallR s (5 + (textR s 5 60000).2.1) 1000).2.1)).2.1 then (0, 0, [], [], 2)
  else if okR (be ((s.drop 1).take 4)) (s.getD 0 0) (textR s 5 60000).1.length (namesR s (smallR s (5 + (textR s 5 60000).2.1) 1000).1.toNat (5 + (textR s 5 60000).2.1 + (smallR s (5 + (textR s 5 60000).2.1) 1000).2.1)).1 = false then (0, 0, [], [], 14)
  else (be ((s.drop 1).take 4), s.getD 0 0, (textR s 5 60000).1, (namesR s (smallR s (5 + (textR s 5 60000).2.1) 1000).1.toNat (5 + (textR s 5 60000).2.1 + (smallR s (5 + (textR s 5 60000).2.1) 1000).2.1)).1, 0)
set_option maxRecDepth 20000 in
set_option maxHeartbeats 16000000 in
theorem GetAnswer_calls (A : Option Addr) (n c : Nat) (l : List Int) (w : World) (hr : Bs.C w A n l) (hn : l.length = n) (hc : n ≤ c) (hl : n ≤ 200000) (hb : Bytes l) :
    Calls Try.prog 29 #[.slice A n c] w fun e w' => ∃ u v, e = .returned (.tuple #[.agg #[.int .i64 (getN l).1, .int .i64 (getN l).2.1, u, v], .int .i64 (getN l).2.2.2.2]) ∧ Bs.R 5 w' w.heap.size (fun _ => True) u (getN l).2.2.1 ∧ Kd.string.R 9 w' w.heap.size (fun _ => True) v (getN l).2.2.2.1 ∧ Below w.heap.size w w' := by
  have HR := Aside0.mk hr
  have HB := Aside0.mk hb
  have HN := Aside0.mk hn
  clear hr hb hn
  go_enter Try.func29, Try.ntmps29
  go_wp2_with fail
  refine (New_calls A n c l _ (Kd.C_alloc HR.out _) HN.out hc (by omega) HB.out).mono ?_
  rintro e w1 ⟨g, w0, rfl, hrd, hb1, hw0⟩
  have hw0' : w.heap.size < w0.heap.size := by
    have e : (w.alloc (Obj.cells #[.int .i64 0, .int .i64 0, .slice none 0 0, .slice none 0 0] 36)).heap.size = w.heap.size + 1 := by simp
    omega
  have HRD := Aside0.mk hrd; have HB1 := Aside0.mk hb1
  clear hrd hb1
  go_wp2_with fail
  have hgs : GS w (w1.alloc (Obj.cells #[.int .i64 0, .int .i64 0, .slice none 0 0, .slice none 0 0] 36)) w0 g w1.heap.size 36 l 0 #[.int .i64 0, .int .i64 0, .slice none 0 0, .slice none 0 0] #[.int .i64 0, .int .i64 0, .slice none 0 0, .slice none 0 0] :=
    ⟨HRD.out.later (below_alloc (Below.refl _ _) _), blk_alloc (blk_below (blk_new _ _) HB1.out) _, blk_new _ _, below_alloc (below_step (below_alloc (Below.refl _ _) _) HB1.out) _, hw0', IsS105.lt HRD.out.is⟩
  generalize (w1.alloc (Obj.cells #[.int .i64 0, .int .i64 0, .slice none 0 0, .slice none 0 0] 36)) = W1 at hgs
  have HG := Aside0.mk hgs
  have n1 : w1.heap.size ≠ w.heap.size := by have := hgs.ge; have := hgs.lt; have := hgs.ne; omega
  have n2 : w.heap.size ≠ w1.heap.size := n1.symm
  clear hgs HRD HB1 hw0 hw0'
  by_cases h5 : l.length < 5
  · have hf := Aside0.mk (show getN l = (0, 0, [], [], 1) by unfold getN; rw [if_pos h5])
    refine (Two_short g l w0 _ HG.out.rd h5).mono ?_
    rintro e w2 ⟨x, y, b, rfl, h2, k2⟩
    have hgs := HG.out.step h2 k2
    clear HG h2 k2
    have HG := Aside0.mk hgs
    clear hgs
    have f0 : w2.cell? ⟨w1.heap.size, 0, none⟩ = some (.int .i64 0) := (blk_cell HG.out.blk 0).trans rfl
    have z0 := blk_frozen HG.out.blk 0
    have f1 : w2.cell? ⟨w1.heap.size, 1, none⟩ = some (.int .i64 0) := (blk_cell HG.out.blk 1).trans rfl
    have z1 := blk_frozen HG.out.blk 1
    have f2 : w2.cell? ⟨w1.heap.size, 2, none⟩ = some (.slice none 0 0) := (blk_cell HG.out.blk 2).trans rfl
    have z2 := blk_frozen HG.out.blk 2
    have f3 : w2.cell? ⟨w1.heap.size, 3, none⟩ = some (.slice none 0 0) := (blk_cell HG.out.blk 3).trans rfl
    have z3 := blk_frozen HG.out.blk 3
    have q0 : w2.cell? ⟨w.heap.size, 0, none⟩ = some (.int .i64 0) := (blk_cell HG.out.res 0).trans rfl
    have y0 := blk_frozen HG.out.res 0
    have q1 : w2.cell? ⟨w.heap.size, 1, none⟩ = some (.int .i64 0) := (blk_cell HG.out.res 1).trans rfl
    have y1 := blk_frozen HG.out.res 1
    have q2 : w2.cell? ⟨w.heap.size, 2, none⟩ = some (.slice none 0 0) := (blk_cell HG.out.res 2).trans rfl
    have y2 := blk_frozen HG.out.res 2
    have q3 : w2.cell? ⟨w.heap.size, 3, none⟩ = some (.slice none 0 0) := (blk_cell HG.out.res 3).trans rfl
    have y3 := blk_frozen HG.out.res 3
    go_wp2_with fail
    obtain ⟨hz1, hz2⟩ := ((HG.out.put 1 _ rfl).put 0 _ rfl).fill (.int .i64 0) (.int .i64 0) (.slice none 0 0) (.slice none 0 0)
    refine bodyPost_ret (results_ct rfl _ _ w.heap.size 36 #[.int .i64 0, .int .i64 0, .slice none 0 0, .slice none 0 0] (0, 0) _ rfl hz1 Try.underlying36 rfl (by kernel_rfl)) rfl ?_
    rw [hf.out]
    exact ⟨_, _, rfl, Kd.R_nil _ _ _ _ _, Kd.R_nil _ _ _ _ _, hz2⟩
  have h5' : 5 ≤ l.length := by omega
  have hT := Two_calls g l w0 _ HG.out.rd h5'
  have hA : getN l = (if (textR l 5 60000).2.2 ≠ 0 then (0, 0, [], [], (textR l 5 60000).2.2)
    else if (smallR l (5 + (textR l 5 60000).2.1) 1000).2.2 ≠ 0 then (0, 0, [], [], (smallR l (5 + (textR l 5 60000).2.1) 1000).2.2)
    else if (namesR l (smallR l (5 + (textR l 5 60000).2.1) 1000).1.toNat (5 + (textR l 5 60000).2.1 + (smallR l (5 + (textR l 5 60000).2.1) 1000).2.1)).2.2 ≠ 0 then
      (0, 0, [], [], (namesR l (smallR l (5 + (textR l 5 60000).2.1) 1000).1.toNat (5 + (textR l 5 60000).2.1 + (smallR l (5 + (textR l 5 60000).2.1) 1000).2.1)).2.2)
    else if l.length ≠ (namesR l (smallR l (5 + (textR l 5 60000).2.1) 1000).1.toNat (5 + (textR l 5 60000).2.1 + (smallR l (5 + (textR l 5 60000).2.1) 1000).2.1)).2.1 then (0, 0, [], [], 2)
    else if okR (be ((l.drop 1).take 4)) (l.getD 0 0) (textR l 5 60000).1.length (namesR l (smallR l (5 + (textR l 5 60000).2.1) 1000).1.toNat (5 + (textR l 5 60000).2.1 + (smallR l (5 + (textR l 5 60000).2.1) 1000).2.1)).1 = false then (0, 0, [], [], 14)
    else (be ((l.drop 1).take 4), l.getD 0 0, (textR l 5 60000).1, (namesR l (smallR l (5 + (textR l 5 60000).2.1) 1000).1.toNat (5 + (textR l 5 60000).2.1 + (smallR l (5 + (textR l 5 60000).2.1) 1000).2.1)).1, 0)) := by
    conv => lhs; unfold getN
    rw [if_neg h5]
  generalize l.getD 0 0 = kd at hT hA
  generalize be ((l.drop 1).take 4) = nu at hT hA
  have HA := Aside0.mk hA
  clear hA
  refine hT.mono ?_
  clear hT
  rintro e w2 ⟨rfl, h2, k2⟩
  have hgs := HG.out.step h2 k2
  clear HG h2 k2
  have HG := Aside0.mk hgs
  clear hgs
  have f0 : w2.cell? ⟨w1.heap.size, 0, none⟩ = some (.int .i64 0) := (blk_cell HG.out.blk 0).trans rfl
  have z0 := blk_frozen HG.out.blk 0
  have f1 : w2.cell? ⟨w1.heap.size, 1, none⟩ = some (.int .i64 0) := (blk_cell HG.out.blk 1).trans rfl
  have z1 := blk_frozen HG.out.blk 1
  have f2 : w2.cell? ⟨w1.heap.size, 2, none⟩ = some (.slice none 0 0) := (blk_cell HG.out.blk 2).trans rfl
  have z2 := blk_frozen HG.out.blk 2
  have f3 : w2.cell? ⟨w1.heap.size, 3, none⟩ = some (.slice none 0 0) := (blk_cell HG.out.blk 3).trans rfl
  have z3 := blk_frozen HG.out.blk 3
  go_wp2_with fail
  have hgs := (HG.out.put 1 (.int .i64 kd) rfl).put 0 (.int .i64 nu) rfl
  generalize ((w2.setCell ⟨w1.heap.size, 1, none⟩ (.int .i64 kd)).setCell ⟨w1.heap.size, 0, none⟩ (.int .i64 nu)) = W3 at hgs
  clear HG f0 f1 f2 f3 z0 z1 z2 z3
  have HG := Aside0.mk hgs
  clear hgs
  have hT := RText_calls g l 5 60000 w0 W3 HG.out.rd (by omega) (by omega)
  have hL1 := textR_len l 5 60000
  have hA := HA.out
  clear HA
  generalize textR l 5 60000 = T1 at hT hA hL1
  obtain ⟨t1, m1, e1⟩ := T1
  simp only at hT hA hL1
  have HA := Aside0.mk hA
  have HL1 := Aside0.mk hL1
  clear hA hL1
  refine hT.mono ?_
  clear hT
  rintro e w4 ⟨u1, rfl, hu1, h4, k4⟩
  have hgs := HG.out.step h4 k4
  have hp3 : w1.heap.size < W3.heap.size := blk_lt HG.out.blk
  clear HG h4 k4
  have HG := Aside0.mk hgs
  clear hgs
  obtain ⟨A1, c1, rfl, hc1, hr1⟩ := Kd.R_reads hu1
  have HU := Aside0.mk (show Bs.R 5 w4 w.heap.size (fun k => w1.heap.size < k ∧ k < w4.heap.size) (.slice A1 t1.length c1) t1 from Kd.R_lower (Kd.R_mono (Kd.R_bound hu1) (fun k hk => ⟨by have := hk.2.1; omega, hk.2.2.1⟩)) (by have := HG.out.lt; have := HG.out.ge; have := HG.out.ne; omega))
  clear hu1 hr1
  by_cases k1 : e1 = 0
  case neg =>
    have k1b : (e1 == 0) = false := beq_eq_false_iff_ne.2 k1
    have k1c : (e1 != 0) = true := bne_iff_ne.2 k1
    have hf := Aside0.mk (show getN l = (0, 0, [], [], e1) by rw [HA.out]; simp [k1])
    clear k1
    have f0 : w4.cell? ⟨w1.heap.size, 0, none⟩ = some (.int .i64 nu) := (blk_cell HG.out.blk 0).trans rfl
    have z0 := blk_frozen HG.out.blk 0
    have f1 : w4.cell? ⟨w1.heap.size, 1, none⟩ = some (.int .i64 kd) := (blk_cell HG.out.blk 1).trans rfl
    have z1 := blk_frozen HG.out.blk 1
    have f2 : w4.cell? ⟨w1.heap.size, 2, none⟩ = some (.slice none 0 0) := (blk_cell HG.out.blk 2).trans rfl
    have z2 := blk_frozen HG.out.blk 2
    have f3 : w4.cell? ⟨w1.heap.size, 3, none⟩ = some (.slice none 0 0) := (blk_cell HG.out.blk 3).trans rfl
    have z3 := blk_frozen HG.out.blk 3
    have q0 : w4.cell? ⟨w.heap.size, 0, none⟩ = some (.int .i64 0) := (blk_cell HG.out.res 0).trans rfl
    have y0 := blk_frozen HG.out.res 0
    have q1 : w4.cell? ⟨w.heap.size, 1, none⟩ = some (.int .i64 0) := (blk_cell HG.out.res 1).trans rfl
    have y1 := blk_frozen HG.out.res 1
    have q2 : w4.cell? ⟨w.heap.size, 2, none⟩ = some (.slice none 0 0) := (blk_cell HG.out.res 2).trans rfl
    have y2 := blk_frozen HG.out.res 2
    have q3 : w4.cell? ⟨w.heap.size, 3, none⟩ = some (.slice none 0 0) := (blk_cell HG.out.res 3).trans rfl
    have y3 := blk_frozen HG.out.res 3
    go_wp2_with fail
    obtain ⟨hz1, hz2⟩ := (HG.out.put 2 _ rfl).fill (.int .i64 0) (.int .i64 0) (.slice none 0 0) (.slice none 0 0)
    refine bodyPost_ret (results_ct rfl _ _ w.heap.size 36 #[.int .i64 0, .int .i64 0, .slice none 0 0, .slice none 0 0] (0, 0) _ rfl hz1 Try.underlying36 rfl (by kernel_rfl)) rfl ?_
    rw [hf.out]
    exact ⟨_, _, rfl, Kd.R_nil _ _ _ _ _, Kd.R_nil _ _ _ _ _, hz2⟩
  subst k1
  have f0 : w4.cell? ⟨w1.heap.size, 0, none⟩ = some (.int .i64 nu) := (blk_cell HG.out.blk 0).trans rfl
  have z0 := blk_frozen HG.out.blk 0
  have f1 : w4.cell? ⟨w1.heap.size, 1, none⟩ = some (.int .i64 kd) := (blk_cell HG.out.blk 1).trans rfl
  have z1 := blk_frozen HG.out.blk 1
  have f2 : w4.cell? ⟨w1.heap.size, 2, none⟩ = some (.slice none 0 0) := (blk_cell HG.out.blk 2).trans rfl
  have z2 := blk_frozen HG.out.blk 2
  have f3 : w4.cell? ⟨w1.heap.size, 3, none⟩ = some (.slice none 0 0) := (blk_cell HG.out.blk 3).trans rfl
  have z3 := blk_frozen HG.out.blk 3
  go_wp2_with fail
  have hgs := HG.out.put 2 (.slice A1 t1.length c1) rfl
  have hu5 : Bs.R 5 (w4.setCell ⟨w1.heap.size, 2, none⟩ (.slice A1 t1.length c1)) w.heap.size (fun k => w1.heap.size < k ∧ k < w4.heap.size) (.slice A1 t1.length c1) t1 := Kd.R_far (p := ⟨w1.heap.size, 2, none⟩) HU.out (fun k hk => by have := hk.1; show k ≠ w1.heap.size; omega) _
  have hpb : w1.heap.size < w4.heap.size := blk_lt HG.out.blk
  have hgp : g < w1.heap.size := HG.out.ne
  have hS5 : (w4.setCell ⟨w1.heap.size, 2, none⟩ (.slice A1 t1.length c1)).heap.size = w4.heap.size := by simp [World.setCell]
  generalize (w4.setCell ⟨w1.heap.size, 2, none⟩ (.slice A1 t1.length c1)) = W5 at hgs hu5 hS5
  generalize w4.heap.size = b at hu5 hpb hS5
  clear HG f0 f1 f2 f3 z0 z1 z2 z3 HU
  have HG := Aside0.mk hgs
  have HU := Aside0.mk hu5
  clear hgs hu5
  have hT := RSmall_calls g l (5 + m1) 1000 w0 W5 HG.out.rd
  have hX := smallR_bd l HB.out (5 + m1) HG.out.rd.le 1000
  have hA := HA.out
  clear HA
  generalize smallR l (5 + m1) 1000 = T2 at hT hA hX
  obtain ⟨x, m2, e2⟩ := T2
  simp only at hT hA hX
  have HA := Aside0.mk hA
  have HX := Aside0.mk hX
  clear hA hX
  refine hT.mono ?_
  clear hT
  rintro e w6 ⟨rfl, h6, k6⟩
  have hgs := HG.out.step h6 k6
  have hu5 := Kd.R_keep HU.out k6 (fun k hk => by have := hk.1; omega)
  have hs6 : b ≤ w6.heap.size := by have := k6.1; omega
  clear HG HU h6 k6
  have HG := Aside0.mk hgs
  have HU := Aside0.mk hu5
  clear hgs hu5
  by_cases k2 : e2 = 0
  case neg =>
    have k2b : (e2 == 0) = false := beq_eq_false_iff_ne.2 k2
    have k2c : (e2 != 0) = true := bne_iff_ne.2 k2
    have hf := Aside0.mk (show getN l = (0, 0, [], [], e2) by rw [HA.out]; simp [k2])
    clear k2
    have q0 : w6.cell? ⟨w.heap.size, 0, none⟩ = some (.int .i64 0) := (blk_cell HG.out.res 0).trans rfl
    have y0 := blk_frozen HG.out.res 0
    have q1 : w6.cell? ⟨w.heap.size, 1, none⟩ = some (.int .i64 0) := (blk_cell HG.out.res 1).trans rfl
    have y1 := blk_frozen HG.out.res 1
    have q2 : w6.cell? ⟨w.heap.size, 2, none⟩ = some (.slice none 0 0) := (blk_cell HG.out.res 2).trans rfl
    have y2 := blk_frozen HG.out.res 2
    have q3 : w6.cell? ⟨w.heap.size, 3, none⟩ = some (.slice none 0 0) := (blk_cell HG.out.res 3).trans rfl
    have y3 := blk_frozen HG.out.res 3
    go_wp2_with fail
    obtain ⟨hz1, hz2⟩ := (HG.out).fill (.int .i64 0) (.int .i64 0) (.slice none 0 0) (.slice none 0 0)
    refine bodyPost_ret (results_ct rfl _ _ w.heap.size 36 #[.int .i64 0, .int .i64 0, .slice none 0 0, .slice none 0 0] (0, 0) _ rfl hz1 Try.underlying36 rfl (by kernel_rfl)) rfl ?_
    rw [hf.out]
    exact ⟨_, _, rfl, Kd.R_nil _ _ _ _ _, Kd.R_nil _ _ _ _ _, hz2⟩
  subst k2
  obtain ⟨X, rfl⟩ : ∃ X : Nat, x = X := ⟨x.toNat, by have := HX.out.1; omega⟩
  have hX1 : X ≤ 1000 := by have := HX.out.2.2.1 rfl; omega
  have hA := HA.out
  rw [Int.toNat_natCast] at hA
  clear HA HX
  generalize hq : namesR l X (5 + m1 + m2) = Q at hA
  have HA := Aside0.mk hA
  have HQ := Aside0.mk hq
  clear hA hq
  go_wp2_with fail
  go_loopg [45] X (fun kq v45 w' => ∃ (i at_ : Nat) (ns : List ByteArray) (v : Value), v45 = .int .u64 i ∧ i ≤ X ∧ Aside0 (kq + i = X) ∧ Aside0 (ns.length = i) ∧ Aside0 (Q = (ns ++ (namesR l kq at_).1, (namesR l kq at_).2)) ∧ Aside0 (GS w w' w0 g w1.heap.size 36 l at_ #[.int .i64 0, .int .i64 0, .slice none 0 0, .slice none 0 0] #[.int .i64 nu, .int .i64 kd, .slice A1 t1.length c1, v]) ∧ Aside0 (Bs.R 5 w' w.heap.size (fun k => w1.heap.size < k ∧ k < b) (.slice A1 t1.length c1) t1) ∧ Aside0 (Kd.string.R 9 w' b (fun _ => True) v ns) ∧ Aside0 (b ≤ w'.heap.size))
  case atStart => exact ⟨0, _, [], _, rfl, Nat.zero_le _, ⟨rfl⟩, ⟨rfl⟩, ⟨by rw [← HQ.out]; rfl⟩, HG, HU, ⟨Kd.R_nil _ _ _ _ _⟩, ⟨hs6⟩⟩
  case round =>
    clear HG HU HQ hs6
    obtain ⟨i, at_, ns, v, rfl, hi, HK, HI, HQ, HG, HU, HV, HS⟩ := hrel
    obtain ⟨Bv, dv, ev, hdv, hcv⟩ := Kd.R_reads HV.out
    subst ev
    have HCV := Aside0.mk hcv
    have HDV := Aside0.mk hdv
    clear hcv hdv
    cases gk with
    | zero =>
      obtain rfl : i = X := by have := HK.out; omega
      have hQ : Q = (ns, at_, 0) := by rw [HQ.out]; simp [namesR]
      have hA := HA.out
      rw [hQ] at hA
      simp only [ne_eq, not_true_eq_false, if_false] at hA
      have HA := Aside0.mk hA
      have hnl : ns.length ≤ 1000 := by have := HI.out; omega
      clear hA hQ
      have f0 : wr.cell? ⟨w1.heap.size, 0, none⟩ = some (.int .i64 nu) := (blk_cell HG.out.blk 0).trans rfl
      have z0 := blk_frozen HG.out.blk 0
      have f1 : wr.cell? ⟨w1.heap.size, 1, none⟩ = some (.int .i64 kd) := (blk_cell HG.out.blk 1).trans rfl
      have z1 := blk_frozen HG.out.blk 1
      have f2 : wr.cell? ⟨w1.heap.size, 2, none⟩ = some (.slice A1 t1.length c1) := (blk_cell HG.out.blk 2).trans rfl
      have z2 := blk_frozen HG.out.blk 2
      have f3 : wr.cell? ⟨w1.heap.size, 3, none⟩ = some (.slice Bv ns.length dv) := (blk_cell HG.out.blk 3).trans rfl
      have z3 := blk_frozen HG.out.blk 3
      go_wp2_with fail
      clear f0 f1 f2 f3 z0 z1 z2 z3
      refine (endedN_calls g l at_ nu kd A1 t1.length c1 Bv dv ns w0 wr HG.out.rd (by have := HL1.out; have := HN.out; omega) (by omega) HCV.out (fun ad e h0 => by subst e; have := Kd.R_base HV.out ad.block rfl; omega)).mono ?_
      rintro e w8 ⟨rfl, h8, k8⟩
      have hgs := HG.out.step h8 k8
      have hu5 := Kd.R_mono (Kd.R_keep HU.out k8 (fun k hk => by have := hk.1; omega)) (ok' := fun _ => True) (fun _ _ => trivial)
      have hv5 := R_over HV.out (by omega) k8
      have hs8 := k8.1
      clear HG h8 k8 HU HV
      have HG := Aside0.mk hgs
      have HU := Aside0.mk hu5
      have HV := Aside0.mk hv5
      clear hgs hu5 hv5
      by_cases k3 : l.length = at_
      · rw [if_pos k3]
        cases k4 : okR nu kd t1.length ns with
        | true =>
          have hf := Aside0.mk (show getN l = (nu, kd, t1, ns, 0) by rw [HA.out]; simp [k3, k4])
          rw [if_pos rfl]
          clear k3 k4
          have f0 : w8.cell? ⟨w1.heap.size, 0, none⟩ = some (.int .i64 nu) := (blk_cell HG.out.blk 0).trans rfl
          have z0 := blk_frozen HG.out.blk 0
          have f1 : w8.cell? ⟨w1.heap.size, 1, none⟩ = some (.int .i64 kd) := (blk_cell HG.out.blk 1).trans rfl
          have z1 := blk_frozen HG.out.blk 1
          have f2 : w8.cell? ⟨w1.heap.size, 2, none⟩ = some (.slice A1 t1.length c1) := (blk_cell HG.out.blk 2).trans rfl
          have z2 := blk_frozen HG.out.blk 2
          have f3 : w8.cell? ⟨w1.heap.size, 3, none⟩ = some (.slice Bv ns.length dv) := (blk_cell HG.out.blk 3).trans rfl
          have z3 := blk_frozen HG.out.blk 3
          have q0 : w8.cell? ⟨w.heap.size, 0, none⟩ = some (.int .i64 0) := (blk_cell HG.out.res 0).trans rfl
          have y0 := blk_frozen HG.out.res 0
          have q1 : w8.cell? ⟨w.heap.size, 1, none⟩ = some (.int .i64 0) := (blk_cell HG.out.res 1).trans rfl
          have y1 := blk_frozen HG.out.res 1
          have q2 : w8.cell? ⟨w.heap.size, 2, none⟩ = some (.slice none 0 0) := (blk_cell HG.out.res 2).trans rfl
          have y2 := blk_frozen HG.out.res 2
          have q3 : w8.cell? ⟨w.heap.size, 3, none⟩ = some (.slice none 0 0) := (blk_cell HG.out.res 3).trans rfl
          have y3 := blk_frozen HG.out.res 3
          go_wp2_with fail
          obtain ⟨hz1, hz2⟩ := HG.out.fill (.int .i64 nu) (.int .i64 kd) (.slice A1 t1.length c1) (.slice Bv ns.length dv)
          refine bodyPost_ret (results_ct rfl _ _ w.heap.size 36 #[.int .i64 nu, .int .i64 kd, .slice A1 t1.length c1, .slice Bv ns.length dv] (0, 0) _ rfl hz1 Try.underlying36 rfl (by kernel_rfl)) rfl ?_
          rw [hf.out]
          exact ⟨_, _, rfl, HG.out.fillRg HU.out (by decide) _ _ _ _, Kd.R_lower (HG.out.fillRg HV.out (by decide) _ _ _ _) (by have := HG.out.lt; have := HG.out.ge; omega), hz2⟩
        | false =>
          have hf := Aside0.mk (show getN l = (0, 0, [], [], 14) by rw [HA.out]; simp [k3, k4])
          rw [if_neg (by decide)]
          clear k3 k4
          have f0 : w8.cell? ⟨w1.heap.size, 0, none⟩ = some (.int .i64 nu) := (blk_cell HG.out.blk 0).trans rfl
          have z0 := blk_frozen HG.out.blk 0
          have f1 : w8.cell? ⟨w1.heap.size, 1, none⟩ = some (.int .i64 kd) := (blk_cell HG.out.blk 1).trans rfl
          have z1 := blk_frozen HG.out.blk 1
          have f2 : w8.cell? ⟨w1.heap.size, 2, none⟩ = some (.slice A1 t1.length c1) := (blk_cell HG.out.blk 2).trans rfl
          have z2 := blk_frozen HG.out.blk 2
          have f3 : w8.cell? ⟨w1.heap.size, 3, none⟩ = some (.slice Bv ns.length dv) := (blk_cell HG.out.blk 3).trans rfl
          have z3 := blk_frozen HG.out.blk 3
          have q0 : w8.cell? ⟨w.heap.size, 0, none⟩ = some (.int .i64 0) := (blk_cell HG.out.res 0).trans rfl
          have y0 := blk_frozen HG.out.res 0
          have q1 : w8.cell? ⟨w.heap.size, 1, none⟩ = some (.int .i64 0) := (blk_cell HG.out.res 1).trans rfl
          have y1 := blk_frozen HG.out.res 1
          have q2 : w8.cell? ⟨w.heap.size, 2, none⟩ = some (.slice none 0 0) := (blk_cell HG.out.res 2).trans rfl
          have y2 := blk_frozen HG.out.res 2
          have q3 : w8.cell? ⟨w.heap.size, 3, none⟩ = some (.slice none 0 0) := (blk_cell HG.out.res 3).trans rfl
          have y3 := blk_frozen HG.out.res 3
          go_wp2_with fail
          obtain ⟨hz1, hz2⟩ := (HG.out).fill (.int .i64 0) (.int .i64 0) (.slice none 0 0) (.slice none 0 0)
          refine bodyPost_ret (results_ct rfl _ _ w.heap.size 36 #[.int .i64 0, .int .i64 0, .slice none 0 0, .slice none 0 0] (0, 0) _ rfl hz1 Try.underlying36 rfl (by kernel_rfl)) rfl ?_
          rw [hf.out]
          exact ⟨_, _, rfl, Kd.R_nil _ _ _ _ _, Kd.R_nil _ _ _ _ _, hz2⟩
      · rw [if_neg k3]
        have hf := Aside0.mk (show getN l = (0, 0, [], [], 2) by rw [HA.out]; simp [k3])
        clear k3
        have f0 : w8.cell? ⟨w1.heap.size, 0, none⟩ = some (.int .i64 nu) := (blk_cell HG.out.blk 0).trans rfl
        have z0 := blk_frozen HG.out.blk 0
        have f1 : w8.cell? ⟨w1.heap.size, 1, none⟩ = some (.int .i64 kd) := (blk_cell HG.out.blk 1).trans rfl
        have z1 := blk_frozen HG.out.blk 1
        have f2 : w8.cell? ⟨w1.heap.size, 2, none⟩ = some (.slice A1 t1.length c1) := (blk_cell HG.out.blk 2).trans rfl
        have z2 := blk_frozen HG.out.blk 2
        have f3 : w8.cell? ⟨w1.heap.size, 3, none⟩ = some (.slice Bv ns.length dv) := (blk_cell HG.out.blk 3).trans rfl
        have z3 := blk_frozen HG.out.blk 3
        have q0 : w8.cell? ⟨w.heap.size, 0, none⟩ = some (.int .i64 0) := (blk_cell HG.out.res 0).trans rfl
        have y0 := blk_frozen HG.out.res 0
        have q1 : w8.cell? ⟨w.heap.size, 1, none⟩ = some (.int .i64 0) := (blk_cell HG.out.res 1).trans rfl
        have y1 := blk_frozen HG.out.res 1
        have q2 : w8.cell? ⟨w.heap.size, 2, none⟩ = some (.slice none 0 0) := (blk_cell HG.out.res 2).trans rfl
        have y2 := blk_frozen HG.out.res 2
        have q3 : w8.cell? ⟨w.heap.size, 3, none⟩ = some (.slice none 0 0) := (blk_cell HG.out.res 3).trans rfl
        have y3 := blk_frozen HG.out.res 3
        go_wp2_with fail
        obtain ⟨hz1, hz2⟩ := (HG.out).fill (.int .i64 0) (.int .i64 0) (.slice none 0 0) (.slice none 0 0)
        refine bodyPost_ret (results_ct rfl _ _ w.heap.size 36 #[.int .i64 0, .int .i64 0, .slice none 0 0, .slice none 0 0] (0, 0) _ rfl hz1 Try.underlying36 rfl (by kernel_rfl)) rfl ?_
        rw [hf.out]
        exact ⟨_, _, rfl, Kd.R_nil _ _ _ _ _, Kd.R_nil _ _ _ _ _, hz2⟩
    | succ k1 =>
      have hlt : i < X := by have := HK.out; omega
      have hci : (i : Int) < (X : Int) := by omega
      have eI : IntKind.u64.wrap ((i : Int) + 1) = ((i + 1 : Nat) : Int) := u64_small (by omega) (by unfold M64; omega)
      have hT := RText_calls g l at_ 64 w0 wr HG.out.rd (by omega) (by omega)
      have hQ := HQ.out
      simp only [namesR] at hQ
      clear HQ
      generalize textR l at_ 64 = T2 at hT hQ
      obtain ⟨t2, m3, e3⟩ := T2
      simp only at hT hQ
      have HQ := Aside0.mk hQ
      clear hQ
      go_wp2_with fail
      refine hT.mono ?_
      clear hT
      rintro e w7 ⟨u2, rfl, hu2, h7, k7⟩
      have hgs := HG.out.step h7 k7
      have hu5 := Kd.R_keep HU.out k7 (fun k hk => by have := hk.1; omega)
      have hv5 := R_over HV.out (by omega) k7
      have hs7 : b ≤ w7.heap.size := by have := k7.1; have := HS.out; omega
      clear HG h7 k7 HU HV HCV HS
      have HG := Aside0.mk hgs
      have HU := Aside0.mk hu5
      have HV := Aside0.mk hv5
      clear hgs hu5 hv5
      obtain ⟨A2, c2, rfl, hc2, hr2⟩ := Kd.R_reads hu2
      have HC2 := Aside0.mk hr2
      clear hu2 hr2 hc2
      by_cases k3 : e3 = 0
      · subst k3
        have hQ := HQ.out
        simp only [ne_eq, not_true_eq_false, if_false] at hQ
        clear HQ
        have HQ := Aside0.mk hQ
        clear hQ
        have ks := Kd.C_string (P := Try.prog) Try.underlying28 Try.underlying5 Try.underlying9 (c := c2) HC2.out
        have hin : ns.length ≤ 1000 := by have := HI.out; omega
        have f0 : w7.cell? ⟨w1.heap.size, 0, none⟩ = some (.int .i64 nu) := (blk_cell HG.out.blk 0).trans rfl
        have z0 := blk_frozen HG.out.blk 0
        have f1 : w7.cell? ⟨w1.heap.size, 1, none⟩ = some (.int .i64 kd) := (blk_cell HG.out.blk 1).trans rfl
        have z1 := blk_frozen HG.out.blk 1
        have f2 : w7.cell? ⟨w1.heap.size, 2, none⟩ = some (.slice A1 t1.length c1) := (blk_cell HG.out.blk 2).trans rfl
        have z2 := blk_frozen HG.out.blk 2
        have f3 : w7.cell? ⟨w1.heap.size, 3, none⟩ = some (.slice Bv ns.length dv) := (blk_cell HG.out.blk 3).trans rfl
        have z3 := blk_frozen HG.out.blk 3
        go_wp2_with (first | ((with_reducible refine gate_builtin (b := .append) (xs := #[.tmp 57, .tmp 60]) rfl ?_); at_builtin; refine Kd.R_append Kd.string (w0 := w7) b rfl (.tmp 57) (.tmp 60) 34 9 (.string ⟨#[]⟩) 16 rfl Try.underlying34 info9 rfl (by decide) (by omega) (.slice Bv ns.length dv) ns (strOfNums t2) [.string (strOfNums t2)] (fun _ => True) (fun _ => False) rfl rfl ?aP (fun _ hk => hk.elim) ?aF ?aO ?aB ?aS ?aL ?_; (case aP => exact rfl); (case aF => exact (fun _ _ => trivial)); (case aO => exact HV.out); (case aB => exact Below.refl _ _); (case aS => exact hs7); (case aL => omega); intro v1 w8 ho hb hg hat; obtain ⟨ns2, hns⟩ : ∃ ns2, ns2 = ns ++ [strOfNums t2] := ⟨_, rfl⟩; rw [← hns] at ho; have HNS := Aside0.mk hns; obtain ⟨B8, d8, ev8, _, _⟩ := Kd.R_reads ho; subst ev8; have hG8 := HG.out.grown hg hb hpb (fun k e => Kd.R_base HV.out k e); have hU8 := Kd.R_grown HU.out hg (fun k hk e => by have := Kd.R_base HV.out k e.symm; have := hk.2; omega); have f3' : w8.cell? ⟨w1.heap.size, 3, none⟩ = some (.slice Bv ns.length dv) := (blk_cell hG8.blk 3).trans rfl; have z3' := blk_frozen hG8.blk 3; have hs8 := hg.size; have HG8 := Aside0.mk hG8; have HU8 := Aside0.mk hU8; have HO8 := Aside0.mk ho; clear hG8 hU8 ho hb hg hat hns))
        have hG9 := HG8.out.put 3 (.slice B8 ns2.length d8) rfl
        have hU9 := Kd.R_far (p := ⟨w1.heap.size, 3, none⟩) HU8.out (fun k hk => by have := hk.1; show k ≠ w1.heap.size; omega) (.slice B8 ns2.length d8)
        have hO9 := Kd.R_set HO8.out HG8.out.blk (by decide) 3 (.slice B8 ns2.length d8)
        go_roundg k1
        case measure => omega
        case rel => exact ⟨i + 1, at_ + m3, ns2, .slice B8 ns2.length d8, by first | rfl | simp, by omega, ⟨by have := HK.out; omega⟩, ⟨by rw [HNS.out, List.length_append, HI.out]; rfl⟩, ⟨by rw [HQ.out, HNS.out]; simp⟩, ⟨hG9⟩, ⟨hU9⟩, ⟨hO9⟩, ⟨by simp [World.setCell] at hs8 ⊢; omega⟩⟩
      · have k3b : (e3 == 0) = false := beq_eq_false_iff_ne.2 k3
        have k3c : (e3 != 0) = true := bne_iff_ne.2 k3
        have hQ := HQ.out
        rw [if_pos k3] at hQ
        have hf := Aside0.mk (show getN l = (0, 0, [], [], e3) by rw [HA.out, hQ]; simp [k3])
        clear k3 hQ
        have q0 : w7.cell? ⟨w.heap.size, 0, none⟩ = some (.int .i64 0) := (blk_cell HG.out.res 0).trans rfl
        have y0 := blk_frozen HG.out.res 0
        have q1 : w7.cell? ⟨w.heap.size, 1, none⟩ = some (.int .i64 0) := (blk_cell HG.out.res 1).trans rfl
        have y1 := blk_frozen HG.out.res 1
        have q2 : w7.cell? ⟨w.heap.size, 2, none⟩ = some (.slice none 0 0) := (blk_cell HG.out.res 2).trans rfl
        have y2 := blk_frozen HG.out.res 2
        have q3 : w7.cell? ⟨w.heap.size, 3, none⟩ = some (.slice none 0 0) := (blk_cell HG.out.res 3).trans rfl
        have y3 := blk_frozen HG.out.res 3
        go_wp2_with fail
        obtain ⟨hz1, hz2⟩ := (HG.out).fill (.int .i64 0) (.int .i64 0) (.slice none 0 0) (.slice none 0 0)
        refine bodyPost_ret (results_ct rfl _ _ w.heap.size 36 #[.int .i64 0, .int .i64 0, .slice none 0 0, .slice none 0 0] (0, 0) _ rfl hz1 Try.underlying36 rfl (by kernel_rfl)) rfl ?_
        rw [hf.out]
        exact ⟨_, _, rfl, Kd.R_nil _ _ _ _ _, Kd.R_nil _ _ _ _ _, hz2⟩
end Go.Proofs.Ytpkfeepepbchlaa.Sb
