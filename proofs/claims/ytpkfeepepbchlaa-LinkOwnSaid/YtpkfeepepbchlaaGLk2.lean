import Derived.Test.YtpkfeepepbchlaaGLk1
import Derived.Test.YtpkfeepepbchlaaGLp
namespace Go.Proofs.Ytpkfeepepbchlaa.Bl
open Go.RowKit Go.Maps Go.Proofs.YtpkfeepepbchlaaW.PrintWords Go.Proofs.YtpkfeepepbchlaaW.PrintLast Go.Proofs.YtpkfeepepbchlaaW.PrintMore Go.Proofs.Ytpkfeepepbchlaa.PK
set_option linter.unusedVariables false
set_option linter.unusedSimpArgs false
def nxt (num : Int) : Int := if num = 2147483647 then 1 else num + 1
def hdF (fs : List Ft) : Ft := fs.headD ⟨0, []⟩
theorem ftF {W : World} {ok : Nat → Prop} {x : Ft} {cs : List Value} (h : Kd.FK kF W ok x cs) : ∃ A1 c1, cs = [.int .i64 x.f0, .slice A1 x.f1.length c1] ∧ x.f1.length ≤ c1 ∧ Kd.F Bs W ok A1 x.f1.length x.f1 := by
  obtain ⟨A1, c1, e, l, g⟩ := k43_open (Kd.FK_now h)
  refine ⟨A1, c1, e, l, fun W' hW => ?_⟩
  obtain ⟨A2, c2, e2, l2, g2⟩ := k43_open (h W' hW)
  rw [e] at e2
  injection e2 with _ e2
  injection e2 with e2 _
  injection e2 with e2 _ _
  subst e2
  exact g2
theorem add_zero' (ad : Addr) : ad.add 0 = ad := rfl
section
variable {T S : List Nat} {w : World} {n gp cap : Nat} {q : Int} {ps : List Pr} {fs : List Ft} {num sent ticks : Int}
theorem next_calls (h : Nt S w n gp cap q ps fs num sent ticks) (hT : Ts T S n gp ps) (hn : 0 ≤ num ∧ num ≤ 2147483647) :
    Calls Try.prog 27 #[.pointer (some ⟨n, 0, none⟩)] w fun e w' => e = .returned (.int .i64 (nxt num)) ∧ Nt S w' n gp cap q ps fs (nxt num) sent ticks ∧ Tn T w w' := by
  obtain ⟨A, c, h1, h2, h3⟩ := h.net
  have HH := Aside0.mk h
  have H1 := Aside0.mk h1
  have c2 : w.cell? ⟨n, 2, none⟩ = some (.int .i64 num) := (blk_cell h1 2).trans rfl
  have z2 := blk_frozen h1 2
  clear h h1 h2 h3
  by_cases hm : num = 2147483647
  · subst hm
    go_enter Try.func27, Try.ntmps27
    go_wp2_with fail
    have N1 := Aside0.mk (HH.out.setNum 0)
    have T1 := Aside0.mk (Tn.of_set w hT.n 2 (.int .i64 0))
    generalize w.setCell ⟨n, 2, none⟩ (.int .i64 0) = w1 at N1 T1 ⊢
    obtain ⟨A1, c1, g1, g2, g3⟩ := N1.out.net
    have c2' : w1.cell? ⟨n, 2, none⟩ = some (.int .i64 0) := (blk_cell g1 2).trans rfl
    have z2' := blk_frozen g1 2
    clear c2 z2
    go_wp2_with fail
    have N2 := N1.out.setNum 1
    have T2 := T1.out.trans (Tn.of_set w1 hT.n 2 (.int .i64 1))
    go_ret
    exact ⟨rfl, N2, T2⟩
  · have hd : (num == 2147483647) = false := beq_eq_false_iff_ne.2 hm
    have hw : IntKind.i64.wrap (num + 1) = num + 1 := IntWalk.i64_in (n := _) (by omega)
    have hx : nxt num = num + 1 := by unfold nxt; rw [if_neg hm]
    go_enter Try.func27, Try.ntmps27
    go_wp2_with fail
    have N2 := HH.out.setNum (num + 1)
    have T2 := Tn.of_set w hT.n 2 (.int .i64 (num + 1))
    go_ret
    rw [hx]
    exact ⟨rfl, N2, T2⟩
set_option maxHeartbeats 4000000 in
theorem fate_calls (h : Nt S w n gp cap q ps fs num sent ticks) (hT : Ts T S n gp ps) {tt : Nat} {p : Pr} (hp : ps[tt]? = some p) (ho : p.o = .slice none 0 0) :
    Calls Try.prog 35 #[.pointer (some ⟨n, 0, none⟩), .pointer (some ⟨gp, 4 * tt, none⟩)] w fun e w' => ∃ A c, e = .returned (.agg #[.int .i64 (hdF fs).f0, .slice A (hdF fs).f1.length c]) ∧ (hdF fs).f1.length ≤ c ∧ Kd.F Bs w' (fun k => k ∉ S) A (hdF fs).f1.length (hdF fs).f1 ∧ Nt S w' n gp cap q ps fs.tail num sent ticks ∧ Tn T w w' := by
  obtain ⟨A, c, h1, h2, h3⟩ := h.net
  have HH := Aside0.mk h
  have H1 := Aside0.mk h1
  have H3 := Aside0.mk h3
  have H2 := Aside0.mk h2
  have hcell : w.cell? ⟨gp, 4 * tt + 1, none⟩ = some (.slice none 0 0) := h.cell hp 1 _ (by rw [← ho]; rfl)
  have c1 : w.cell? ⟨n, 1, none⟩ = some (.slice A fs.length c) := (blk_cell h1 1).trans rfl
  have z1 := blk_frozen h1 1
  have hnl := blk_lt h1
  have hne1 : (w.heap.size == n) = false := beq_eq_false_iff_ne.2 (by omega)
  have hgl : gp < w.heap.size := h.lt gp h.mem.2.1
  have hne2 : (w.heap.size == gp) = false := beq_eq_false_iff_ne.2 (by omega)
  clear h h1 h2 h3
  generalize 4 * tt = x at hcell ⊢
  have B0 := Aside0.mk (below_alloc (Below.refl w.heap.size w) (.cells #[.int .i64 0, .slice none 0 0] 43))
  have K0 := Aside0.mk (blk_new w (.cells #[.int .i64 0, .slice none 0 0] 43))
  cases fs with
  | nil =>
    have c1' : w.cell? ⟨n, 1, none⟩ = some (.slice A 0 c) := c1
    clear c1
    go_enter Try.func35, Try.ntmps35
    go_wp2_with fail
    refine bodyPost_ret (results_cell_row rfl _ _ w.heap.size 43 _ (0, 0) _ rfl K0.out Try.underlying43 rfl (by kernel_rfl)) rfl ?_
    exact ⟨none, 0, rfl, Nat.le_refl _, Kd.F_nil _ _ _, HH.out.kept B0.out, Tn.of_below B0.out⟩
  | cons f r =>
    obtain ⟨ad, cs, eA, hcl, hK, hcc, hok⟩ := Kd.F_get H3.out ⟨0, []⟩ 0 (by omega) (by simp only [List.length_cons]; omega)
    subst eA
    obtain ⟨A1, c1', rfl, hl1, hF1⟩ := ftF hK
    have d0 : w.cell? ad = some (.int .i64 f.f0) := by have := hcc 0 _ rfl; rwa [show ad.add ((0 : Int).toNat * kF.sz + 0) = ad from add_zero' ad] at this
    have d1 : w.cell? ⟨ad.block, ad.off + 1, none⟩ = some (.slice A1 f.f1.length c1') := by have := hcc 1 _ rfl; rwa [show ad.add ((0 : Int).toNat * kF.sz + 1) = ⟨ad.block, ad.off + 1, none⟩ from (add_field ad 0 1 (by omega)).trans (by rw [add_zero' ad])] at this
    have hal : ad.block < w.heap.size := World.block_lt_of_cell? w _ d0
    have hne3 : (w.heap.size == ad.block) = false := beq_eq_false_iff_ne.2 (by omega)
    have HF1 := Aside0.mk hF1
    clear hcc hK hF1 hok
    go_enter Try.func35, Try.ntmps35
    go_wp2_with fail
    all_goals have hcut := Kd.F_cut (xs := f :: r) H3.out (m := 1) (by simp) H2.out
    all_goals have hlc := H2.out
    · rename_i h
      rw [if_pos h] at hcut
      have N1 := HH.out.setN (fs' := r) 1 (.slice (some ad) r.length 0) (fun _ _ _ _ _ => ⟨_, _, by simp only [List.length_cons] at hlc; omega, hcut, rfl⟩)
      have T1 := Tn.of_set w hT.n 1 (.slice (some ad) r.length 0)
      have hsz : (w.setCell ⟨n, 1, none⟩ (.slice (some ad) r.length 0)).heap.size = w.heap.size := by simp [World.setCell]
      generalize w.setCell ⟨n, 1, none⟩ (.slice (some ad) r.length 0) = W1 at N1 T1 hsz ⊢
      have b1 := below_alloc (below_alloc (Below.refl W1.heap.size W1) (.cells #[.int .i64 f.f0, .slice A1 f.f1.length c1'] 43)) (.cells #[.int .i64 f.f0, .slice A1 f.f1.length c1'] 43)
      have K1 := blk_alloc (blk_new W1 (.cells #[.int .i64 f.f0, .slice A1 f.f1.length c1'] 43)) (.cells #[.int .i64 f.f0, .slice A1 f.f1.length c1'] 43)
      rw [hsz] at K1
      refine bodyPost_ret (results_cell_row rfl _ _ w.heap.size 43 _ (0, 0) _ rfl K1 Try.underlying43 rfl (by kernel_rfl)) rfl ?_
      have TT := T1.trans (Tn.of_below b1)
      exact ⟨A1, c1', rfl, hl1, TT.F hT.sub HF1.out, N1.kept b1, TT⟩
    · rename_i h
      rw [if_neg h] at hcut
      have N1 := HH.out.setN (fs' := r) 1 (.slice (some ⟨ad.block, ad.off + 2, none⟩) r.length (c - 1)) (fun _ _ _ _ _ => ⟨_, _, by simp only [List.length_cons] at hlc; omega, hcut, rfl⟩)
      have T1 := Tn.of_set w hT.n 1 (.slice (some ⟨ad.block, ad.off + 2, none⟩) r.length (c - 1))
      have hsz : (w.setCell ⟨n, 1, none⟩ (.slice (some ⟨ad.block, ad.off + 2, none⟩) r.length (c - 1))).heap.size = w.heap.size := by simp [World.setCell]
      generalize w.setCell ⟨n, 1, none⟩ (.slice (some ⟨ad.block, ad.off + 2, none⟩) r.length (c - 1)) = W1 at N1 T1 hsz ⊢
      have b1 := below_alloc (below_alloc (Below.refl W1.heap.size W1) (.cells #[.int .i64 f.f0, .slice A1 f.f1.length c1'] 43)) (.cells #[.int .i64 f.f0, .slice A1 f.f1.length c1'] 43)
      have K1 := blk_alloc (blk_new W1 (.cells #[.int .i64 f.f0, .slice A1 f.f1.length c1'] 43)) (.cells #[.int .i64 f.f0, .slice A1 f.f1.length c1'] 43)
      rw [hsz] at K1
      refine bodyPost_ret (results_cell_row rfl _ _ w.heap.size 43 _ (0, 0) _ rfl K1 Try.underlying43 rfl (by kernel_rfl)) rfl ?_
      have TT := T1.trans (Tn.of_below b1)
      exact ⟨A1, c1', rfl, hl1, TT.F hT.sub HF1.out, N1.kept b1, TT⟩
end
end Go.Proofs.Ytpkfeepepbchlaa.Bl
