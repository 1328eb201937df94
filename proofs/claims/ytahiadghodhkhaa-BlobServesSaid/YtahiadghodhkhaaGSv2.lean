import Derived.Test.YtahiadghodhkhaaGSv1
import Derived.Test.YtahiadghodhkhaaGWc
import Derived.Test.YtahiadghodhkhaaGWs
namespace Go.Proofs.Ytahiadghodhkhaa.Bl
open Go.RowKit Go.Maps Go.Proofs.YtahiadghodhkhaaW.PrintWords Go.Proofs.YtahiadghodhkhaaW.PrintLast Go.Proofs.YtahiadghodhkhaaW.PrintMore Go.Proofs.Ytahiadghodhkhaa.PB
set_option linter.unusedVariables false
set_option linter.unusedSimpArgs false
theorem Rf.setS {S : List Nat} {w : World} {x g : Nat} {q : Int} {L : List Ent} (h : Rf S w x q L) (hg : g ∈ S) (hne : x ≠ g) (i : Nat) (u : Value) : Rf S (w.setCell ⟨g, i, none⟩ u) x q L := by
  obtain ⟨A, c, h1, h2, h3⟩ := h.ex
  exact ⟨⟨A, c, blk_far h1 (by exact hne) u, h2, Kd.F_far h3 (fun k hk e => hk (by rw [show k = g from e]; exact hg)) u⟩, h.mem, fun s hs => by
    have := h.lt s hs
    simp only [World.setCell]
    simpa using this⟩
theorem Rf.narrow {S S2 : List Nat} {w : World} {x : Nat} {q : Int} {L : List Ent} (h : Rf S2 w x q L) (hs : ∀ s ∈ S, s ∈ S2) (hx : x ∈ S) : Rf S w x q L := by
  obtain ⟨A, c, h1, h2, h3⟩ := h.ex
  exact ⟨⟨A, c, h1, h2, Kd.F_mono h3 (fun k hk hm => hk (hs k hm))⟩, hx, fun s hm => h.lt s (hs s hm)⟩
set_option maxRecDepth 20000 in
set_option maxHeartbeats 8000000 in
theorem RServe_calls (S : List Nat) (x : Nat) (q : Int) (L : List Ent) (A : Option Addr) (n c : Nat) (s : List Int) (w : World) (h : Rf S w x q L) (hL : L.length ≤ 100000) (hsm : ∀ y ∈ L, y.1.size ≤ 64 ∧ y.2.2.length ≤ 65536) (hr : Bs.C w A n s) (hn : s.length = n) (hc : n ≤ c) (hl : n ≤ 4000) (hb : Sb.Bytes s) {L' : List Ent} {out : List Int} (hS : SvR q L s L' out) :
    Calls Try.prog 29 #[.pointer (some ⟨x, 0, none⟩), .slice A n c] w fun e w' => ∃ u, e = .returned u ∧ Bs.R 5 w' w.heap.size (fun _ => True) u out ∧ Rf S w' x q L' ∧ w.grownBy w' (some x) := by
  have HH := Aside0.mk h
  clear h
  subst hn
  go_enter Try.func29, Try.ntmps29
  go_wp2_with fail
  refine (scriniumref16_GetAsk.calls 10 A c s _ _ _ _ _ w hr hc (Sb.refGetA_is s hb hl)).mono ?_
  rintro e w1 ⟨u, rfl, hR, hb1⟩
  obtain ⟨A0, c0, rfl, hc0, hC0⟩ := Kd.R_reads hR
  have B1 := Aside0.mk hb1
  have HC0 := Aside0.mk hC0
  have HL0 := Aside0.mk hc0
  have HS := Aside0.mk (show (((Sb.getA s).2.2.2.2 ≠ 0 ∧ L' = L ∧ out = (Sb.ansB 0 3 [] []).1) ∨ ((Sb.getA s).2.2.2.2 = 0 ∧ ∃ nm code bd ns, DoR q L (Sb.getA s).1 (Sb.getA s).2.1 (strOfNums (Sb.getA s).2.2.1) (Sb.getA s).2.2.2.1 L' nm code bd ns ∧ out = (Sb.ansB nm code bd ns).1)) from hS)
  clear hR hb1 hr hb hC0 hc0 hS
  generalize (Sb.getA s).2.2.2.2 = er at HS ⊢
  generalize (Sb.getA s).2.2.2.1 = t at HS HC0 HL0 ⊢
  generalize (Sb.getA s).1 = kind at HS ⊢
  generalize (Sb.getA s).2.1 = num at HS ⊢
  generalize strOfNums (Sb.getA s).2.2.1 = k at HS ⊢
  have P1 := Aside0.mk (blk_new w1 (.cells #[.int .i64 kind, .int .i64 num, .string k, .slice A0 t.length c0] 29))
  have bA := Aside0.mk (below_alloc (Below.refl w1.heap.size w1) (.cells #[.int .i64 kind, .int .i64 num, .string k, .slice A0 t.length c0] 29))
  have B2 := Aside0.mk (B1.out.trans (bA.out.mono B1.out.size))
  have HC1 := Aside0.mk (Kd.C_below HC0.out bA.out)
  have hpl : w1.heap.size < (w1.alloc (.cells #[.int .i64 kind, .int .i64 num, .string k, .slice A0 t.length c0] 29)).heap.size := blk_lt P1.out
  have hpw : w.heap.size ≤ w1.heap.size := B1.out.size
  by_cases he : er = 0
  · obtain ⟨nm, code, bd, ns, hD, rfl⟩ : ∃ nm code bd ns, DoR q L kind num k t L' nm code bd ns ∧ out = (Sb.ansB nm code bd ns).1 := by
      rcases HS.out with ⟨h1, _⟩ | ⟨_, h2⟩
      · exact absurd he h1
      · exact h2
    have HD := Aside0.mk hD
    have hds := hD.small hsm
    have hlb := hds.1
    have hln := hds.2
    clear HS hD hds
    subst he
    go_wp2_with fail
    have P3 := Aside0.mk (blk_alloc P1.out (.cells #[.int .i64 0, .int .i64 3, .slice none 0 0, .slice none 0 0] 32))
    have F3 := Aside0.mk (blk_new (w1.alloc (.cells #[.int .i64 kind, .int .i64 num, .string k, .slice A0 t.length c0] 29)) (.cells #[.int .i64 0, .int .i64 3, .slice none 0 0, .slice none 0 0] 32))
    have b3 := Aside0.mk (below_alloc (Below.refl (w1.alloc (.cells #[.int .i64 kind, .int .i64 num, .string k, .slice A0 t.length c0] 29)).heap.size (w1.alloc (.cells #[.int .i64 kind, .int .i64 num, .string k, .slice A0 t.length c0] 29))) (.cells #[.int .i64 0, .int .i64 3, .slice none 0 0, .slice none 0 0] 32))
    have hps : (w1.alloc (.cells #[.int .i64 kind, .int .i64 num, .string k, .slice A0 t.length c0] 29)).heap.size = w1.heap.size + 1 := by simp
    have HC3 := Aside0.mk (Kd.C_alloc HC1.out (.cells #[.int .i64 0, .int .i64 3, .slice none 0 0, .slice none 0 0] 32))
    have B4 := Aside0.mk (B2.out.trans (b3.out.mono B2.out.size))
    rw [hps] at F3
    generalize hpv : w1.heap.size + 1 = p at F3 ⊢
    generalize (w1.alloc (.cells #[.int .i64 kind, .int .i64 num, .string k, .slice A0 t.length c0] 29)).alloc (.cells #[.int .i64 0, .int .i64 3, .slice none 0 0, .slice none 0 0] 32) = W3 at P3 F3 HC3 B4 ⊢
    have hp2 : w.heap.size ≤ p := by omega
    have hlp : p < W3.heap.size := blk_lt F3.out
    clear P1 HC1 B2 b3 bA hps hpl B1 HC0
    have hS2 : ∀ z ∈ p :: S, w.heap.size ≤ z ∨ z ∈ S := by
      intro z hz
      rcases List.mem_cons.1 hz with rfl | hz
      · exact .inl hp2
      · exact .inr hz
    have hS3 : ∀ z ∈ p :: S, z < W3.heap.size := by
      intro z hz
      rcases List.mem_cons.1 hz with rfl | hz
      · exact hlp
      · exact Nat.lt_of_lt_of_le (HH.out.lt z hz) B4.out.size
    have HR3 := Aside0.mk ((HH.out.kept B4.out).wider hS2 (List.mem_cons_of_mem _ HH.out.mem) hS3 HH.out B4.out rfl)
    have hxp : x ≠ p := by have := HH.out.xlt; omega
    clear hS2 hS3
    refine (RDo_calls (p :: S) x q L kind num k A0 c0 t W3 HR3.out hL hsm HL0.out HC3.out HD.out).mono ?_
    rintro e w5 ⟨vb, vn, rfl, hvb, hvn, hR5, hg5⟩
    obtain ⟨A3, c3, rfl, hc3, _⟩ := Kd.R_reads hvb
    obtain ⟨A4, c4, rfl, hc4, _⟩ := Kd.R_reads hvn
    have F5 := Aside0.mk (blk_grown F3.out hg5 (by simpa using Ne.symm hxp))
    have HVB := Aside0.mk hvb
    have HVN := Aside0.mk hvn
    have HR5 := Aside0.mk hR5
    have G5 := Aside0.mk (grown_after B4.out hg5)
    have HL3 := Aside0.mk hc3
    have HL4 := Aside0.mk hc4
    clear hvb hvn hR5 hg5 hc3 hc4
    have f0 : (w5).cell? ⟨p, 0, none⟩ = some (.int .i64 0) := (blk_cell (F5.out) 0).trans rfl
    have f1 : (w5).cell? ⟨p, 1, none⟩ = some (.int .i64 3) := (blk_cell (F5.out) 1).trans rfl
    have f2 : (w5).cell? ⟨p, 2, none⟩ = some (.slice none 0 0) := (blk_cell (F5.out) 2).trans rfl
    have f3 : (w5).cell? ⟨p, 3, none⟩ = some (.slice none 0 0) := (blk_cell (F5.out) 3).trans rfl
    have fz0 := blk_frozen F5.out 0
    have fz1 := blk_frozen F5.out 1
    have fz2 := blk_frozen F5.out 2
    have fz3 := blk_frozen F5.out 3
    go_wp2_with fail
    have F6 := Aside0.mk (fill4_res F5.out (.int .i64 nm) (.int .i64 code) (.slice A3 bd.length c3) (.slice A4 ns.length c4))
    have HV6 := Aside0.mk ((set4_R (base := W3.heap.size) F5.out (.int .i64 nm) (.int .i64 code) (.slice A3 bd.length c3) (.slice A4 ns.length c4)).1 _ _ HVB.out)
    have HN6 := Aside0.mk ((set4_R (base := W3.heap.size) F5.out (.int .i64 nm) (.int .i64 code) (.slice A3 bd.length c3) (.slice A4 ns.length c4)).2 _ _ HVN.out)
    have HR6 := Aside0.mk ((((HR5.out.setS (by simp) hxp 0 (.int .i64 nm)).setS (by simp) hxp 1 (.int .i64 code)).setS (by simp) hxp 2 (.slice A3 bd.length c3)).setS (by simp) hxp 3 (.slice A4 ns.length c4))
    have G6 := Aside0.mk (fill4_grown G5.out hp2 (.int .i64 nm) (.int .i64 code) (.slice A3 bd.length c3) (.slice A4 ns.length c4))
    generalize ((((w5.setCell ⟨p, 0, none⟩ (.int .i64 nm)).setCell ⟨p, 1, none⟩ (.int .i64 code)).setCell ⟨p, 2, none⟩ (.slice A3 bd.length c3)).setCell ⟨p, 3, none⟩ (.slice A4 ns.length c4)) = W6 at F6 HV6 HN6 HR6 G6 ⊢
    clear f0 f1 f2 f3 fz0 fz1 fz2 fz3 F5 HVB HVN HR5 G5
    have f0 : (W6).cell? ⟨p, 0, none⟩ = some (.int .i64 nm) := (blk_cell (F6.out) 0).trans rfl
    have f1 : (W6).cell? ⟨p, 1, none⟩ = some (.int .i64 code) := (blk_cell (F6.out) 1).trans rfl
    have f2 : (W6).cell? ⟨p, 2, none⟩ = some (.slice A3 bd.length c3) := (blk_cell (F6.out) 2).trans rfl
    have f3 : (W6).cell? ⟨p, 3, none⟩ = some (.slice A4 ns.length c4) := (blk_cell (F6.out) 3).trans rfl
    try go_wp2_with fail
    refine (Sb.refPutAnswer_calls nm code A3 bd.length c3 bd A4 c4 ns W6 (by omega) rfl HL3.out HL4.out (Kd.R_reads' HV6.out).2.2 (Kd.R_reads' HN6.out).2.2).mono ?_
    rintro e w7 ⟨u, rfl, hU, hb7⟩
    have HU := Aside0.mk (Kd.R_lower hU G6.out.size)
    have G7 := Aside0.mk (gx_below G6.out hb7)
    have HR7 := Aside0.mk ((Rf.kept HR6.out hb7).narrow (S := S) (fun z hz => List.mem_cons_of_mem _ hz) HH.out.mem)
    clear hU hb7
    go_wp2_with fail
    go_ret
    exact ⟨_, rfl, HU.out, HR7.out, G7.out⟩
  · obtain ⟨rfl, rfl⟩ : L' = L ∧ out = (Sb.ansB 0 3 [] []).1 := by
      rcases HS.out with ⟨_, h2⟩ | ⟨h1, _⟩
      · exact h2
      · exact absurd h1 he
    have heb : (er == 0) = false := by simpa using he
    go_wp2_with fail
    have B4 := Aside0.mk (B2.out.trans ((below_alloc (Below.refl (w1.alloc (.cells #[.int .i64 kind, .int .i64 num, .string k, .slice A0 t.length c0] 29)).heap.size (w1.alloc (.cells #[.int .i64 kind, .int .i64 num, .string k, .slice A0 t.length c0] 29))) (.cells #[.int .i64 0, .int .i64 3, .slice none 0 0, .slice none 0 0] 32)).mono B2.out.size))
    generalize (w1.alloc (.cells #[.int .i64 kind, .int .i64 num, .string k, .slice A0 t.length c0] 29)).alloc (.cells #[.int .i64 0, .int .i64 3, .slice none 0 0, .slice none 0 0] 32) = W3 at B4 ⊢
    refine (Sb.refPutAnswer_calls 0 3 none 0 0 [] none 0 [] W3 (by decide) rfl (Nat.le_refl _) (Nat.le_refl _) (Kd.C_nil _ _) (Kd.C_nil _ _)).mono ?_
    rintro e w7 ⟨u, rfl, hU, hb7⟩
    have HU := Aside0.mk (Kd.R_lower hU B4.out.size)
    have G7 := Aside0.mk (B4.out.trans (hb7.mono B4.out.size))
    clear hU hb7
    go_wp2_with fail
    go_ret
    exact ⟨_, rfl, HU.out, Rf.kept HH.out G7.out, grown_of_below G7.out _⟩
end Go.Proofs.Ytahiadghodhkhaa.Bl
