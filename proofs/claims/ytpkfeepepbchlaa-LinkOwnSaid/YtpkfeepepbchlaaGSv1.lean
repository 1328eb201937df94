import Derived.Test.YtpkfeepepbchlaaGCp
import Derived.Test.YtpkfeepepbchlaaGWr5
import Derived.Test.YtpkfeepepbchlaaGWr7
namespace Go.Proofs.Ytpkfeepepbchlaa.Bl
open Go.RowKit Go.Maps Go.Proofs.YtpkfeepepbchlaaW.PrintWords Go.Proofs.YtpkfeepepbchlaaW.PrintLast Go.Proofs.YtpkfeepepbchlaaW.PrintMore Go.Proofs.Ytpkfeepepbchlaa.PK
set_option linter.unusedVariables false
set_option linter.unusedSimpArgs false
def SvR (q : Int) (L : List Ent) (s : List Int) (L' : List Ent) (out : List Int) : Prop :=
  ((Sb.getA s).2.2.2.2 ≠ 0 ∧ L' = L ∧ out = (Sb.ansB 0 3 [] []).1) ∨
  ((Sb.getA s).2.2.2.2 = 0 ∧ ∃ nm code bd ns, DoR q L (Sb.getA s).1 (Sb.getA s).2.1 (strOfNums (Sb.getA s).2.2.1) (Sb.getA s).2.2.2.1 L' nm code bd ns ∧ out = (Sb.ansB nm code bd ns).1)
theorem DoR.small {q : Int} {L L' : List Ent} {kind num nm code : Int} {k : ByteArray} {t bd : List Int} {ns : List ByteArray} (h : DoR q L kind num k t L' nm code bd ns) (hsm : ∀ y ∈ L, y.1.size ≤ 64 ∧ y.2.2.length ≤ 65536) : bd.length ≤ 65536 ∧ ns.length ≤ 1000 := by
  rcases h with ⟨_, _, _, _, rfl, rfl⟩ | ⟨_, _, ⟨_, rfl, rfl, _⟩ | ⟨_, _, rfl, rfl, _⟩ | ⟨_, _, rfl, _, rfl⟩ | ⟨_, _, rfl, rfl, _⟩⟩
  · simp
  · simp
  · refine ⟨?_, by simp⟩
    cases hf : findE k L with
    | none => simp
    | some y => exact (hsm y (find_mem hf).1).2
  · refine ⟨by simp, ?_⟩
    unfold nmsE
    rw [List.length_take]
    omega
  · simp
theorem set4_R {W : World} {g base : Nat} {r0 r1 r2 r3 : Value} (h : W.heap[g]? = some (.cells #[r0, r1, r2, r3] 36 (0, 0))) (a b c d : Value) :
    (∀ v xs, Bs.R 5 W base (fun _ => True) v xs → Bs.R 5 ((((W.setCell ⟨g, 0, none⟩ a).setCell ⟨g, 1, none⟩ b).setCell ⟨g, 2, none⟩ c).setCell ⟨g, 3, none⟩ d) base (fun _ => True) v xs) ∧
    (∀ v xs, Kd.string.R 9 W base (fun _ => True) v xs → Kd.string.R 9 ((((W.setCell ⟨g, 0, none⟩ a).setCell ⟨g, 1, none⟩ b).setCell ⟨g, 2, none⟩ c).setCell ⟨g, 3, none⟩ d) base (fun _ => True) v xs) :=
  ⟨fun v xs hr => Kd.R_set (Kd.R_set (Kd.R_set (Kd.R_set hr h (by decide) 0 _) (blk_put h 0 _ rfl) (by decide) 1 _) (blk_put (blk_put h 0 _ rfl) 1 _ rfl) (by decide) 2 _) (blk_put (blk_put (blk_put h 0 _ rfl) 1 _ rfl) 2 _ rfl) (by decide) 3 _,
   fun v xs hr => Kd.R_set (Kd.R_set (Kd.R_set (Kd.R_set hr h (by decide) 0 _) (blk_put h 0 _ rfl) (by decide) 1 _) (blk_put (blk_put h 0 _ rfl) 1 _ rfl) (by decide) 2 _) (blk_put (blk_put (blk_put h 0 _ rfl) 1 _ rfl) 2 _ rfl) (by decide) 3 _⟩
set_option maxRecDepth 20000 in
set_option maxHeartbeats 8000000 in
theorem Serve_calls (g b : Nat) (q : Int) (L : List Ent) (A : Option Addr) (n c : Nat) (s : List Int) (w : World) (h : Bl w g b q L) (hL : L.length ≤ 100000) (hq : 0 ≤ q ∧ q ≤ 9223372036854775807) (hr : Bs.C w A n s) (hn : s.length = n) (hc : n ≤ c) (hl : n ≤ 70000) (hb : Sb.Bytes s) :
    Calls Try.prog 36 #[.pointer (some ⟨g, 0, none⟩), .slice A n c] w fun e w' => ∃ u L' out, e = .returned u ∧ Bs.R 5 w' w.heap.size (fun _ => True) u out ∧ Bl w' g b q L' ∧ w.grownBy w' (some b) ∧ SvR q L s L' out := by
  have HH := Aside0.mk h
  clear h
  go_enter Try.func36, Try.ntmps36
  go_wp2_with fail
  refine (Sb.GetAsk_calls A n c s w hr hn hc hl hb).mono ?_
  rintro e w1 ⟨u, rfl, hR, hb1⟩
  obtain ⟨A0, c0, rfl, hc0, hC0⟩ := Kd.R_reads hR
  have B1 := Aside0.mk hb1
  have HC0 := Aside0.mk hC0
  have HL0 := Aside0.mk hc0
  have HS := Aside0.mk (show ∀ L' out, (((Sb.getA s).2.2.2.2 ≠ 0 ∧ L' = L ∧ out = (Sb.ansB 0 3 [] []).1) ∨ ((Sb.getA s).2.2.2.2 = 0 ∧ ∃ nm code bd ns, DoR q L (Sb.getA s).1 (Sb.getA s).2.1 (strOfNums (Sb.getA s).2.2.1) (Sb.getA s).2.2.2.1 L' nm code bd ns ∧ out = (Sb.ansB nm code bd ns).1)) → SvR q L s L' out from fun _ _ h => h)
  clear hR hb1 hr hb hC0 hc0
  generalize (Sb.getA s).2.2.2.2 = er at HS ⊢
  generalize (Sb.getA s).2.2.2.1 = t at HS HC0 HL0 ⊢
  generalize (Sb.getA s).1 = kind at HS ⊢
  generalize (Sb.getA s).2.1 = num at HS ⊢
  generalize strOfNums (Sb.getA s).2.2.1 = k at HS ⊢
  go_wp2_with fail
  have P1 := Aside0.mk (blk_new w1 (.cells #[.int .i64 kind, .int .i64 num, .string k, .slice A0 t.length c0] 30))
  have bA := Aside0.mk (below_alloc (Below.refl w1.heap.size w1) (.cells #[.int .i64 kind, .int .i64 num, .string k, .slice A0 t.length c0] 30))
  have hpa : w.heap.size ≤ w1.heap.size := B1.out.size
  generalize hpv : w1.heap.size = pa at P1 bA hpa ⊢
  generalize w1.alloc (.cells #[.int .i64 kind, .int .i64 num, .string k, .slice A0 t.length c0] 30) = W1 at P1 bA ⊢
  have B2 := Aside0.mk (B1.out.trans (Below.mono (by rw [hpv]; exact bA.out) B1.out.size))
  have HC1 := Aside0.mk (Kd.C_below HC0.out (by rw [hpv]; exact bA.out))
  clear HC0 bA B1
  refine (foreign_calls 0 _).mono ?_
  rintro e w2 ⟨vb, vn, rfl, hvb, hvn, hb2⟩
  obtain ⟨A1, c1, rfl, hc1, hC1⟩ := Kd.R_reads hvb
  obtain ⟨A2, c2, rfl, hc2, hC2⟩ := Kd.R_reads hvn
  have HA1 := Aside0.mk hC1
  have HA2 := Aside0.mk hC2
  have P2 := Aside0.mk (blk_below P1.out hb2)
  have B3 := Aside0.mk (B2.out.trans (hb2.mono B2.out.size))
  have HC2 := Aside0.mk (Kd.C_below HC1.out hb2)
  clear hvb hvn hb2 hC1 hC2 HC1 B2 P1
  rw [show fnum 0 = 0 from rfl]
  simp only [List.length_nil] at hc1 hc2 HA1 HA2 ⊢
  have hpl : pa < w2.heap.size := blk_lt P2.out
  have hpn0 : (w2.heap.size == pa) = false := by simpa using Nat.ne_of_gt hpl
  have hpn1 : (pa == w2.heap.size) = false := by simpa using Nat.ne_of_lt hpl
  have a0 : (w2).cell? ⟨pa, 0, none⟩ = some (.int .i64 kind) := (blk_cell (P2.out) 0).trans rfl
  have a1 : (w2).cell? ⟨pa, 1, none⟩ = some (.int .i64 num) := (blk_cell (P2.out) 1).trans rfl
  have a2 : (w2).cell? ⟨pa, 2, none⟩ = some (.string k) := (blk_cell (P2.out) 2).trans rfl
  have a3 : (w2).cell? ⟨pa, 3, none⟩ = some (.slice A0 t.length c0) := (blk_cell (P2.out) 3).trans rfl
  by_cases he : er = 0
  · subst he
    go_wp2_with fail
    clear a0 a1 a2 a3 hpn0 hpn1
    have P3 := Aside0.mk (blk_alloc P2.out (.cells #[.int .i64 0, .int .i64 3, .slice A1 0 c1, .slice A2 0 c2] 36))
    have F3 := Aside0.mk (blk_new w2 (.cells #[.int .i64 0, .int .i64 3, .slice A1 0 c1, .slice A2 0 c2] 36))
    have b3 := Aside0.mk (below_alloc (Below.refl w2.heap.size w2) (.cells #[.int .i64 0, .int .i64 3, .slice A1 0 c1, .slice A2 0 c2] 36))
    have hpn : pa ≠ w2.heap.size := Nat.ne_of_lt (blk_lt P2.out)
    have hp2 : w.heap.size ≤ w2.heap.size := B3.out.size
    have HA3 := Aside0.mk (Kd.C_alloc HA1.out (.cells #[.int .i64 0, .int .i64 3, .slice A1 0 c1, .slice A2 0 c2] 36))
    have HA4 := Aside0.mk (Kd.C_alloc HA2.out (.cells #[.int .i64 0, .int .i64 3, .slice A1 0 c1, .slice A2 0 c2] 36))
    have HC3 := Aside0.mk (Kd.C_alloc HC2.out (.cells #[.int .i64 0, .int .i64 3, .slice A1 0 c1, .slice A2 0 c2] 36))
    have B4 := Aside0.mk (B3.out.trans (b3.out.mono B3.out.size))
    have HH4 := Aside0.mk (Bl.kept HH.out B4.out)
    generalize hp2v : w2.heap.size = p at F3 hpn hp2 ⊢
    generalize w2.alloc (.cells #[.int .i64 0, .int .i64 3, .slice A1 0 c1, .slice A2 0 c2] 36) = W3 at P3 F3 HA3 HA4 HC3 B4 HH4 ⊢
    clear P2 HA1 HA2 HC2 B3 b3 hp2v hpv
    refine (Do_calls g b q L kind num k A0 c0 t W3 HH4.out hL hq HL0.out HC3.out).mono ?_
    rintro e w5 ⟨vb, vn, nm, code, bd, ns, L', rfl, hvb, hvn, hB5, hg5, hD⟩
    have hds := hD.small HH.out.small
    have hbp : p ≠ b := by have := HH.out.lt.2; omega
    obtain ⟨A3, c3, rfl, hc3, _⟩ := Kd.R_reads hvb
    obtain ⟨A4, c4, rfl, hc4, _⟩ := Kd.R_reads hvn
    have F5 := Aside0.mk (blk_grown F3.out hg5 (by simpa using hbp))
    have HVB := Aside0.mk hvb
    have HVN := Aside0.mk hvn
    have HB5 := Aside0.mk hB5
    have G5 := Aside0.mk (grown_after B4.out hg5)
    have HD := Aside0.mk hD
    have hlb := hds.1
    have hln := hds.2
    have HL3 := Aside0.mk hc3
    have HL4 := Aside0.mk hc4
    clear hvb hvn hB5 hg5 hD hds hc3 hc4
    have f0 : (w5).cell? ⟨p, 0, none⟩ = some (.int .i64 0) := (blk_cell (F5.out) 0).trans rfl
    have f1 : (w5).cell? ⟨p, 1, none⟩ = some (.int .i64 3) := (blk_cell (F5.out) 1).trans rfl
    have f2 : (w5).cell? ⟨p, 2, none⟩ = some (.slice A1 0 c1) := (blk_cell (F5.out) 2).trans rfl
    have f3 : (w5).cell? ⟨p, 3, none⟩ = some (.slice A2 0 c2) := (blk_cell (F5.out) 3).trans rfl
    have fz0 := blk_frozen F5.out 0
    have fz1 := blk_frozen F5.out 1
    have fz2 := blk_frozen F5.out 2
    have fz3 := blk_frozen F5.out 3
    go_wp2_with fail
    have F6 := Aside0.mk (fill4_res F5.out (.int .i64 nm) (.int .i64 code) (.slice A3 bd.length c3) (.slice A4 ns.length c4))
    have HV6 := Aside0.mk ((set4_R (base := W3.heap.size) F5.out (.int .i64 nm) (.int .i64 code) (.slice A3 bd.length c3) (.slice A4 ns.length c4)).1 _ _ HVB.out)
    have HN6 := Aside0.mk ((set4_R (base := W3.heap.size) F5.out (.int .i64 nm) (.int .i64 code) (.slice A3 bd.length c3) (.slice A4 ns.length c4)).2 _ _ HVN.out)
    have HB6 := Aside0.mk (fill4_bl F5.out HB5.out (.int .i64 nm) (.int .i64 code) (.slice A3 bd.length c3) (.slice A4 ns.length c4))
    have G6 := Aside0.mk (fill4_grown G5.out hp2 (.int .i64 nm) (.int .i64 code) (.slice A3 bd.length c3) (.slice A4 ns.length c4))
    generalize ((((w5.setCell ⟨p, 0, none⟩ (.int .i64 nm)).setCell ⟨p, 1, none⟩ (.int .i64 code)).setCell ⟨p, 2, none⟩ (.slice A3 bd.length c3)).setCell ⟨p, 3, none⟩ (.slice A4 ns.length c4)) = W6 at F6 HV6 HN6 HB6 G6 ⊢
    clear f0 f1 f2 f3 fz0 fz1 fz2 fz3 F5 HVB HVN HB5 G5
    have f0 : (W6).cell? ⟨p, 0, none⟩ = some (.int .i64 nm) := (blk_cell (F6.out) 0).trans rfl
    have f1 : (W6).cell? ⟨p, 1, none⟩ = some (.int .i64 code) := (blk_cell (F6.out) 1).trans rfl
    have f2 : (W6).cell? ⟨p, 2, none⟩ = some (.slice A3 bd.length c3) := (blk_cell (F6.out) 2).trans rfl
    have f3 : (W6).cell? ⟨p, 3, none⟩ = some (.slice A4 ns.length c4) := (blk_cell (F6.out) 3).trans rfl
    try go_wp2_with fail
    refine (Sb.PutAnswer_calls nm code A3 bd.length c3 bd A4 c4 ns W6 (by omega) (by omega) rfl HL3.out (Kd.R_reads' HV6.out).2.2 (Kd.R_reads' HN6.out).2.2).mono ?_
    rintro e w7 ⟨u, rfl, hU, hb7⟩
    have HU := Aside0.mk (Kd.R_lower hU G6.out.size)
    have G7 := Aside0.mk (gx_below G6.out hb7)
    have HB7 := Aside0.mk (Bl.kept HB6.out hb7)
    clear hU hb7
    go_wp2_with fail
    go_ret
    exact ⟨_, L', _, rfl, HU.out, HB7.out, G7.out, HS.out _ _ (.inr ⟨by first | rfl | trivial, nm, code, bd, ns, HD.out, rfl⟩)⟩
  · have heb : (er == 0) = false := by simpa using he
    go_wp2_with fail
    clear a0 a1 a2 a3 hpn0 hpn1
    have P3 := Aside0.mk (blk_alloc P2.out (.cells #[.int .i64 0, .int .i64 3, .slice A1 0 c1, .slice A2 0 c2] 36))
    have F3 := Aside0.mk (blk_new w2 (.cells #[.int .i64 0, .int .i64 3, .slice A1 0 c1, .slice A2 0 c2] 36))
    have b3 := Aside0.mk (below_alloc (Below.refl w2.heap.size w2) (.cells #[.int .i64 0, .int .i64 3, .slice A1 0 c1, .slice A2 0 c2] 36))
    have hpn : pa ≠ w2.heap.size := Nat.ne_of_lt (blk_lt P2.out)
    have hp2 : w.heap.size ≤ w2.heap.size := B3.out.size
    have HA3 := Aside0.mk (Kd.C_alloc HA1.out (.cells #[.int .i64 0, .int .i64 3, .slice A1 0 c1, .slice A2 0 c2] 36))
    have HA4 := Aside0.mk (Kd.C_alloc HA2.out (.cells #[.int .i64 0, .int .i64 3, .slice A1 0 c1, .slice A2 0 c2] 36))
    have HC3 := Aside0.mk (Kd.C_alloc HC2.out (.cells #[.int .i64 0, .int .i64 3, .slice A1 0 c1, .slice A2 0 c2] 36))
    have B4 := Aside0.mk (B3.out.trans (b3.out.mono B3.out.size))
    have HH4 := Aside0.mk (Bl.kept HH.out B4.out)
    generalize hp2v : w2.heap.size = p at F3 hpn hp2 ⊢
    generalize w2.alloc (.cells #[.int .i64 0, .int .i64 3, .slice A1 0 c1, .slice A2 0 c2] 36) = W3 at P3 F3 HA3 HA4 HC3 B4 HH4 ⊢
    clear P2 HA1 HA2 HC2 B3 b3 hp2v hpv
    refine (Sb.PutAnswer_calls 0 3 A1 0 c1 [] A2 c2 [] W3 (by decide) (by decide) rfl hc1 HA3.out HA4.out).mono ?_
    rintro e w7 ⟨u, rfl, hU, hb7⟩
    have HU := Aside0.mk (Kd.R_lower hU B4.out.size)
    have G7 := Aside0.mk (B4.out.trans (hb7.mono B4.out.size))
    clear hU hb7
    go_wp2_with fail
    go_ret
    exact ⟨_, L, _, rfl, HU.out, Bl.kept HH.out G7.out, grown_of_below G7.out _, HS.out _ _ (.inl ⟨he, rfl, rfl⟩)⟩
end Go.Proofs.Ytpkfeepepbchlaa.Bl
