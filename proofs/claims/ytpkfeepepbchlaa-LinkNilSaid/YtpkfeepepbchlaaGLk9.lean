import Derived.Test.YtpkfeepepbchlaaGLk8
namespace Go.Proofs.Ytpkfeepepbchlaa.Bl
open Go.RowKit Go.Maps Go.Proofs.YtpkfeepepbchlaaW.PrintWords Go.Proofs.YtpkfeepepbchlaaW.PrintLast Go.Proofs.YtpkfeepepbchlaaW.PrintMore Go.Proofs.Ytpkfeepepbchlaa.PK
set_option linter.unusedVariables false
set_option linter.unusedSimpArgs false
def SmOk (L : List Ent) : Prop := ∀ y ∈ L, y.1.size ≤ 64 ∧ y.2.2.length ≤ 65536
section
variable {T S : List Nat} {w : World} {n gp cap : Nat} {q : Int} {ps : List Pr} {fs : List Ft} {num sent ticks : Int}
set_option maxRecDepth 20000 in
set_option maxHeartbeats 16000000 in
theorem Ask_nil (x kind nm : Int) (k : ByteArray) (Ab : Option Addr) (cb : Nat) (t : List Int) (w : World) (hT : Bs.C w Ab t.length t) (hcb : t.length ≤ cb) :
    Calls Try.prog 12 #[.pointer none, .int .i64 x, .agg #[.int .i64 kind, .int .i64 nm, .string k, .slice Ab t.length cb]] w fun e w' =>
      e = .returned (.tuple #[.agg #[.int .i64 0, .int .i64 0, .slice none 0 0, .slice none 0 0], .int .i64 15]) ∧ Below w.heap.size w w' := by
  have HT := Aside0.mk hT
  have K0 := Aside0.mk (blk_new w (.cells #[.int .i64 kind, .int .i64 0, .string k, .slice Ab t.length cb] 30))
  have K1 := Aside0.mk (blk_alloc K0.out (.cells #[.int .i64 0, .int .i64 0, .slice none 0 0, .slice none 0 0] 36))
  have hs1 := alloc_size w (.cells #[.int .i64 kind, .int .i64 0, .string k, .slice Ab t.length cb] 30)
  have K2 := Aside0.mk (hs1 ▸ blk_new (w.alloc (.cells #[.int .i64 kind, .int .i64 0, .string k, .slice Ab t.length cb] 30)) (.cells #[.int .i64 0, .int .i64 0, .slice none 0 0, .slice none 0 0] 36))
  have B1 := Aside0.mk (below_alloc (below_alloc (Below.refl w.heap.size w) (.cells #[.int .i64 kind, .int .i64 0, .string k, .slice Ab t.length cb] 30)) (.cells #[.int .i64 0, .int .i64 0, .slice none 0 0, .slice none 0 0] 36))
  clear hs1 K0 hT
  go_enter Try.func12, Try.ntmps12
  go_wp2_with fail
  generalize (w.alloc (.cells #[.int .i64 kind, .int .i64 0, .string k, .slice Ab t.length cb] 30)).alloc (.cells #[.int .i64 0, .int .i64 0, .slice none 0 0, .slice none 0 0] 36) = w1 at K1 K2 B1 ⊢
  refine (Sb.PutAsk_calls kind 0 k Ab t.length cb t w1 trivial trivial rfl hcb (Kd.C_below HT.out B1.out)).mono ?_
  rintro e w2 ⟨u, rfl, hu, hb2⟩
  obtain ⟨A2, c2, rfl, _, _⟩ := Kd.R_reads hu
  have B2 := Aside0.mk (B1.out.trans (hb2.mono B1.out.size))
  have KX2 := Aside0.mk (blk_below K2.out hb2)
  clear hu hb2 K1 K2 B1
  have x0 : w2.cell? ⟨w.heap.size + 1, 0, none⟩ = some (.int .i64 0) := (blk_cell KX2.out 0).trans rfl
  have y0 := blk_frozen KX2.out 0
  have x1 : w2.cell? ⟨w.heap.size + 1, 1, none⟩ = some (.int .i64 0) := (blk_cell KX2.out 1).trans rfl
  have y1 := blk_frozen KX2.out 1
  have x2 : w2.cell? ⟨w.heap.size + 1, 2, none⟩ = some (.slice none 0 0) := (blk_cell KX2.out 2).trans rfl
  have y2 := blk_frozen KX2.out 2
  have x3 : w2.cell? ⟨w.heap.size + 1, 3, none⟩ = some (.slice none 0 0) := (blk_cell KX2.out 3).trans rfl
  have y3 := blk_frozen KX2.out 3
  go_wp2_with fail
  refine bodyPost_ret (results_ct rfl _ _ (w.heap.size + 1) 36 _ (0, 0) _ rfl (fill4_res KX2.out _ _ _ _) Try.underlying36 rfl (by kernel_rfl)) rfl ?_
  exact ⟨rfl, below_set (below_set (below_set (below_set B2.out (by omega)) (by omega)) (by omega)) (by omega)⟩
end
end Go.Proofs.Ytpkfeepepbchlaa.Bl
