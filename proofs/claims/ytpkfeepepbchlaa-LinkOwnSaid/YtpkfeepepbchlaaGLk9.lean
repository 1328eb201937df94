import Derived.Test.YtpkfeepepbchlaaGLk8
namespace Go.Proofs.Ytpkfeepepbchlaa.Bl
open Go.RowKit Go.Maps Go.Proofs.YtpkfeepepbchlaaW.PrintWords Go.Proofs.YtpkfeepepbchlaaW.PrintLast Go.Proofs.YtpkfeepepbchlaaW.PrintMore Go.Proofs.Ytpkfeepepbchlaa.PK
set_option linter.unusedVariables false
set_option linter.unusedSimpArgs false
theorem F_elder {S : List Nat} {w W : World} {A : Option Addr} {n : Nat} {t : List Int} (hC : Bs.C w A n t) (hb : Below w.heap.size w W) (hS : ∀ s ∈ S, w.heap.size ≤ s) : Kd.F Bs W (fun k => k ∉ S) A n t :=
  fun W' hW => Sb.C_heap hC (fun b hb' => (hW b (fun hm => by have := hS b hm; omega) (Nat.lt_of_lt_of_le hb' hb.size)).trans (hb.block b hb'))
def SmOk (L : List Ent) : Prop := ∀ y ∈ L, y.1.size ≤ 64 ∧ y.2.2.length ≤ 65536
theorem DoR.smalls {q : Int} {L L' : List Ent} {kind num nm code : Int} {k : ByteArray} {t bd : List Int} {ns : List ByteArray} (h : DoR q L kind num k t L' nm code bd ns) (hE : SmOk L) : SmOk L' := by
  rcases h with ⟨_, rfl, _⟩ | ⟨hK, _, ⟨_, _, _, ⟨_, _, rfl⟩ | ⟨_, _, A, c, rfl⟩⟩ | ⟨_, rfl, _⟩ | ⟨_, rfl, _⟩ | ⟨_, rfl, _⟩⟩
  · exact hE
  · exact hE
  · obtain ⟨_, _, _, _, p5, p6, _⟩ := okA_parts hK
    intro y hy
    rcases (mem_ins _ y _).1 hy with rfl | hy
    · exact ⟨p6, by show t.length ≤ 65536; omega⟩
    · exact hE y ((mem_off k y L).1 hy).1
  · exact hE
  · exact hE
  · intro y hy
    exact hE y ((mem_off k y L).1 hy).1
section
variable {T S : List Nat} {w : World} {n gp cap : Nat} {q : Int} {ps : List Pr} {fs : List Ft} {num sent ticks : Int}
end
end Go.Proofs.Ytpkfeepepbchlaa.Bl
