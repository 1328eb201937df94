import Derived.Test.YtahiadghodhkhaaGSv1
import Derived.Test.YtahiadghodhkhaaGWc
import Derived.Test.YtahiadghodhkhaaGWs
namespace Go.Proofs.Ytahiadghodhkhaa.Bl
open Go.RowKit Go.Maps Go.Proofs.YtahiadghodhkhaaW.PrintWords Go.Proofs.YtahiadghodhkhaaW.PrintLast Go.Proofs.YtahiadghodhkhaaW.PrintMore Go.Proofs.Ytahiadghodhkhaa.PB
set_option linter.unusedVariables false
set_option linter.unusedSimpArgs false
theorem Rf.setS {S : List Nat} {w : World} {x g : Nat} {q : Int} {L : List Ent} (h : Rf S w x q L) (hg : g ∈ S) (hne : x ≠ g) (i : Nat) (u : Value) : Rf S (w.setCell ⟨g, i, none⟩ u) x q L := by
  obtain ⟨A, c, h1, h2, h3⟩ := h.ex
  exact ⟨⟨A, c, blk_far h1 (by exact hne) u, h2, Kd.F_far h3 (fun k hk e => hk (by rw [show k = g from e]; exact hg)) u⟩, h.mem, fun s hs => by
    have := h.lt s hs
    simp only [World.setCell]
    simpa using this⟩
theorem Rf.narrow {S S2 : List Nat} {w : World} {x : Nat} {q : Int} {L : List Ent} (h : Rf S2 w x q L) (hs : ∀ s ∈ S, s ∈ S2) (hx : x ∈ S) : Rf S w x q L := by
  obtain ⟨A, c, h1, h2, h3⟩ := h.ex
  exact ⟨⟨A, c, h1, h2, Kd.F_mono h3 (fun k hk hm => hk (hs k hm))⟩, hx, fun s hm => h.lt s (hs s hm)⟩
end Go.Proofs.Ytahiadghodhkhaa.Bl
