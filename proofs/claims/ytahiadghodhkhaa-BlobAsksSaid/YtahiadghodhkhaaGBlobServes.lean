import Derived.Test.YtahiadghodhkhaaGSv2
import Derived.Test.YtahiadghodhkhaaGOpenQ
import Derived.Test.YtahiadghodhkhaaGBlobQuota
namespace Go.Proofs.Ytahiadghodhkhaa.Bl
open Go.RowKit Go.Maps Go.Proofs.YtahiadghodhkhaaW.PrintWords Go.Proofs.YtahiadghodhkhaaW.PrintLast Go.Proofs.YtahiadghodhkhaaW.PrintMore Go.Proofs.Ytahiadghodhkhaa.PB
set_option linter.unusedVariables false
set_option linter.unusedSimpArgs false
theorem okR_of {num code : Int} {bl : Nat} {ns : List ByteArray} (hn : ∀ s ∈ ns, s.size ≤ 64) (h : 0 ≤ code ∧ code ≤ 3 ∧ 0 ≤ num ∧ num ≤ 2147483647 ∧ bl ≤ 60000 ∧ ns.length ≤ 1000) : Sb.okR num code bl ns = true := by
  unfold Sb.okR Sb.okN
  rw [Bool.and_eq_true, List.all_eq_true]
  exact ⟨fun s hs => decide_eq_true (hn s hs), decide_eq_true h⟩
theorem DoR.right {q : Int} {L L' : List Ent} {kind num nm code : Int} {k : ByteArray} {t bd : List Int} {ns : List ByteArray} (h : DoR q L kind num k t L' nm code bd ns) (hsm : ∀ y ∈ L, y.1.size ≤ 64 ∧ y.2.2.length ≤ 65536) (hE : ∀ y ∈ L, y.2.2.length ≤ 60000 ∧ Sb.Bytes y.2.2) : Sb.okR nm code bd.length ns = true ∧ Sb.Bytes bd := by
  have hs := (h.small hsm).2
  rcases h with ⟨_, _, rfl, rfl, rfl, rfl⟩ | ⟨hK, rfl, hcs⟩
  · refine ⟨okR_of (by simp) ⟨by omega, by omega, ?_, ?_, by simp, by simp⟩, Sb.Bytes.nil⟩
    · unfold fnum; split <;> (try split) <;> omega
    · unfold fnum; split <;> (try split) <;> omega
  · obtain ⟨_, _, p3, p4, p5, p6, _⟩ := okA_parts hK
    rcases hcs with ⟨_, rfl, rfl, ⟨_, rfl, _⟩ | ⟨_, rfl, _⟩⟩ | ⟨_, _, rfl, rfl, rfl⟩ | ⟨_, _, rfl, rfl, rfl⟩ | ⟨_, _, rfl, rfl, rfl⟩
    · exact ⟨okR_of (by simp) ⟨by omega, by omega, p3, p4, by simp, by simp⟩, Sb.Bytes.nil⟩
    · exact ⟨okR_of (by simp) ⟨by omega, by omega, p3, p4, by simp, by simp⟩, Sb.Bytes.nil⟩
    · cases hf : findE k L with
      | none => exact ⟨okR_of (by simp) ⟨by simp, by simp, p3, p4, by simp, by simp⟩, Sb.Bytes.nil⟩
      | some y =>
        have := hE y (find_mem hf).1
        exact ⟨okR_of (by simp) ⟨by simp, by simp, p3, p4, by simpa using this.1, by simp⟩, by simpa using this.2⟩
    · refine ⟨okR_of ?_ ⟨by omega, by omega, p3, p4, by simp, hs⟩, Sb.Bytes.nil⟩
      intro s hms
      unfold nmsE at hms
      have h1 := List.mem_of_mem_take hms
      obtain ⟨y, hy, rfl⟩ := List.mem_map.1 (List.mem_filter.1 h1).1
      exact (hsm y hy).1
    · refine ⟨okR_of (by simp) ⟨?_, ?_, p3, p4, by simp, by simp⟩, Sb.Bytes.nil⟩ <;> (split <;> omega)
theorem DoR.ents {q : Int} {L L' : List Ent} {kind num nm code : Int} {k : ByteArray} {t bd : List Int} {ns : List ByteArray} (h : DoR q L kind num k t L' nm code bd ns) (ht : Sb.Bytes t) (hE : ∀ y ∈ L, y.2.2.length ≤ 60000 ∧ Sb.Bytes y.2.2) : ∀ y ∈ L', y.2.2.length ≤ 60000 ∧ Sb.Bytes y.2.2 := by
  rcases h with ⟨_, rfl, _⟩ | ⟨hK, _, ⟨_, _, _, ⟨_, _, rfl⟩ | ⟨_, _, A, c, rfl⟩⟩ | ⟨_, rfl, _⟩ | ⟨_, rfl, _⟩ | ⟨_, rfl, _⟩⟩
  · exact hE
  · exact hE
  · obtain ⟨_, _, _, _, p5, _, _⟩ := okA_parts hK
    intro y hy
    rcases (mem_ins _ y _).1 hy with rfl | hy
    · exact ⟨p5, ht⟩
    · exact hE y ((mem_off k y L).1 hy).1
  · exact hE
  · exact hE
  · intro y hy
    exact hE y ((mem_off k y L).1 hy).1
end Go.Proofs.Ytahiadghodhkhaa.Bl
