import Derived.Test.YtahiadghodhkhaaGRf5
import Derived.Shelf.SlMaps.Clone
namespace Go.Proofs.Ytahiadghodhkhaa.Bl
open Go.RowKit Go.Maps Go.Proofs.YtahiadghodhkhaaW.PrintWords Go.Proofs.YtahiadghodhkhaaW.PrintLast Go.Proofs.YtahiadghodhkhaaW.PrintMore Go.Proofs.Ytahiadghodhkhaa.PB
set_option linter.unusedVariables false
set_option linter.unusedSimpArgs false
theorem RDo_calls (S : List Nat) (x : Nat) (q : Int) (L : List Ent) (kind num : Int) (k : ByteArray) (A : Option Addr) (c : Nat) (t : List Int) (w : World) (h : Rf S w x q L) (hl : L.length ≤ 100000) (hsm : ∀ y ∈ L, y.1.size ≤ 64 ∧ y.2.2.length ≤ 65536) (hc : t.length ≤ c) (hr : Bs.C w A t.length t)
    {L' : List Ent} {nm code : Int} {bd : List Int} {ns : List ByteArray} (hD : DoR q L kind num k t L' nm code bd ns) :
    Calls Try.prog 16 #[.pointer (some ⟨x, 0, none⟩), .agg #[.int .i64 kind, .int .i64 num, .string k, .slice A t.length c]] w fun e w' => ∃ vb vn, e = .returned (.agg #[.int .i64 nm, .int .i64 code, vb, vn]) ∧ Bs.R 5 w' w.heap.size (fun _ => True) vb bd ∧ Kd.string.R 9 w' w.heap.size (fun _ => True) vn ns ∧ Rf S w' x q L' ∧ w.grownBy w' (some x) := by
  rcases hD with ⟨hK, rfl, rfl, rfl, rfl, rfl⟩ | ⟨hK, rfl, hcs⟩
  · refine (RDo_foreign S x q L' kind num k A c t w h hl hK hc hr).mono ?_
    rintro e w' ⟨vb, vn, rfl, h1, h2, hb⟩
    exact ⟨vb, vn, rfl, h1, h2, h.kept hb, grown_of_below hb _⟩
  · obtain ⟨_, _, _, _, p5, p6, _⟩ := okA_parts hK
    rcases hcs with ⟨rfl, rfl, rfl, hp⟩ | ⟨rfl, rfl, rfl, rfl, rfl⟩ | ⟨rfl, rfl, rfl, rfl, rfl⟩ | ⟨rfl, rfl, rfl, rfl, rfl⟩
    · refine (RDo_put S x q L nm k A c t w h hl hK p6 p5 hsm hc hr).mono ?_
      rintro e w' ⟨vb, vn, rfl, h1, h2, h3, h4⟩
      rcases hp with ⟨hq, rfl, rfl⟩ | ⟨hq, rfl, A9, c9, rfl⟩
      · rw [if_pos hq] at h3 ⊢
        exact ⟨vb, vn, rfl, h1, h2, h3, h4⟩
      · rw [if_neg (by omega)] at h3 ⊢
        exact ⟨vb, vn, rfl, h1, h2, h3.same (by unfold putE; rw [ins_ref, ins_ref]), h4⟩
    · refine (RDo_get S x q L' nm k A c t w h hl hK p6 p5 (fun y hy => (hsm y hy).2) hc hr).mono ?_
      rintro e w' ⟨vb, vn, rfl, h1, h2, hb⟩
      exact ⟨vb, vn, rfl, h1, h2, h.kept hb, grown_of_below hb _⟩
    · refine (RDo_list S x q L' nm k A c t w h hl hK hc hr).mono ?_
      rintro e w' ⟨vb, vn, rfl, h1, h2, hb⟩
      exact ⟨vb, vn, rfl, h1, h2, h.kept hb, grown_of_below hb _⟩
    · refine (RDo_drop S x q L nm k A c t w h hl hK hc hr).mono ?_
      rintro e w' ⟨vb, vn, rfl, h1, h2, h3, h4⟩
      exact ⟨vb, vn, rfl, h1, h2, h3, h4⟩
end Go.Proofs.Ytahiadghodhkhaa.Bl
