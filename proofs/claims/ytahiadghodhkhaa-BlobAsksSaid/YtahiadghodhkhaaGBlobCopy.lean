import Derived.Test.YtahiadghodhkhaaGRf6
import Derived.Test.YtahiadghodhkhaaGBlobQuota
import Derived.Test.YtahiadghodhkhaaGPBx9
namespace Go.Proofs.Ytahiadghodhkhaa.Bl
open Go.RowKit Go.Maps Go.Proofs.YtahiadghodhkhaaW.PrintWords Go.Proofs.YtahiadghodhkhaaW.PrintLast Go.Proofs.YtahiadghodhkhaaW.PrintMore Go.Proofs.Ytahiadghodhkhaa.PB
set_option linter.unusedVariables false
set_option linter.unusedSimpArgs false
theorem sameN_loop (l : List ByteArray) (hm : l.length ≤ 140737488355328) : ∀ (d k i : Nat), i + d = l.length → d < k → scriniumref16_SameNames.l0 k l l (i : Int) = some true
  | 0, k, i, hi, hk => by
    obtain ⟨k, rfl⟩ : ∃ j, k = j + 1 := ⟨k - 1, by omega⟩
    simp only [scriniumref16_SameNames.l0]
    rw [if_neg (by omega)]
  | d + 1, k, i, hi, hk => by
    obtain ⟨k, rfl⟩ : ∃ j, k = j + 1 := ⟨k - 1, by omega⟩
    have ih := sameN_loop l hm d k (i + 1) (by omega) (by omega)
    have e : wrap64 ((i : Int) + 1) = ((i + 1 : Nat) : Int) := by unfold wrap64; omega
    simp only [scriniumref16_SameNames.l0]
    rw [if_pos (by omega), if_pos (by omega), if_pos (by omega), if_pos trivial, e]
    exact ih
theorem sameN_is (l : List ByteArray) (hm : l.length ≤ 140737488355328) : scriniumref16_SameNames.f (l.length + 1) l l = some true := by
  unfold scriniumref16_SameNames.f
  rw [if_pos rfl]
  exact sameN_loop l hm l.length (l.length + 1) 0 (by omega) (by omega)
theorem Names_R (g b : Nat) (q : Int) (L : List Ent) (nl : List ByteArray) (hnl : nl = L.map (·.1)) (w : World) (h : Bl w g b q L) (hl : L.length ≤ 100000) :
    Calls Try.prog 20 #[.pointer (some ⟨g, 0, none⟩)] w fun e w' => ∃ v, e = .returned v ∧ Kd.string.R 9 w' w.heap.size (fun _ => True) v nl ∧ Below w.heap.size w w' := by
  subst hnl
  refine (Names_calls g b q L w h hl).mono ?_
  rintro e w' ⟨v, rfl, ho, hb⟩
  refine ⟨v, rfl, Kd.R_of_own (enc := Value.string) (by rw [List.length_map]; unfold encs; rw [List.map_map]; exact ho) (fun _ _ => trivial), hb⟩
theorem RNames_R (S : List Nat) (x : Nat) (q : Int) (L : List Ent) (nl : List ByteArray) (hnl : nl = L.map (·.1)) (w : World) (h : Rf S w x q L) (hl : L.length ≤ 100000) :
    Calls Try.prog 21 #[.pointer (some ⟨x, 0, none⟩)] w fun e w' => ∃ v, e = .returned v ∧ Kd.string.R 9 w' w.heap.size (fun _ => True) v nl ∧ Below w.heap.size w w' := by
  subst hnl
  exact RNames_calls S x q L w h hl
end Go.Proofs.Ytahiadghodhkhaa.Bl
