import Derived.Test.YtpkfeepepbchlaaGSb3
import Derived.Test.YtpkfeepepbchlaaGSb4
namespace Go.Proofs.Ytpkfeepepbchlaa.Sb
open Go.RowKit Go.Proofs.YtpkfeepepbchlaaW.PrintWords Go.Proofs.YtpkfeepepbchlaaW.PrintLast Go.Proofs.YtpkfeepepbchlaaW.PrintMore Go.Proofs.Ytpkfeepepbchlaa.PK
set_option linter.unusedVariables false
set_option linter.unusedSimpArgs false
theorem numR_bd (s : List Int) (hs : Bytes s) (at_ : Nat) (hat : at_ ≤ s.length) (n : Int) : 0 ≤ (numR s at_ n).1 ∧ (numR s at_ n).1 < M64 ∧ at_ + (numR s at_ n).2.1 ≤ s.length := by
  unfold numR
  split
  · exact ⟨by simp, by decide, hat⟩
  · split
    · exact ⟨by simp, by decide, hat⟩
    · obtain ⟨h1, h2⟩ := be_bd ((s.drop at_).take n.toNat) ((hs.drop _).take _) (by rw [List.length_take]; omega)
      exact ⟨h1, h2, by simp only; omega⟩
theorem RNum_calls (g : Nat) (s : List Int) (at_ : Nat) (n : Int) (w0 w : World) (h : Rd w0 w g s at_) :
    Calls Try.prog 54 #[.pointer (some ⟨g, 0, none⟩), .int .i64 n] w fun e w' => e = .returned (.tuple #[.int .u64 (numR s at_ n).1, .int .i64 (numR s at_ n).2.2]) ∧
      Rd w0 w' g s (at_ + (numR s at_ n).2.1) ∧ KeepBut w w' g none := by
  refine (bin_Reader_Num.calls 10 g s at_ n _ _ _ w0 w h.is h.below (Num_is s h.bytes (by have := h.small; omega) at_ h.le n)).mono ?_
  rintro e w1 ⟨rfl, hi, hb, hk⟩
  exact ⟨rfl, ⟨hi, hb, h.bytes, h.small, (numR_bd s h.bytes at_ h.le n).2.2⟩, hk⟩
theorem RSmall_calls (g : Nat) (s : List Int) (at_ : Nat) (n : Int) (w0 w : World) (h : Rd w0 w g s at_) :
    Calls Try.prog 43 #[.pointer (some ⟨g, 0, none⟩), .int .u64 n] w fun e w' => e = .returned (.tuple #[.int .u64 (smallR s at_ n).1, .int .i64 (smallR s at_ n).2.2]) ∧
      Rd w0 w' g s (at_ + (smallR s at_ n).2.1) ∧ KeepBut w w' g none := by
  refine (bin_Reader_Small.calls 9 g s at_ n _ _ _ w0 w h.is h.below (Small_is s h.bytes (by have := h.small; omega) at_ h.le n)).mono ?_
  rintro e w1 ⟨rfl, hi, hb, hk⟩
  exact ⟨rfl, ⟨hi, hb, h.bytes, h.small, (smallR_bd s h.bytes at_ h.le n).2.2.2.1⟩, hk⟩
def endR (s : List Int) (at_ : Nat) : Int := if s.length = at_ then 0 else 2
theorem REnd_calls (g : Nat) (s : List Int) (at_ : Nat) (w0 w : World) (h : Rd w0 w g s at_) :
    Calls Try.prog 57 #[.pointer (some ⟨g, 0, none⟩)] w fun e w' => e = .returned (.int .i64 (endR s at_)) ∧ Rd w0 w' g s at_ ∧ KeepBut w w' g none := by
  have hle := h.le
  have hsm := h.small
  have e : wrap64 ((s.length : Int) - at_) = (s.length : Int) - at_ := by unfold wrap64; omega
  have hE : bin_Reader_End.f s (at_ : Int) = some (endR s at_, (at_ : Int)) := by
    unfold bin_Reader_End.f endR
    simp only [bin_Reader_left.f, Option.bind_some, e]
    clear e
    by_cases c : s.length = at_
    · rw [if_neg (by omega), if_pos c]
    · rw [if_pos (by omega), if_neg c]
  refine (bin_Reader_End.calls g s at_ _ at_ w0 w h.is h.below hE).mono ?_
  rintro e w1 ⟨rfl, hi, hb, hk⟩
  exact ⟨rfl, ⟨hi, hb, h.bytes, h.small, h.le⟩, hk⟩
theorem Rd.later {w0 w w' : World} {g : Nat} {s : List Int} {at_ : Nat} (h : Rd w0 w g s at_) (hb : Below w.heap.size w w') : Rd w0 w' g s at_ :=
  ⟨IsS105.below h.is hb, below_then h.below h.below.size hb, h.bytes, h.small, h.le⟩
theorem Rd.kept {w0 w w' : World} {g B : Nat} {s s' : List Int} {a a' : Nat} (h : Rd w0 w g s a) (h' : Rd w0 w' g s' a') (hk : KeepBut w w' g none) (hB : B ≤ w0.heap.size) : Below B w w' :=
  below_of_keep h.below h'.below hk (by have := IsS105.ge h.is; omega) (by have := h.below.size; omega)
end Go.Proofs.Ytpkfeepepbchlaa.Sb
