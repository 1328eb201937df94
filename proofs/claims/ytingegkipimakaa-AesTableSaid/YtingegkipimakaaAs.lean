/- The table's bytes are the reference's. -/
import Derived.Test.YtingegkipimakaaAs0
import Derived.Test.YtingegkipimakaaAs1
import Derived.Test.YtingegkipimakaaAs2
import Derived.Test.YtingegkipimakaaAs3
namespace Go.Proofs.Ytingegkipimakaa.Ae
open Go.RowKit Go.Proofs.YtingegkipimakaaW.PrintWords Go.Proofs.YtingegkipimakaaW.PrintLast Go.Proofs.YtingegkipimakaaW.PrintMore Go.Proofs.Ytingegkipimakaa.PA
theorem sub_is {a : Int} (h : 0 ≤ a ∧ a < 256) : scriniumref05_Sub.f 300 a = some (tabL.getD a.toNat 0) := by
  obtain ⟨n, rfl⟩ := Int.eq_ofNat_of_zero_le h.1
  rw [Int.toNat_natCast]
  rcases (by omega : n < 64 ∨ 64 ≤ n ∧ n < 128 ∨ 128 ≤ n ∧ n < 192 ∨ 192 ≤ n ∧ n < 256) with h | h | h | h
  · have := sub_part0 n h; rwa [Nat.add_zero] at this
  · have := sub_part1 (n - 64) (by omega); rwa [show n - 64 + 64 = n by omega] at this
  · have := sub_part2 (n - 128) (by omega); rwa [show n - 128 + 128 = n by omega] at this
  · have := sub_part3 (n - 192) (by omega); rwa [show n - 192 + 192 = n by omega] at this
end Go.Proofs.Ytingegkipimakaa.Ae
