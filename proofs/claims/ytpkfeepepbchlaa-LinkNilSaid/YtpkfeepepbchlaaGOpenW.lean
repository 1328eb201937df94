import Derived.Test.YtpkfeepepbchlaaGWr5
import Derived.Test.YtpkfeepepbchlaaGOpen
namespace Go.Proofs.Ytpkfeepepbchlaa.Sb
open Go.RowKit Go.ChangeShapes Go.WideShapes Go.Deep Go.Proofs.YtpkfeepepbchlaaW.PrintWords Go.Proofs.Ytpkfeepepbchlaa.Open
set_option linter.unusedVariables false
theorem ask_arg {H : Type} {enc : TypeId × Value → H} {w : World} {base : Nat} {spare : Nat → Bool} {held : Bool} {v : Value} {x : DataW H} {ps : List MemPlace} (h : DataW.Trod enc Try.prog w base spare held 30 v x ps) :
    ∃ (kind num : Int) (name : ByteArray) (A : Option Addr) (n c : Nat) (bd : List Int), v = .agg #[.int .i64 kind, .int .i64 num, .string name, .slice A n c] ∧ (bd.length = n ∧ Bs.C w A n bd ∧ n ≤ c ∧ (Lit.int .i64 kind).wf = true ∧ (Lit.int .i64 num).wf = true ∧ ∀ z, z ∈ bd → (Lit.int .u8 z).wf = true) := by
  obtain ⟨⟨kind, num, name, bd⟩, hk, h1, h2, h3, h4, h5⟩ := arg_agg (opens_struct Try.underlying30
    (opensF_cons (opens_int Try.underlying3) (by kernel_rfl) rfl (opensF_cons (opens_int Try.underlying3) (by kernel_rfl) rfl (opensF_cons (opens_string Try.underlying9) (by kernel_rfl) rfl
      (opensF_one (opens_slice Try.underlying28 (opens_int Try.underlying5) (by kernel_rfl)) (by kernel_rfl) rfl)))) (by kernel_rfl)) h
  obtain ⟨c0, c1, e0, hc0, d0, d1, e1, hd0, b0, b1, e2, hb0, A, c, he, hl, hC⟩ := hk
  simp only [Kd.int, Kd.string, Kd.scalar] at hc0 hd0 hb0
  subst hc0 hd0 hb0 he e2 e1
  refine ⟨kind, num, name, A, bd.length, c, bd, ?_, rfl, hC, hl, h1, h2, h5⟩
  cases v with
  | agg cs =>
    have : cs.toList = _ := e0
    congr 1
    exact Array.toList_inj.1 this
  | _ => simp [Value.cells] at e0
end Go.Proofs.Ytpkfeepepbchlaa.Sb
