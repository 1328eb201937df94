/- An answer that came in, opened. -/
import Derived.Test.YtcffacpdjcfidaaWr10
import Derived.Test.YtcffacpdjcfidaaOpen
namespace Go.Proofs.Ytcffacpdjcfidaa.Sb
open Go.RowKit Go.ChangeShapes Go.WideShapes Go.Deep Go.Proofs.YtcffacpdjcfidaaW.PrintWords Go.Proofs.Ytcffacpdjcfidaa.Open
set_option linter.unusedVariables false

theorem answer_arg {H : Type} {enc : TypeId × Value → H} {w : World} {base : Nat} {spare : Nat → Bool} {held : Bool} {v : Value} {x : DataW H} {ps : List MemPlace} (h : DataW.Trod enc Try.prog w base spare held 38 v x ps) :
    ∃ (num code : Int) (A : Option Addr) (n c : Nat) (bd : List Int) (B : Option Addr) (m d : Nat) (l : List ByteArray), v = .agg #[.int .i64 num, .int .i64 code, .slice A n c, .slice B m d] ∧ (bd.length = n ∧ Bs.C w A n bd ∧ n ≤ c ∧ l.length = m ∧ Kd.C Kd.string w B m l ∧ m ≤ d ∧ ∀ z, z ∈ bd → (Lit.int .u8 z).wf = true) := by
  obtain ⟨⟨num, code, bd, l⟩, hk, h1, h2, ⟨h3, h4⟩, h5⟩ := arg_agg (opens_struct Try.underlying38
    (opensF_cons (opens_int Try.underlying3) (by kernel_rfl) rfl (opensF_cons (opens_int Try.underlying3) (by kernel_rfl) rfl (opensF_cons (opens_slice Try.underlying22 (opens_int Try.underlying5) (by kernel_rfl)) (by kernel_rfl) rfl
      (opensF_one (opens_slice Try.underlying36 (opens_string Try.underlying9) (by kernel_rfl)) (by kernel_rfl) rfl)))) (by kernel_rfl)) h
  obtain ⟨c0, c1, e0, hc0, d0, d1, e1, hd0, b0, b1, e2, ⟨A, c, hb0, hl, hC⟩, B, d, he, hm, hD⟩ := hk
  simp only [Kd.int, Kd.scalar] at hc0 hd0
  subst hc0 hd0 hb0 he e2 e1
  refine ⟨num, code, A, bd.length, c, bd, B, l.length, d, l, ?_, rfl, hC, hl, rfl, hD, hm, h4⟩
  cases v with
  | agg cs =>
    have : cs.toList = _ := e0
    congr 1
    exact Array.toList_inj.1 this
  | _ => simp [Value.cells] at e0
end Go.Proofs.Ytcffacpdjcfidaa.Sb
