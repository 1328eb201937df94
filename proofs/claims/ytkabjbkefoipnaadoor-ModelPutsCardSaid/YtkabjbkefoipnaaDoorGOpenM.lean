import Derived.Test.YtkabjbkefoipnaaDoorGPMx0
import Derived.Test.YtkabjbkefoipnaaDoorGOpen
import Derived.Test.YtkabjbkefoipnaaDoorGMd1
namespace Go.Proofs.YtkabjbkefoipnaaDoor.Md
open Go.RowKit Go.ChangeShapes Go.WideShapes Go.Deep Go.Proofs.YtkabjbkefoipnaaDoorW.PrintWords Go.Proofs.YtkabjbkefoipnaaDoor.PM Go.Proofs.YtkabjbkefoipnaaDoor.Open
set_option linter.unusedVariables false
abbrev KnWf (x : Kn) : Prop := (Lit.int .i64 x.f0).wf = true ∧ True ∧ (x.f2.length ≤ maxLen ∧ ∀ z, z ∈ x.f2 → (Lit.int .u8 z).wf = true)
theorem kns_opens : Opens Tryd.prog 25 kK KnWf :=
  opens_iso (opens_struct Tryd.underlying25
    (opensF_cons (opens_int Tryd.underlying3) (by kernel_rfl) rfl (opensF_cons (opens_bool Tryd.underlying4) (by kernel_rfl) rfl
      (opensF_one (opens_slice Tryd.underlying23 (opens_int Tryd.underlying5) (by kernel_rfl)) (by kernel_rfl) rfl))) (by kernel_rfl))
    (fun x : Kn => (x.f0, x.f1, x.f2)) (fun p => ⟨p.1, p.2.1, p.2.2⟩) (fun _ => rfl)
abbrev ScWf (x : Sc) : Prop := x.f0.size ≤ maxLen ∧ (x.f1.length ≤ maxLen ∧ ∀ z, z ∈ x.f1 → KnWf z)
theorem scs_opens : Opens Tryd.prog 39 kS ScWf :=
  opens_iso (opens_struct Tryd.underlying39
    (opensF_cons (opens_string Tryd.underlying9) (by kernel_rfl) rfl
      (opensF_one (opens_slice Tryd.underlying37 kns_opens (by kernel_rfl)) (by kernel_rfl) rfl)) (by kernel_rfl))
    (fun x : Sc => (x.f0, x.f1)) (fun p => ⟨p.1, p.2⟩) (fun _ => rfl)
theorem kn_arg {H : Type} {enc : TypeId × Value → H} {w : World} {base : Nat} {spare : Nat → Bool} {held : Bool} {v : Value} {x : DataW H} {ps : List MemPlace} (h : DataW.Trod enc Tryd.prog w base spare held 25 v x ps) :
    ∃ (num : Int) (gone : Bool) (A : Option Addr) (n c : Nat) (t : List Int), v = .agg #[.int .i64 num, .bool gone, .slice A n c] ∧ (t.length = n ∧ Bs.C w A n t ∧ n ≤ c ∧ (Lit.int .i64 num).wf = true ∧ ∀ z, z ∈ t → (Lit.int .u8 z).wf = true) := by
  obtain ⟨⟨num, gone, t⟩, hk, h1, _, h4, h5⟩ := arg_agg (opens_struct Tryd.underlying25
    (opensF_cons (opens_int Tryd.underlying3) (by kernel_rfl) rfl (opensF_cons (opens_bool Tryd.underlying4) (by kernel_rfl) rfl
      (opensF_one (opens_slice Tryd.underlying23 (opens_int Tryd.underlying5) (by kernel_rfl)) (by kernel_rfl) rfl))) (by kernel_rfl)) h
  obtain ⟨c0, c1, e0, hc0, d0, d1, e1, hd0, A, c, he, hl, hC⟩ := hk
  simp only [Kd.int, Kd.bool, Kd.scalar] at hc0 hd0
  subst hc0 hd0 he e1
  refine ⟨num, gone, A, t.length, c, t, ?_, rfl, hC, hl, h1, h5⟩
  cases v with
  | agg cs =>
    have : cs.toList = _ := e0
    congr 1
    exact Array.toList_inj.1 this
  | _ => simp [Value.cells] at e0
end Go.Proofs.YtkabjbkefoipnaaDoor.Md
