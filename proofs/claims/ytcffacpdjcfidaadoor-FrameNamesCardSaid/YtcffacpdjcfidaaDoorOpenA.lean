/- An argument that is an array of whole numbers: its list. Over whatever program. -/
import Derived.Test.YtcffacpdjcfidaaDoorOpen
import Derived.WideKeyArr2
namespace Go.Proofs.YtcffacpdjcfidaaDoor.Open
open Go.RowKit Go.ChangeShapes Go.WideShapes Go.Deep Go.Proofs.YtcffacpdjcfidaaDoorW.PrintWords
set_option linter.unusedVariables false
set_option linter.unusedSimpArgs false

theorem mapM_all {α β : Type} (f : α → Option β) : ∀ (L : List α) (ys : List β), L.mapM f = some ys → ∀ i, i ∈ L → ∃ y, f i = some y
  | [], _, _, i, hi => by cases hi
  | a :: L, ys, h, i, hi => by
    rw [List.mapM_cons] at h
    simp only [bind, Option.bind_eq_some_iff, pure, Option.some.injEq] at h
    obtain ⟨y, hy, ys', hys, rfl⟩ := h
    rcases List.mem_cons.1 hi with rfl | hi
    · exact ⟨y, hy⟩
    · exact mapM_all f L ys' hys i hi
theorem okWide_arr {P : Program} {W : World} {k e : TypeId} {n : Nat} (hu : P.underlying k = some (.array n e)) (hs : P.cellsOf k = n) {r : Reach} {b0 : Nat} {v : Value} (h : Value.okWide P W r b0 k v) : ∃ xs : Array Value, v = .agg xs ∧ xs.size = n := by
  simp only [Value.okWide, hu] at h
  obtain ⟨cs, h1, h2, _⟩ := h
  exact ⟨cs, h1, by rw [h2, hs]⟩
theorem arg_arr {P : Program} {T e : TypeId} {n : Nat} {k : IntKind} (hu : P.underlying T = some (.array n e)) (hs : P.cellsOf T = n) (hc : P.cellsOf e = 1) (he : P.underlying e = some (.int k))
    {H : Type} {enc : TypeId × Value → H} {w : World} {base : Nat} {spare : Nat → Bool} {held : Bool} {xs : Array Value} (hn : xs.size = n) {x : DataW H} {ps : List MemPlace} (h : DataW.Trod enc P w base spare held T (.agg xs) x ps) :
    ∃ l : List Int, xs = (l.map (Value.int k)).toArray ∧ l.length = n ∧ ∀ z, z ∈ l → (Lit.int k z).wf = true := by
  obtain ⟨fuel, hf⟩ := h
  cases fuel with
  | zero => simp [DataW.trod] at hf
  | succ m =>
    rw [DataW.trod_step] at hf
    unfold DataW.trodStep at hf
    simp only [hu, Value.cells] at hf
    rw [if_pos (by rw [hs]; simpa using hn)] at hf
    simp only [Option.map_eq_some_iff] at hf
    obtain ⟨ys, hy, _⟩ := hf
    obtain ⟨l, hl, hp⟩ := list_choose (fun i (z : Int) => xs[i]? = some (.int k z) ∧ (Lit.int k z).wf = true) n (fun i hi => by
      obtain ⟨y, hyi⟩ := mapM_all _ _ _ hy i (List.mem_range.2 hi)
      obtain ⟨a, ea, _, wa⟩ := DataW.trod_int he hyi
      refine ⟨a, ?_, wa⟩
      rw [hc, Nat.mul_one] at ea
      have e1 := congrArg (fun l : List Value => l[0]?) ea
      simp only [List.getElem?_take, List.getElem?_drop] at e1
      simpa using e1)
    refine ⟨l, ?_, hl, fun z hz => ?_⟩
    · apply Array.ext_getElem?
      intro i
      by_cases hi : i < n
      · have h1 : l[i]? = some l[i] := List.getElem?_eq_getElem (hl ▸ hi)
        rw [(hp i _ h1).1]
        simp [h1]
      · rw [Array.getElem?_eq_none (by omega)]
        simp [List.getElem?_eq_none (show l.length ≤ i by omega)]
    · obtain ⟨i, hi⟩ := List.getElem?_of_mem hz
      exact (hp i z hi).2
end Go.Proofs.YtcffacpdjcfidaaDoor.Open
