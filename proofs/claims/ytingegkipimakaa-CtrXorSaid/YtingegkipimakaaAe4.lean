/- Block: the walk. -/
import Derived.Test.YtingegkipimakaaAe3
import Derived.OpenShut
namespace Go.Proofs.Ytingegkipimakaa.Ae
open Go.RowKit Go.Proofs.YtingegkipimakaaW.PrintWords Go.Proofs.YtingegkipimakaaW.PrintLast Go.Proofs.YtingegkipimakaaW.PrintMore Go.Proofs.Ytingegkipimakaa.PA
set_option linter.unusedVariables false
set_option linter.unusedSimpArgs false

/-- All bytes. -/
def By (l : List Int) : Prop := ∀ i, 0 ≤ l.getD i 0 ∧ l.getD i 0 < 256
theorem By.set {l : List Int} (h : By l) (n : Nat) (v : Int) (h0 : 0 ≤ v) (h1 : v < 256) : By (l.set n v) := by
  intro i
  simp only [List.getD_eq_getElem?_getD, List.getElem?_set]
  by_cases hi : n = i
  · by_cases hn : n < l.length
    · simp [hi, hi ▸ hn]; omega
    · simp [hi]; rw [if_neg (by omega)]; simp
  · rw [if_neg hi]
    exact h i
theorem bits_by (op : BinOp) (x y : Int) : 0 ≤ Go.bits op .u8 x y ∧ Go.bits op .u8 x y < 256 := by
  have := bounds_u8 (wf_bits op .u8 x y)
  omega
theorem By.zeros (n : Nat) : By (List.replicate n 0) := by
  intro i
  simp only [List.getD_eq_getElem?_getD, List.getElem?_replicate]
  split <;> simp
theorem By.ofMem {l : List Int} (h : ∀ z ∈ l, (Lit.int .u8 z).wf = true) : By l := by
  intro i
  have := range_u8 h i
  simp only [List.getD_eq_getElem?_getD]
  omega
theorem By.mem {l : List Int} (h : By l) : ∀ z ∈ l, (Lit.int .u8 z).wf = true := by
  intro z hz
  obtain ⟨i, hi, rfl⟩ := List.mem_iff_getElem.1 hz
  have := h i
  simp [List.getD_eq_getElem?_getD, hi] at this
  simp [Lit.wf, IntKind.min, IntKind.max, IntKind.signed, IntKind.bits]
  omega
theorem addL_by (cs : List Int) (r : Nat) {x : List Int} (h : By x) (n : Nat) : By (addL cs r x n) := by
  induction n with
  | zero => exact h
  | succ n ih => exact ih.set _ _ (bits_by _ _ _).1 (bits_by _ _ _).2
theorem rowsL_by {cs : List Int} (h : By cs) (x : List Int) (n : Nat) : By (rowsL cs x n) := by
  induction n with
  | zero => exact By.zeros 16
  | succ n ih => exact ih.set _ _ (h _).1 (h _).2
theorem mixIn_by (all first : Int) (c : Nat) {s : List Int} (h : By s) (k : Nat) : By (mixIn all first c s k) := by
  induction k with
  | zero => exact h
  | succ n ih => exact ih.set _ _ (bits_by _ _ _).1 (bits_by _ _ _).2
theorem mixL_by {x : List Int} (h : By x) (j : Nat) : By (mixL x j) := by
  induction j with
  | zero => exact h
  | succ n ih => exact mixIn_by _ _ _ ih _

def encL (cs x : List Int) (n : Nat) : List Int := match n with
  | 0 => addL cs 0 x 16
  | n + 1 => addL cs (n + 1) (mixL (rowsL cs (encL cs x n) 16) 4) 16
theorem encL_length (cs : List Int) {x : List Int} (hx : x.length = 16) (n : Nat) : (encL cs x n).length = 16 := by
  cases n with
  | zero => rw [encL, addL_length, hx]
  | succ n => rw [encL, addL_length, mixL_length, rowsL_length]
theorem encL_by {cs x : List Int} (hc : By cs) (h : By x) (n : Nat) : By (encL cs x n) := by
  cases n with
  | zero => exact addL_by _ _ h _
  | succ n => exact addL_by _ _ (mixL_by (rowsL_by hc _ _) _) _
def blockL (cs x : List Int) : List Int := addL cs 14 (rowsL cs (encL cs x 13) 16) 16
theorem blockL_length (cs x : List Int) : (blockL cs x).length = 16 := by rw [blockL, addL_length, rowsL_length]
theorem blockL_by {cs : List Int} (hc : By cs) (x : List Int) : By (blockL cs x) := addL_by _ _ (rowsL_by hc _ _) _

/-- Where Block stands between its steps: x's copy holds l. -/
structure St (w W : World) (g : Nat) (cs l : List Int) : Prop where
  below : Below w.heap.size w W
  x : Bk W w.heap.size 24 l
  z : Bk W (w.heap.size + 1) 24 (List.replicate 16 0)
  box : Bk W g 51 cs
  lt : g < w.heap.size
theorem St.call {w W W1 : World} {g : Nat} {cs l : List Int} (h : St w W g cs l) (hb : Below W.heap.size W W1) : St w W1 g cs l :=
  ⟨h.below.trans (hb.mono h.below.size), h.x.below hb h.x.lt, h.z.below hb h.z.lt, h.box.below hb h.box.lt, h.lt⟩
theorem St.store {w W : World} {g : Nat} {cs l : List Int} (h : St w W g cs l) (l' : List Int) : St w (W.setRow w.heap.size (u8s l')) g cs l' :=
  ⟨below_setRow h.below (Nat.le_refl _) _, h.x.setRow _, h.z.rowOther _ _ (by omega), h.box.rowOther _ _ (by have := h.lt; omega), h.lt⟩

set_option maxHeartbeats 1000000 in
theorem block_calls (w : World) (g : Nat) (cs x : List Int) (hg : Bk w g 51 cs) (hcs : cs.length = 496) (hcb : By cs) (hx : x.length = 16) (hxb : By x) :
    Calls Try.prog 13 #[.pointer (some ⟨g, 0, none⟩), .agg (u8s x)] w fun e w' => e = .returned (.agg (u8s (blockL cs x))) ∧ Below w.heap.size w w' := by
  have HCS := Aside0.mk hcs
  have HXL := Aside0.mk hx
  have HE := Aside0.mk (fun n => encL_length cs hx n)
  have HEB := Aside0.mk (fun n => encL_by hcb hxb n)
  have S0 := Aside0.mk (show St w ((w.alloc (Obj.cells (u8s x) 24)).alloc (Obj.cells (u8s (List.replicate 16 0)) 24)) g cs x from
    ⟨((Below.refl _ _).alloc (Nat.le_refl _) _).alloc (by simp) _, (Bk.new _ _ _).alloc _, by unfold Bk; exact heap_alloc2_new _ _ _, (hg.alloc _).alloc _, hg.lt⟩)
  clear hg hcs hx
  go_enter Try.func13, Try.ntmps13
  go_wp2_with (first | ((with_reducible refine load_bk (o := { dst := some _, op := .load 24 (.tmp 3), type := _, pos := _, after := _, guard := _ }) 24 (.tmp 3) rfl rfl w.heap.size 24 x ?_ arr16 ?_ ?_ ?_); (rfl); (exact S0.out.x); (exact HXL.out)))
  refine (add_calls _ g cs x 0 S0.out.box HCS.out HXL.out (by omega)).mono ?_
  rintro e w1 ⟨rfl, hb1⟩
  have S1 := Aside0.mk (S0.out.call hb1)
  clear S0 hb1
  go_wp2_with (first | ((with_reducible refine store_bk (o := { dst := none, op := .store 24 (.tmp 3) (.tmp 11), type := _, pos := _, after := _, guard := _ }) 24 (.tmp 3) (.tmp 11) rfl rfl w.heap.size 24 x (encL cs x 0) ?_ ?_ arr16 ?_ ?_ ?_ ?_); (rfl); (rfl); (exact S1.out.x); (exact HXL.out); (exact (HE.out 0))))
  have S2 := S1.out.store (encL cs x 0)
  clear S1
  go_loopg [12] 13 (fun kq v12 w' => ∃ (n : Nat), v12 = .int .i64 (n : Int) ∧ Aside0 (n + kq = 13) ∧ Aside0 (St w w' g cs (encL cs x n)))
  case atStart => exact ⟨0, rfl, ⟨rfl⟩, ⟨S2⟩⟩
  case round =>
    clear S2
    obtain ⟨n, rfl, HK, HS⟩ := hrel
    have hk := HK.out
    cases gk with
    | zero =>
      obtain rfl : n = 13 := by omega
      clear hk HK
      go_wp2_with (first | ((with_reducible refine load_bk (o := { dst := some _, op := .load 24 (.tmp 3), type := _, pos := _, after := _, guard := _ }) 24 (.tmp 3) rfl rfl w.heap.size 24 (encL cs x 13) ?_ arr16 ?_ ?_ ?_); (rfl); (exact HS.out.x); (exact (HE.out 13))))
      refine (rows_calls _ g cs (encL cs x 13) HS.out.box HCS.out (HE.out 13) (HEB.out 13)).mono ?_
      rintro e w1 ⟨rfl, hb1⟩
      have S1 := Aside0.mk (HS.out.call hb1)
      clear HS hb1
      go_wp2_with fail
      refine (add_calls _ g cs (rowsL cs (encL cs x 13) 16) 14 S1.out.box HCS.out (rowsL_length _ _ _) (by omega)).mono ?_
      rintro e w2 ⟨rfl, hb1⟩
      have S2 := Aside0.mk (S1.out.call hb1)
      clear S1 hb1
      go_wp2_with (first | ((with_reducible refine store_bk (o := { dst := none, op := .store 24 (.tmp 4) (.tmp 28), type := _, pos := _, after := _, guard := _ }) 24 (.tmp 4) (.tmp 28) rfl rfl (w.heap.size + 1) 24 (List.replicate 16 0) (blockL cs x) ?_ ?_ arr16 ?_ ?_ ?_ ?_); (rfl); (rfl); (exact S2.out.z); (exact rfl); (exact (blockL_length _ _))))
      exact ret_bk 4 24 rfl (w.heap.size + 1) 24 _ rfl arr16 (S2.out.z.setRow _) (blockL_length _ _) rfl ⟨rfl, below_setRow S2.out.below (Nat.le_succ _) _⟩
    | succ k1 =>
      have hn : n < 13 := by omega
      clear hk
      have i1 : IntKind.i64.wrap ((n : Int) + 1) = (n : Int) + 1 := IntWalk.i64_in _ (by omega)
      go_wp2_with (first | ((with_reducible refine load_bk (o := { dst := some _, op := .load 24 (.tmp 3), type := _, pos := _, after := _, guard := _ }) 24 (.tmp 3) rfl rfl w.heap.size 24 (encL cs x n) ?_ arr16 ?_ ?_ ?_); (rfl); (exact HS.out.x); (exact (HE.out n))))
      refine (rows_calls _ g cs (encL cs x n) HS.out.box HCS.out (HE.out n) (HEB.out n)).mono ?_
      rintro e w1 ⟨rfl, hb1⟩
      have S1 := Aside0.mk (HS.out.call hb1)
      clear HS hb1
      go_wp2_with fail
      refine (mix_calls _ (rowsL cs (encL cs x n) 16) (rowsL_length _ _ _)).mono ?_
      rintro e w2 ⟨rfl, hb1⟩
      have S2 := Aside0.mk (S1.out.call hb1)
      clear S1 hb1
      go_wp2_with fail
      refine (add_calls _ g cs (mixL (rowsL cs (encL cs x n) 16) 4) (n + 1) S2.out.box HCS.out ((mixL_length _ _).trans (rowsL_length _ _ _)) (by clear i1; omega)).mono ?_
      rintro e w3 ⟨rfl, hb1⟩
      have S3 := Aside0.mk (S2.out.call hb1)
      clear S2 hb1 i1
      go_wp2_with (first | ((with_reducible refine store_bk (o := { dst := none, op := .store 24 (.tmp 3) (.tmp 22), type := _, pos := _, after := _, guard := _ }) 24 (.tmp 3) (.tmp 22) rfl rfl w.heap.size 24 (encL cs x n) (encL cs x (n + 1)) ?_ ?_ arr16 ?_ ?_ ?_ ?_); (rfl); (rfl); (exact S3.out.x); (exact (HE.out n)); (exact (HE.out (n + 1)))))
      go_roundg k1
      case measure => omega
      case rel => exact ⟨n + 1, by simp, ⟨by have := HK.out; omega⟩, ⟨S3.out.store _⟩⟩

end Go.Proofs.Ytingegkipimakaa.Ae
