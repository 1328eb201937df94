/- Blocks that are held: a list of them. -/
import Derived.Test.YtingegkipimakaaAe11
namespace Go.Proofs.Ytingegkipimakaa.Ae
open Go.RowKit Go.Proofs.YtingegkipimakaaW.PrintWords Go.Proofs.YtingegkipimakaaW.PrintLast Go.Proofs.YtingegkipimakaaW.PrintMore Go.Proofs.Ytingegkipimakaa.PA
set_option linter.unusedVariables false
set_option linter.unusedSimpArgs false

structure Hs (bs : List (Nat × TypeId × List Int)) (w W : World) : Prop where
  below : Below w.heap.size w W
  bk : ∀ p ∈ bs, Bk W p.1 p.2.1 p.2.2
theorem Hs.at {bs : List (Nat × TypeId × List Int)} {w W : World} (h : Hs bs w W) (g : Nat) (t : TypeId) (l : List Int) (hm : (g, t, l) ∈ bs) : Bk W g t l := h.bk _ hm
theorem Hs.call {bs : List (Nat × TypeId × List Int)} {w W W1 : World} (h : Hs bs w W) (hb : Below W.heap.size W W1) : Hs bs w W1 :=
  ⟨below_then hb h.below, fun p hp => (h.bk p hp).below hb (h.bk p hp).lt⟩
theorem Hs.drew {bs : List (Nat × TypeId × List Int)} {w W : World} (h : Hs bs w W) : Hs bs w W.drew := ⟨h.below.drew, h.bk⟩
theorem Hs.drawn {bs : List (Nat × TypeId × List Int)} {w W W1 : World} (h : Hs bs w W) (hd : Drawn0 W W1) : Hs bs w W1 := h.call (drawn_below hd)
theorem Hs.alloc {bs : List (Nat × TypeId × List Int)} {w W : World} (h : Hs bs w W) (o : Obj) : Hs bs w (W.alloc o) :=
  ⟨h.below.alloc h.below.size _, fun p hp => (h.bk p hp).alloc o⟩
theorem Hs.new {bs : List (Nat × TypeId × List Int)} {w W : World} (h : Hs bs w W) (t : TypeId) (l : List Int) : Hs ((W.heap.size, t, l) :: bs) w (W.alloc (.cells (u8s l) t)) :=
  ⟨(h.alloc _).below, fun p hp => by
    rcases List.mem_cons.1 hp with rfl | hp
    · exact Bk.new W t l
    · exact (h.bk p hp).alloc _⟩
theorem Hs.with {bs : List (Nat × TypeId × List Int)} {w W : World} (h : Hs bs w W) {g : Nat} {t : TypeId} {l : List Int} (hb : Bk W g t l) : Hs ((g, t, l) :: bs) w W :=
  ⟨h.below, fun p hp => by
    rcases List.mem_cons.1 hp with rfl | hp
    · exact hb
    · exact h.bk p hp⟩
theorem Hs.row {bs : List (Nat × TypeId × List Int)} {w W : World} {g : Nat} {t : TypeId} {l : List Int} (h : Hs ((g, t, l) :: bs) w W) (hg : w.heap.size ≤ g) (hn : ∀ p ∈ bs, p.1 ≠ g) (l' : List Int) : Hs ((g, t, l') :: bs) w (W.setRow g (u8s l')) :=
  ⟨below_setRow h.below hg _, fun p hp => by
    rcases List.mem_cons.1 hp with rfl | hp
    · exact (h.bk (g, t, l) List.mem_cons_self).setRow l'
    · exact (h.bk p (List.mem_cons_of_mem _ hp)).rowOther g _ (hn p hp)⟩
theorem Hs.lt {bs : List (Nat × TypeId × List Int)} {w W : World} (h : Hs bs w W) : ∀ p ∈ bs, p.1 ≠ W.heap.size := fun p hp => Nat.ne_of_lt (h.bk p hp).lt
/-- A new block, then its row. -/
theorem Hs.newRow {bs : List (Nat × TypeId × List Int)} {w W : World} (h : Hs bs w W) (t : TypeId) (z l : List Int) : Hs ((W.heap.size, t, l) :: bs) w ((W.alloc (.cells (u8s z) t)).setRow W.heap.size (u8s l)) :=
  (h.new t z).row h.below.size h.lt l
/-- A cell is written. -/
theorem Hs.setAt {bs : List (Nat × TypeId × List Int)} {w W : World} (h : Hs bs w W) (g j : Nat) (v : Int) (hg : w.heap.size ≤ g) : Hs (bs.map fun p => if p.1 = g then (p.1, p.2.1, p.2.2.set j v) else p) w (W.setCell ⟨g, j, none⟩ (.int .u8 v)) :=
  ⟨h.below.setCell hg _, fun q hq => by
    obtain ⟨p, hp, rfl⟩ := List.mem_map.1 hq
    by_cases e : p.1 = g
    · rw [if_pos e]
      have := (h.bk p hp).set j v
      rw [e] at this
      show Bk _ p.1 p.2.1 (p.2.2.set j v)
      rw [e]
      exact this
    · rw [if_neg e]
      exact (h.bk p hp).other _ _ e⟩
theorem Hs.of {bs bs' : List (Nat × TypeId × List Int)} {w W : World} (h : Hs bs w W) (e : bs = bs') : Hs bs' w W := e ▸ h
theorem Hs.start (w : World) : Hs [] w w := ⟨Below.refl _ _, fun p hp => by cases hp⟩

end Go.Proofs.Ytingegkipimakaa.Ae
