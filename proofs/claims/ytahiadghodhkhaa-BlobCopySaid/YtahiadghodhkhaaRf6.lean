/- blob: the document's Do, as what the program's does; Copy. -/
import Derived.Test.YtahiadghodhkhaaRf5
import Derived.Shelf.SlMaps.Clone
namespace Go.Proofs.Ytahiadghodhkhaa.Bl
open Go.RowKit Go.Maps Go.Proofs.YtahiadghodhkhaaW.PrintWords Go.Proofs.YtahiadghodhkhaaW.PrintLast Go.Proofs.YtahiadghodhkhaaW.PrintMore Go.Proofs.Ytahiadghodhkhaa.PB
set_option linter.unusedVariables false
set_option linter.unusedSimpArgs false

theorem RDo_calls (S : List Nat) (x : Nat) (q : Int) (L : List Ent) (kind num : Int) (k : ByteArray) (A : Option Addr) (c : Nat) (t : List Int) (w : World) (h : Rf S w x q L) (hl : L.length ≤ 100000) (hsm : ∀ y ∈ L, y.1.size ≤ 64 ∧ y.2.2.length ≤ 65536) (hc : t.length ≤ c) (hr : Bs.C w A t.length t)
    {L' : List Ent} {nm code : Int} {bd : List Int} {ns : List ByteArray} (hD : DoR q L kind num k t L' nm code bd ns) :
    Calls Try.prog 16 #[.pointer (some ⟨x, 0, none⟩), .agg #[.int .i64 kind, .int .i64 num, .string k, .slice A t.length c]] w fun e w' => ∃ vb vn, e = .returned (.agg #[.int .i64 nm, .int .i64 code, vb, vn]) ∧ Bs.R 5 w' w.heap.size (fun _ => True) vb bd ∧ Kd.string.R 9 w' w.heap.size (fun _ => True) vn ns ∧ Rf S w' x q L' ∧ w.grownBy w' (some x) := by
  rcases hD with ⟨hK, rfl, rfl, rfl, rfl, rfl⟩ | ⟨hK, rfl, hcs⟩
  · refine (RDo_foreign S x q L' kind num k A c t w h hl hK hc hr).mono ?_
    rintro e w' ⟨vb, vn, rfl, h1, h2, hb⟩
    exact ⟨vb, vn, rfl, h1, h2, h.kept hb, grown_of_below hb _⟩
  · obtain ⟨_, _, _, _, p5, p6, _⟩ := okA_parts hK
    rcases hcs with ⟨rfl, rfl, rfl, hp⟩ | ⟨rfl, rfl, rfl, rfl, rfl⟩ | ⟨rfl, rfl, rfl, rfl, rfl⟩ | ⟨rfl, rfl, rfl, rfl, rfl⟩
    · refine (RDo_put S x q L nm k A c t w h hl hK p6 p5 hsm hc hr).mono ?_
      rintro e w' ⟨vb, vn, rfl, h1, h2, h3, h4⟩
      rcases hp with ⟨hq, rfl, rfl⟩ | ⟨hq, rfl, A9, c9, rfl⟩
      · rw [if_pos hq] at h3 ⊢
        exact ⟨vb, vn, rfl, h1, h2, h3, h4⟩
      · rw [if_neg (by omega)] at h3 ⊢
        exact ⟨vb, vn, rfl, h1, h2, h3.same (by unfold putE; rw [ins_ref, ins_ref]), h4⟩
    · refine (RDo_get S x q L' nm k A c t w h hl hK p6 p5 (fun y hy => (hsm y hy).2) hc hr).mono ?_
      rintro e w' ⟨vb, vn, rfl, h1, h2, hb⟩
      exact ⟨vb, vn, rfl, h1, h2, h.kept hb, grown_of_below hb _⟩
    · refine (RDo_list S x q L' nm k A c t w h hl hK hc hr).mono ?_
      rintro e w' ⟨vb, vn, rfl, h1, h2, hb⟩
      exact ⟨vb, vn, rfl, h1, h2, h.kept hb, grown_of_below hb _⟩
    · refine (RDo_drop S x q L nm k A c t w h hl hK hc hr).mono ?_
      rintro e w' ⟨vb, vn, rfl, h1, h2, h3, h4⟩
      exact ⟨vb, vn, rfl, h1, h2, h3, h4⟩

def clone_ren : Go.Shelf.Ren := ⟨fun | 5 => 37 | 7 => 57 | n => n, fun | 4 => 4 | 20 => 20 | 23 => 58 | 25 => 9 | 3 => 27 | n => n, fun | n => n⟩
theorem clone_lays : SlLaysW.n5 Try.prog clone_ren := {
  mixed := by kernel_rfl
  f5 := ⟨Try.f37.name, by decide, Try.func37.trans (congrArg some (by kernel_rfl))⟩
  f7 := Try.func57.trans (congrArg some (by kernel_rfl))
  t4 := Try.underlying4
  a4 := Try.isAgg4
  z4 := Try.sizeOf4
  v4 := Try.zeroValue4
  t20 := Try.underlying20
  a20 := Try.isAgg20
  z20 := Try.sizeOf20
  v20 := Try.zeroValue20
  t23 := Try.underlying58
  a23 := Try.isAgg58
  z23 := Try.sizeOf58
  v23 := Try.zeroValue58 }

set_option maxRecDepth 20000 in
set_option maxHeartbeats 4000000 in
theorem Copy_calls (g b : Nat) (q : Int) (L : List Ent) (w : World) (h : Bl w g b q L) :
    Calls Try.prog 17 #[.pointer (some ⟨g, 0, none⟩)] w fun e w' => ∃ g2 b2, e = .returned (.pointer (some ⟨g2, 0, none⟩)) ∧ w.heap.size ≤ g2 ∧ w.heap.size ≤ b2 ∧ Bl w' g2 b2 q L ∧ Below w.heap.size w w' := by
  have HH := Aside0.mk h
  clear h
  go_enter Try.func17, Try.ntmps17
  go_wp2_with fail
  refine wp_region_noPanic ?_
  refine wp_region_held_drew (S := fun W => Below w.heap.size w W) (by kernel_rfl) (below_drew (Below.refl _ _)) (fun hHeld => ?_)
  refine wpAnyH_take (i := 0) (oi := { dst := some 5, op := _, type := _, pos := _, after := _, guard := _ }) (v := ?_) rfl (by kernel_rfl) (by kernel_rfl) (by kernel_rfl) (fun _ _ _ h => h) (Or.inl ⟨by rfl, ?_⟩) hHeld ?_
  rotate_left
  · (intro w hSw; go_simp) <;> (with_reducible rfl)
  try simp only [Act.put, List.setIfInBounds_toArray, List.set_cons_zero, List.set_cons_succ]
  refine wpAnyH_take (i := 1) (oi := { dst := some 6, op := _, type := _, pos := _, after := _, guard := _ }) (v := ?_) rfl (by kernel_rfl) (by kernel_rfl) (by kernel_rfl) (fun _ _ _ h => h) (Or.inl ⟨by rfl, ?_⟩) hHeld ?_
  rotate_left
  · (intro w hSw; go_simp) <;> (with_reducible rfl)
  try simp only [Act.put, List.setIfInBounds_toArray, List.set_cons_zero, List.set_cons_succ]
  refine wpAnyH_take (i := 2) (oi := { dst := some 7, op := _, type := _, pos := _, after := _, guard := _ }) (v := ?_) rfl (by kernel_rfl) (by kernel_rfl) (by kernel_rfl) (fun _ _ _ h => h) (Or.inl ⟨by rfl, ?_⟩) hHeld ?_
  rotate_left
  · (intro w hSw; go_simp) <;> (with_reducible rfl)
  try simp only [Act.put, List.setIfInBounds_toArray, List.set_cons_zero, List.set_cons_succ]
  refine wpAnyH_take (i := 4) (oi := { dst := some 9, op := _, type := _, pos := _, after := _, guard := _ }) (v := ?_) rfl (by kernel_rfl) (by kernel_rfl) (by kernel_rfl) (fun _ _ _ h => h) (Or.inl ⟨by rfl, ?_⟩) hHeld ?_
  rotate_left
  · (intro w hSw; go_simp) <;> (with_reducible rfl)
  try simp only [Act.put, List.setIfInBounds_toArray, List.set_cons_zero, List.set_cons_succ]
  refine wpAnyH_take (i := 5) (oi := { dst := some 10, op := _, type := _, pos := _, after := _, guard := _ }) (v := ?_) rfl (by kernel_rfl) (by kernel_rfl) (by kernel_rfl) (fun _ _ _ h => h) (Or.inl ⟨by rfl, ?_⟩) hHeld ?_
  rotate_left
  · (intro w hSw; go_simp) <;> (with_reducible rfl)
  try simp only [Act.put, List.setIfInBounds_toArray, List.set_cons_zero, List.set_cons_succ]
  refine wpAnyH_take (i := 6) (oi := { dst := some 11, op := _, type := _, pos := _, after := _, guard := _ }) (v := ?_) rfl (by kernel_rfl) (by kernel_rfl) (by kernel_rfl) (fun _ _ _ h => h) (Or.inl ⟨by rfl, ?_⟩) hHeld ?_
  rotate_left
  · (intro w hSw; go_simp) <;> (with_reducible rfl)
  try simp only [Act.put, List.setIfInBounds_toArray, List.set_cons_zero, List.set_cons_succ]
  refine wpAnyH_take (i := 3) (oi := { dst := some 8, op := _, type := _, pos := _, after := _, guard := _ }) (v := ?_) rfl (by kernel_rfl) (by kernel_rfl) (by kernel_rfl) (fun _ _ _ h => h) (Or.inl ⟨by rfl, ?_⟩) hHeld ?_
  rotate_left
  · (intro w hSw; have hh : w.cell? ⟨g, 0, none⟩ = some (.int .i64 q) := (blk_cell (Bl.kept HH.out hSw).blk 0).trans rfl; go_simp) <;> (with_reducible rfl)
  try simp only [Act.put, List.setIfInBounds_toArray, List.set_cons_zero, List.set_cons_succ]
  refine wpAnyH_take (i := 7) (oi := { dst := some 12, op := _, type := _, pos := _, after := _, guard := _ }) (v := ?_) rfl (by kernel_rfl) (by kernel_rfl) (by kernel_rfl) (fun _ _ _ h => h) (Or.inl ⟨by rfl, ?_⟩) hHeld ?_
  rotate_left
  · (intro w hSw; have hh : w.cell? ⟨g, 1, none⟩ = some (.map (some b)) := (blk_cell (Bl.kept HH.out hSw).blk 1).trans rfl; go_simp) <;> (with_reducible rfl)
  try simp only [Act.put, List.setIfInBounds_toArray, List.set_cons_zero, List.set_cons_succ]
  refine wpAnyH_ready (rs := [8]) (by kernel_rfl) (by simp) (AllReadyH.cons (o := { dst := some 13, op := _, type := _, pos := _, after := _, guard := _ }) rfl (fun K hK => ?_) AllReadyH.nil)
  go_simp
  refine (AnyW.maps_Clone_owns clone_lays 9 hdr b L.length (datB L) _ (Bl.kept HH.out (below_drew (Below.refl _ _))).map).mono ?_
  rintro e w4 ⟨rfl, hm4, hm4o, hb4⟩
  refine hK.out _ _ (hHeld.trans (hb4.mono hHeld.size)) (fun hHeld2 => ?_)
  clear hK K hHeld
  have hHeld := hHeld2
  clear hHeld2
  try simp only [Act.put, List.setIfInBounds_toArray, List.set_cons_zero, List.set_cons_succ]
  have HB4 := Aside0.mk hHeld
  have HM4 := Aside0.mk hm4
  clear hm4 hm4o hb4
  refine wpAnyH_take (i := 9) (oi := { dst := some 14, op := _, type := _, pos := _, after := _, guard := _ }) (v := ?_) rfl (by kernel_rfl) (by kernel_rfl) (by kernel_rfl) (fun _ _ _ h => h) (Or.inl ⟨by rfl, ?_⟩) hHeld ?_
  rotate_left
  · (intro w hSw; go_simp) <;> (with_reducible rfl)
  try simp only [Act.put, List.setIfInBounds_toArray, List.set_cons_zero, List.set_cons_succ]
  refine wpAnyH_ready (rs := [10]) (by kernel_rfl) (by simp) (AllReadyH.cons (o := { dst := some 15, op := _, type := _, pos := _, after := _, guard := _ }) rfl (fun K hK => ?_) AllReadyH.nil)
  go_simp
  refine hK.out _ _ (hHeld.trans ((below_alloc (Below.refl _ _) _).mono hHeld.size)) (fun hHeld2 => ?_)
  clear hK K hHeld
  have hHeld := hHeld2
  clear hHeld2
  try simp only [Act.put, List.setIfInBounds_toArray, List.set_cons_zero, List.set_cons_succ]
  refine wpAnyH_take (i := 11) (oi := { dst := some 2, op := _, type := _, pos := _, after := _, guard := _ }) (v := ?_) rfl (by kernel_rfl) (by kernel_rfl) (by kernel_rfl) (fun _ _ _ h => h) (Or.inl ⟨by rfl, ?_⟩) hHeld ?_
  rotate_left
  · (intro w hSw; go_simp) <;> (with_reducible rfl)
  try simp only [Act.put, List.setIfInBounds_toArray, List.set_cons_zero, List.set_cons_succ]
  refine wpAnyH_done (by kernel_rfl) ?_ _
  refine NoPanic.normal ?_
  have hb5 := below_alloc (Below.refl w4.heap.size w4) (.cells #[.int .i64 q, .map (some w.heap.size)] 60)
  have K5 := Aside0.mk (blk_new w4 (.cells #[.int .i64 q, .map (some w.heap.size)] 60))
  have HM5 := Aside0.mk (HM4.out.kept (row := none) ⟨hb5.os, hb5.tape, hb5.output, hb5.size, fun i hi _ => hb5.block i hi⟩ (by simp))
  have HB5 := Aside0.mk (HB4.out.trans (hb5.mono HB4.out.size))
  have hg5 := HB4.out.size
  have BL5 := Aside0.mk (Bl.kept HH.out HB5.out)
  clear hb5
  go_wp2_with fail
  go_ret
  exact ⟨_, _, rfl, hg5, Nat.le_refl _, ⟨K5.out, HM5.out, BL5.out.apart, BL5.out.ent, BL5.out.small⟩, HB5.out⟩
end Go.Proofs.Ytahiadghodhkhaa.Bl
