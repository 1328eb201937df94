import Derived.Test.YtahiadghodhkhaaGRf3
namespace Go.Proofs.Ytahiadghodhkhaa.Bl
open Go.RowKit Go.Maps Go.Proofs.YtahiadghodhkhaaW.PrintWords Go.Proofs.YtahiadghodhkhaaW.PrintLast Go.Proofs.YtahiadghodhkhaaW.PrintMore Go.Proofs.Ytahiadghodhkhaa.PB
set_option linter.unusedVariables false
set_option linter.unusedSimpArgs false
theorem bytesBefore_less : ∀ a b : List UInt8, bytesBefore a b = !(Op.bytesLess b a || b == a)
  | [], [] => rfl
  | [], b :: s => by simp [bytesBefore, Op.bytesLess]
  | a :: r, [] => by simp [bytesBefore, Op.bytesLess]
  | a :: r, b :: s => by
    have ih := bytesBefore_less r s
    unfold bytesBefore Op.bytesLess
    rw [ih]
    rcases Nat.lt_trichotomy a.toNat b.toNat with h | h | h
    · have h1 : a < b := h
      have h2 : ¬ b < a := fun h' => by have : b.toNat < a.toNat := h'; omega
      have h3 : ¬ b = a := fun e => by rw [e] at h; omega
      have h4 : ¬ a = b := fun e => h3 e.symm
      simp [h1, h2, h3, h4]
    · have h1 : a = b := UInt8.toNat_inj.1 h
      subst h1
      simp
    · have h1 : b < a := h
      have h2 : ¬ a < b := fun h' => by have : a.toNat < b.toNat := h'; omega
      have h3 : ¬ a = b := fun e => by rw [e] at h; omega
      simp [h1, h2, h3]
theorem before_ltS (x y : Ent) : (keyL x.1).before (keyL y.1) = ltS ⟨x.1, x.2.2⟩ ⟨y.1, y.2.2⟩ := by
  unfold ltS
  rw [ByteArray.toList_eq, ByteArray.toList_eq]
  exact bytesBefore_less _ _
theorem ins_ref (x : Ent) : ∀ L : List Ent, refL (insE x L) = insS ⟨x.1, x.2.2⟩ (refL L)
  | [] => rfl
  | y :: r => by
    have ih := ins_ref x r
    unfold insE
    show _ = insS ⟨x.1, x.2.2⟩ (⟨y.1, y.2.2⟩ :: refL r)
    unfold insS
    rw [before_ltS]
    split
    · rfl
    · show ⟨y.1, y.2.2⟩ :: refL (insE x r) = _
      rw [ih]
theorem Rf.rest {W : World} {r : Nat} {L : List Ent} {A : Option Addr} {c : Nat} {ok : Nat → Prop} (hb : W.heap[r]? = some (.cells #[.int .i64 0, .slice A (refL L).length c] 66 (0, 0))) (hc : (refL L).length ≤ c) (hF : Kd.F k69 W ok A (refL L).length (refL L)) (hok : ∀ k, ok k → k ≠ r) (hlt : r < W.heap.size) : Rf [r] W r 0 L :=
  ⟨⟨A, c, hb, hc, Kd.F_mono hF (fun k hk hm => hok k hk (by simpa using hm))⟩, by simp, fun s hs => by
    have e : s = r := by simpa using hs
    omega⟩
theorem Rf.same {S : List Nat} {w : World} {x : Nat} {q : Int} {L M : List Ent} (h : Rf S w x q L) (e : refL L = refL M) : Rf S w x q M := by
  obtain ⟨A, c, h1, h2, h3⟩ := h.ex
  rw [e] at h1 h2 h3
  exact ⟨⟨A, c, h1, h2, h3⟩, h.mem, h.lt⟩
set_option maxRecDepth 20000 in
set_option maxHeartbeats 4000000 in
theorem RDo_put (S : List Nat) (x : Nat) (q : Int) (L : List Ent) (num : Int) (k : ByteArray) (A : Option Addr) (c : Nat) (t : List Int) (w : World) (h : Rf S w x q L) (hl : L.length ≤ 100000) (hK : Sb.okA 1 num k.size t.length = true) (hk : k.size ≤ 64) (ht : t.length ≤ 60000) (hsm : ∀ y ∈ L, y.1.size ≤ 64 ∧ y.2.2.length ≤ 65536) (hc : t.length ≤ c) (hr : Bs.C w A t.length t) :
    Calls Try.prog 16 #[.pointer (some ⟨x, 0, none⟩), .agg #[.int .i64 1, .int .i64 num, .string k, .slice A t.length c]] w fun e w' => ∃ vb vn, e = .returned (.agg #[.int .i64 num, .int .i64 (if q < sumE (offE k L) + k.size + t.length then 2 else 0), vb, vn]) ∧ Bs.R 5 w' w.heap.size (fun _ => True) vb [] ∧ Kd.string.R 9 w' w.heap.size (fun _ => True) vn [] ∧ Rf S w' x q (if q < sumE (offE k L) + k.size + t.length then L else putE k (.slice none 0 0) t L) ∧ w.grownBy w' (some x) := by
  have HR := Aside0.mk hr
  have HH := Aside0.mk h
  have B1 := Aside0.mk (below_alloc (below_alloc (Below.refl w.heap.size w) (.cells #[.int .i64 1, .int .i64 num, .string k, .slice A t.length c] 29)) (.cells #[.int .i64 0, .int .i64 0, .slice none 0 0, .slice none 0 0] 32))
  clear hr h
  go_enter Try.func16, Try.ntmps16
  go_wp2_with fail
  refine (scriniumref16_RightAsk.calls 1 num k A c t _ _ (Kd.C_below HR.out B1.out) hc (Sb.refRight_is 1 num k t)).mono ?_
  rintro e w1 ⟨rfl, hb1⟩
  have B2 := Aside0.mk (B1.out.trans (hb1.mono B1.out.size))
  have KA := Aside0.mk (blk_below (blk_alloc (blk_new w (.cells #[.int .i64 1, .int .i64 num, .string k, .slice A t.length c] 29)) (.cells #[.int .i64 0, .int .i64 0, .slice none 0 0, .slice none 0 0] 32)) hb1)
  have KR := Aside0.mk (show w1.heap[w.heap.size + 1]? = some (.cells #[.int .i64 0, .int .i64 0, .slice none 0 0, .slice none 0 0] 32 (0, 0)) from by have h := blk_below (blk_new (w.alloc (.cells #[.int .i64 1, .int .i64 num, .string k, .slice A t.length c] 29)) (.cells #[.int .i64 0, .int .i64 0, .slice none 0 0, .slice none 0 0] 32)) hb1; simpa using h)
  clear hb1
  rw [hK]
  have hlt : w.heap.size + 1 < w1.heap.size := blk_lt KR.out
  have HA := KA.out
  have a0 : (w1).cell? ⟨w.heap.size, 0, none⟩ = some (.int .i64 1) := (blk_cell (HA) 0).trans rfl
  have az0 := blk_frozen (HA) 0
  have a1 : (w1).cell? ⟨w.heap.size, 1, none⟩ = some (.int .i64 num) := (blk_cell (HA) 1).trans rfl
  have az1 := blk_frozen (HA) 1
  have a2 : (w1).cell? ⟨w.heap.size, 2, none⟩ = some (.string k) := (blk_cell (HA) 2).trans rfl
  have az2 := blk_frozen (HA) 2
  have a3 : (w1).cell? ⟨w.heap.size, 3, none⟩ = some (.slice A t.length c) := (blk_cell (HA) 3).trans rfl
  have az3 := blk_frozen (HA) 3
  clear HA
  have n1 : w1.heap.size ≠ w.heap.size := by omega
  have n2 : w.heap.size ≠ w1.heap.size := by omega
  have n3 : w1.heap.size ≠ w.heap.size + 1 := by omega
  have n4 : w.heap.size + 1 ≠ w1.heap.size := by omega
  have n5 : w.heap.size < w1.heap.size := by omega
  go_wp2_with fail
  have hDS := DS.start B2.out KA.out KR.out hlt ⟨blk_new w1 (.cells #[.int .i64 num, .int .i64 0, .slice none 0 0, .slice none 0 0] 32), below_alloc (Below.refl _ _) _⟩
  generalize w1.alloc (.cells #[.int .i64 num, .int .i64 0, .slice none 0 0, .slice none 0 0] 32) = W2 at hDS ⊢
  have DS2 := Aside0.mk hDS
  clear hDS KA KR B2 B1 a0 az0 a1 az1 a2 az2 a3 az3
  refine (RHas_calls S x q L k _ (Rf.kept HH.out DS2.out.below) (by omega)).mono ?_
  rintro e w3 ⟨v, rfl, ⟨A1, c1, rfl, hc1, hF1⟩, hb3⟩
  have DS3 := Aside0.mk (DS2.out.kept hb3)
  have RF3 := Aside0.mk (Rf.kept HH.out DS3.out.below)
  have HF1 := Aside0.mk hF1
  have HL1 := Aside0.mk hc1
  clear hb3 hF1 hc1
  generalize findE k L = fd at HF1 HL1 ⊢
  clear HF1 HL1
  have a0 : (w3).cell? ⟨w.heap.size, 0, none⟩ = some (.int .i64 1) := (blk_cell (DS3.out.ask) 0).trans rfl
  have az0 := blk_frozen (DS3.out.ask) 0
  have a1 : (w3).cell? ⟨w.heap.size, 1, none⟩ = some (.int .i64 num) := (blk_cell (DS3.out.ask) 1).trans rfl
  have az1 := blk_frozen (DS3.out.ask) 1
  have a2 : (w3).cell? ⟨w.heap.size, 2, none⟩ = some (.string k) := (blk_cell (DS3.out.ask) 2).trans rfl
  have az2 := blk_frozen (DS3.out.ask) 2
  have a3 : (w3).cell? ⟨w.heap.size, 3, none⟩ = some (.slice A t.length c) := (blk_cell (DS3.out.ask) 3).trans rfl
  have az3 := blk_frozen (DS3.out.ask) 3
  have p0 : (w3).cell? ⟨w1.heap.size, 0, none⟩ = some (.int .i64 num) := (blk_cell (DS3.out.out) 0).trans rfl
  have pz0 := blk_frozen (DS3.out.out) 0
  have p1 : (w3).cell? ⟨w1.heap.size, 1, none⟩ = some (.int .i64 0) := (blk_cell (DS3.out.out) 1).trans rfl
  have pz1 := blk_frozen (DS3.out.out) 1
  have p2 : (w3).cell? ⟨w1.heap.size, 2, none⟩ = some (.slice none 0 0) := (blk_cell (DS3.out.out) 2).trans rfl
  have pz2 := blk_frozen (DS3.out.out) 2
  have p3 : (w3).cell? ⟨w1.heap.size, 3, none⟩ = some (.slice none 0 0) := (blk_cell (DS3.out.out) 3).trans rfl
  have pz3 := blk_frozen (DS3.out.out) 3
  have r0 : (w3).cell? ⟨w.heap.size + 1, 0, none⟩ = some (.int .i64 0) := (blk_cell (DS3.out.res) 0).trans rfl
  have rz0 := blk_frozen (DS3.out.res) 0
  have r1 : (w3).cell? ⟨w.heap.size + 1, 1, none⟩ = some (.int .i64 0) := (blk_cell (DS3.out.res) 1).trans rfl
  have rz1 := blk_frozen (DS3.out.res) 1
  have r2 : (w3).cell? ⟨w.heap.size + 1, 2, none⟩ = some (.slice none 0 0) := (blk_cell (DS3.out.res) 2).trans rfl
  have rz2 := blk_frozen (DS3.out.res) 2
  have r3 : (w3).cell? ⟨w.heap.size + 1, 3, none⟩ = some (.slice none 0 0) := (blk_cell (DS3.out.res) 3).trans rfl
  have rz3 := blk_frozen (DS3.out.res) 3
  obtain ⟨A', c', hx0, hc', hF'⟩ := HH.out.ex
  have hx' := blk_below hx0 DS3.out.below
  have HX' := Aside0.mk hx'
  have HC' := Aside0.mk hc'
  have HF' := Aside0.mk (Kd.F_below (Kd.F_bound hF') DS3.out.below)
  have hxlt := HH.out.xlt
  have hax : some w.heap.size ≠ some x := by intro e; injection e; omega
  clear hx' hc' hF' hx0
  go_wp2_with fail
  refine wp_region_noPanic ?_
  refine wp_region_held_drew (S := fun W => Below w3.heap.size w3 W) (by kernel_rfl) (below_drew (Below.refl _ _)) (fun hHeld => ?_)
  refine wpAnyH_take (i := 0) (oi := { dst := some 82, op := _, type := _, pos := _, after := _, guard := _ }) (v := ?_) rfl (by kernel_rfl) (by kernel_rfl) (by kernel_rfl) (fun _ _ _ h => h) (Or.inl ⟨by rfl, ?_⟩) hHeld ?_
  rotate_left
  · (intro w hSw; go_simp) <;> (with_reducible rfl)
  try simp only [Act.put, List.setIfInBounds_toArray, List.set_cons_zero, List.set_cons_succ]
  refine wpAnyH_take (i := 1) (oi := { dst := some 83, op := _, type := _, pos := _, after := _, guard := _ }) (v := ?_) rfl (by kernel_rfl) (by kernel_rfl) (by kernel_rfl) (fun _ _ _ h => h) (Or.inl ⟨by rfl, ?_⟩) hHeld ?_
  rotate_left
  · (intro w hSw; go_simp) <;> (with_reducible rfl)
  try simp only [Act.put, List.setIfInBounds_toArray, List.set_cons_zero, List.set_cons_succ]
  refine wpAnyH_take (i := 2) (oi := { dst := some 84, op := _, type := _, pos := _, after := _, guard := _ }) (v := ?_) rfl (by kernel_rfl) (by kernel_rfl) (by kernel_rfl) (fun _ _ _ h => h) (Or.inl ⟨by rfl, ?_⟩) hHeld ?_
  rotate_left
  · (intro w hSw; go_simp) <;> (with_reducible rfl)
  try simp only [Act.put, List.setIfInBounds_toArray, List.set_cons_zero, List.set_cons_succ]
  refine wpAnyH_take (i := 4) (oi := { dst := some 86, op := _, type := _, pos := _, after := _, guard := _ }) (v := ?_) rfl (by kernel_rfl) (by kernel_rfl) (by kernel_rfl) (fun _ _ _ h => h) (Or.inl ⟨by rfl, ?_⟩) hHeld ?_
  rotate_left
  · (intro w hSw; go_simp) <;> (with_reducible rfl)
  try simp only [Act.put, List.setIfInBounds_toArray, List.set_cons_zero, List.set_cons_succ]
  refine wpAnyH_take (i := 3) (oi := { dst := some 85, op := _, type := _, pos := _, after := _, guard := _ }) (v := ?_) rfl (by kernel_rfl) (by kernel_rfl) (by kernel_rfl) (fun _ _ _ h => h) (Or.inl ⟨by rfl, ?_⟩) hHeld ?_
  rotate_left
  · (intro w hSw; have hh : w.cell? ⟨x, 1, none⟩ = some (.slice A' (refL L).length c') := (blk_cell (blk_below HX'.out hSw) 1).trans rfl; go_simp) <;> (with_reducible rfl)
  try simp only [Act.put, List.setIfInBounds_toArray, List.set_cons_zero, List.set_cons_succ]
  refine wpAnyH_take (i := 5) (oi := { dst := some 87, op := _, type := _, pos := _, after := _, guard := _ }) (v := ?_) rfl (by kernel_rfl) (by kernel_rfl) (by kernel_rfl) (fun _ _ _ h => h) (Or.inl ⟨by rfl, ?_⟩) hHeld ?_
  rotate_left
  · (intro w hSw; have hh : w.cell? ⟨_, 2, none⟩ = some (.string k) := (blk_cell (blk_below DS3.out.ask hSw) 2).trans rfl; go_simp) <;> (with_reducible rfl)
  try simp only [Act.put, List.setIfInBounds_toArray, List.set_cons_zero, List.set_cons_succ]
  refine wpAnyH_ready (rs := [6]) (by kernel_rfl) (by simp) (AllReadyH.cons (o := { dst := some 88, op := _, type := _, pos := _, after := _, guard := _ }) rfl (fun K hK => ?_) AllReadyH.nil)
  go_simp
  refine (scriniumref19_without.calls (L.length + 1) (fun k => k ∉ S ∧ k < w.heap.size) A' c' (refL L) k _ _ (Kd.V_mk HC'.out (Kd.F_drew HF'.out)) (without_is L k hl)).mono ?_
  rintro e w4 ⟨v4, rfl, hN4, hb4⟩
  refine hK.out _ _ (hHeld.trans (hb4.mono hHeld.size)) (fun hHeld2 => ?_)
  clear hK K hHeld
  have hHeld := hHeld2
  clear hHeld2
  try simp only [Act.put, List.setIfInBounds_toArray, List.set_cons_zero, List.set_cons_succ]
  have HB4 := Aside0.mk hHeld
  obtain ⟨A5, c5, rfl, hc5, _⟩ := Kd.N_reads hN4
  have HF5 := Aside0.mk (Kd.N_F hN4)
  have HC5 := Aside0.mk hc5
  clear hN4 hb4 hc5
  refine wpAnyH_take (i := 7) (oi := { dst := some 89, op := _, type := _, pos := _, after := _, guard := _ }) (v := ?_) rfl (by kernel_rfl) (by kernel_rfl) (by kernel_rfl) (fun _ _ _ h => h) (Or.inl ⟨by rfl, ?_⟩) hHeld ?_
  rotate_left
  · (intro w hSw; go_simp) <;> (with_reducible rfl)
  try simp only [Act.put, List.setIfInBounds_toArray, List.set_cons_zero, List.set_cons_succ]
  refine wpAnyH_ready (rs := [8]) (by kernel_rfl) (by simp) (AllReadyH.cons (o := { dst := some 90, op := _, type := _, pos := _, after := _, guard := _ }) rfl (fun K hK => ?_) AllReadyH.nil)
  go_simp
  refine hK.out _ _ (hHeld.trans ((below_alloc (Below.refl _ _) _).mono hHeld.size)) (fun hHeld2 => ?_)
  clear hK K hHeld
  have hHeld := hHeld2
  clear hHeld2
  try simp only [Act.put, List.setIfInBounds_toArray, List.set_cons_zero, List.set_cons_succ]
  refine wpAnyH_take (i := 9) (oi := { dst := some 9, op := _, type := _, pos := _, after := _, guard := _ }) (v := ?_) rfl (by kernel_rfl) (by kernel_rfl) (by kernel_rfl) (fun _ _ _ h => h) (Or.inl ⟨by rfl, ?_⟩) hHeld ?_
  rotate_left
  · (intro w hSw; go_simp) <;> (with_reducible rfl)
  try simp only [Act.put, List.setIfInBounds_toArray, List.set_cons_zero, List.set_cons_succ]
  refine wpAnyH_done (by kernel_rfl) ?_ _
  refine NoPanic.normal ?_
  have hFb := Kd.F_below (Kd.F_bound HF5.out) (below_alloc (Below.refl w4.heap.size w4) (.cells #[.int .i64 0, .slice A5 (refL (offE k L)).length c5] 66))
  have K5 := blk_new w4 (.cells #[.int .i64 0, .slice A5 (refL (offE k L)).length c5] 66)
  have HB5 := Aside0.mk (HB4.out.trans ((below_alloc (Below.refl w4.heap.size w4) (.cells #[.int .i64 0, .slice A5 (refL (offE k L)).length c5] 66)).mono HB4.out.size))
  have hs5 : w4.heap.size < (w4.alloc (.cells #[.int .i64 0, .slice A5 (refL (offE k L)).length c5] 66)).heap.size := blk_lt K5
  generalize hr : w4.heap.size = r at hFb K5 HB5 hs5 ⊢
  have hr3 : w3.heap.size ≤ r := by rw [← hr]; exact HB4.out.size
  generalize w4.alloc (.cells #[.int .i64 0, .slice A5 (refL (offE k L)).length c5] 66) = W5 at hFb K5 HB5 hs5 ⊢
  clear hr HB4 HF5
  have KR5 := Aside0.mk K5
  have HF5 := Aside0.mk hFb
  have RR5 := Aside0.mk (Rf.rest K5 HC5.out hFb (fun k hk => by have := hk.2; omega) hs5)
  have HF6 := Aside0.mk (Kd.F_mono (ok' := fun k => (k ∉ S ∧ k < w.heap.size) ∨ w3.heap.size ≤ k) hFb (fun _ hk => hk.1))
  have DS5 := Aside0.mk (DS3.out.kept HB5.out)
  have HX5 := Aside0.mk (blk_below HX'.out HB5.out)
  clear K5 hFb HF5
  clear a0 az0 a1 az1 a2 az2 a3 az3 p0 pz0 p1 pz1 p2 pz2 p3 pz3 r0 rz0 r1 rz1 r2 rz2 r3 rz3
  go_wp2_with fail
  have hlo : (offE k L).length ≤ 100000 := Nat.le_trans (List.length_filter_le _ _) hl
  have hso : sumE (offE k L) ≤ 100000000000 := by
    have := sum_le (offE k L) (fun y hy => hsm y ((mem_off k y L).1 hy).1)
    omega
  have z1 : IntKind.i64.wrap ((sumE (offE k L) : Int) + (k.size : Int)) = (sumE (offE k L) : Int) + (k.size : Int) := IntWalk.i64_in (n := _) (by omega)
  have z2 : IntKind.i64.wrap ((sumE (offE k L) : Int) + (k.size : Int) + (t.length : Int)) = (sumE (offE k L) : Int) + (k.size : Int) + (t.length : Int) := IntWalk.i64_in (n := _) (by omega)
  refine wp_region_noPanic ?_
  refine wp_region_held_drew (S := fun W => Below W5.heap.size W5 W) (by kernel_rfl) (below_drew (Below.refl _ _)) (fun hHeld => ?_)
  refine wpAnyH_take (i := 0) (oi := { dst := some 91, op := _, type := _, pos := _, after := _, guard := _ }) (v := ?_) rfl (by kernel_rfl) (by kernel_rfl) (by kernel_rfl) (fun _ _ _ h => h) (Or.inl ⟨by rfl, ?_⟩) hHeld ?_
  rotate_left
  · (intro w hSw; go_simp) <;> (with_reducible rfl)
  try simp only [Act.put, List.setIfInBounds_toArray, List.set_cons_zero, List.set_cons_succ]
  refine wpAnyH_take (i := 2) (oi := { dst := some 93, op := _, type := _, pos := _, after := _, guard := _ }) (v := ?_) rfl (by kernel_rfl) (by kernel_rfl) (by kernel_rfl) (fun _ _ _ h => h) (Or.inl ⟨by rfl, ?_⟩) hHeld ?_
  rotate_left
  · (intro w hSw; go_simp) <;> (with_reducible rfl)
  try simp only [Act.put, List.setIfInBounds_toArray, List.set_cons_zero, List.set_cons_succ]
  refine wpAnyH_take (i := 3) (oi := { dst := some 94, op := _, type := _, pos := _, after := _, guard := _ }) (v := ?_) rfl (by kernel_rfl) (by kernel_rfl) (by kernel_rfl) (fun _ _ _ h => h) (Or.inl ⟨by rfl, ?_⟩) hHeld ?_
  rotate_left
  · (intro w hSw; have hh : w.cell? ⟨_, 2, none⟩ = some (.string k) := (blk_cell (blk_below DS5.out.ask hSw) 2).trans rfl; go_simp) <;> (with_reducible rfl)
  try simp only [Act.put, List.setIfInBounds_toArray, List.set_cons_zero, List.set_cons_succ]
  refine wpAnyH_take (i := 4) (oi := { dst := some 95, op := _, type := _, pos := _, after := _, guard := _ }) (v := ?_) rfl (by kernel_rfl) (by kernel_rfl) (by kernel_rfl) (fun _ _ _ h => h) (Or.inl ⟨by rfl, ?_⟩) hHeld ?_
  rotate_left
  · (intro w hSw; go_simp) <;> (with_reducible rfl)
  try simp only [Act.put, List.setIfInBounds_toArray, List.set_cons_zero, List.set_cons_succ]
  refine wpAnyH_take (i := 6) (oi := { dst := some 97, op := _, type := _, pos := _, after := _, guard := _ }) (v := ?_) rfl (by kernel_rfl) (by kernel_rfl) (by kernel_rfl) (fun _ _ _ h => h) (Or.inl ⟨by rfl, ?_⟩) hHeld ?_
  rotate_left
  · (intro w hSw; go_simp) <;> (with_reducible rfl)
  try simp only [Act.put, List.setIfInBounds_toArray, List.set_cons_zero, List.set_cons_succ]
  refine wpAnyH_take (i := 7) (oi := { dst := some 98, op := _, type := _, pos := _, after := _, guard := _ }) (v := ?_) rfl (by kernel_rfl) (by kernel_rfl) (by kernel_rfl) (fun _ _ _ h => h) (Or.inl ⟨by rfl, ?_⟩) hHeld ?_
  rotate_left
  · (intro w hSw; have hh : w.cell? ⟨_, 3, none⟩ = some (.slice A t.length c) := (blk_cell (blk_below DS5.out.ask hSw) 3).trans rfl; go_simp) <;> (with_reducible rfl)
  try simp only [Act.put, List.setIfInBounds_toArray, List.set_cons_zero, List.set_cons_succ]
  refine wpAnyH_take (i := 8) (oi := { dst := some 99, op := _, type := _, pos := _, after := _, guard := _ }) (v := ?_) rfl (by kernel_rfl) (by kernel_rfl) (by kernel_rfl) (fun _ _ _ h => h) (Or.inl ⟨by rfl, ?_⟩) hHeld ?_
  rotate_left
  · (intro w hSw; go_simp) <;> (with_reducible rfl)
  try simp only [Act.put, List.setIfInBounds_toArray, List.set_cons_zero, List.set_cons_succ]
  refine wpAnyH_take (i := 10) (oi := { dst := some 101, op := _, type := _, pos := _, after := _, guard := _ }) (v := ?_) rfl (by kernel_rfl) (by kernel_rfl) (by kernel_rfl) (fun _ _ _ h => h) (Or.inl ⟨by rfl, ?_⟩) hHeld ?_
  rotate_left
  · (intro w hSw; go_simp) <;> (with_reducible rfl)
  try simp only [Act.put, List.setIfInBounds_toArray, List.set_cons_zero, List.set_cons_succ]
  refine wpAnyH_take (i := 11) (oi := { dst := some 102, op := _, type := _, pos := _, after := _, guard := _ }) (v := ?_) rfl (by kernel_rfl) (by kernel_rfl) (by kernel_rfl) (fun _ _ _ h => h) (Or.inl ⟨by rfl, ?_⟩) hHeld ?_
  rotate_left
  · (intro w hSw; go_simp) <;> (with_reducible rfl)
  try simp only [Act.put, List.setIfInBounds_toArray, List.set_cons_zero, List.set_cons_succ]
  refine wpAnyH_take (i := 12) (oi := { dst := some 103, op := _, type := _, pos := _, after := _, guard := _ }) (v := ?_) rfl (by kernel_rfl) (by kernel_rfl) (by kernel_rfl) (fun _ _ _ h => h) (Or.inl ⟨by rfl, ?_⟩) hHeld ?_
  rotate_left
  · (intro w hSw; go_simp) <;> (with_reducible rfl)
  try simp only [Act.put, List.setIfInBounds_toArray, List.set_cons_zero, List.set_cons_succ]
  refine wpAnyH_take (i := 13) (oi := { dst := some 104, op := _, type := _, pos := _, after := _, guard := _ }) (v := ?_) rfl (by kernel_rfl) (by kernel_rfl) (by kernel_rfl) (fun _ _ _ h => h) (Or.inl ⟨by rfl, ?_⟩) hHeld ?_
  rotate_left
  · (intro w hSw; have hh : w.cell? ⟨x, 0, none⟩ = some (.int .i64 q) := (blk_cell (blk_below HX5.out hSw) 0).trans rfl; go_simp) <;> (with_reducible rfl)
  try simp only [Act.put, List.setIfInBounds_toArray, List.set_cons_zero, List.set_cons_succ]
  refine wpAnyH_ready (rs := [1]) (by kernel_rfl) (by simp) (AllReadyH.cons (o := { dst := some 92, op := _, type := _, pos := _, after := _, guard := _ }) rfl (fun K hK => ?_) AllReadyH.nil)
  go_simp
  refine (RSize_calls [r] r 0 (offE k L) _ (Rf.kept RR5.out (below_drew (Below.refl _ _))) hlo hso).mono ?_
  rintro e w6 ⟨rfl, hb6⟩
  refine hK.out _ _ (hHeld.trans (hb6.mono hHeld.size)) (fun hHeld2 => ?_)
  clear hK K hHeld
  have hHeld := hHeld2
  clear hHeld2
  try simp only [Act.put, List.setIfInBounds_toArray, List.set_cons_zero, List.set_cons_succ]
  have HB6 := Aside0.mk hHeld
  clear hb6
  refine wpAnyH_take (i := 5) (oi := { dst := some 96, op := _, type := _, pos := _, after := _, guard := _ }) (v := ?_) rfl (by kernel_rfl) (by kernel_rfl) (by kernel_rfl) (fun _ _ _ h => h) (Or.inl ⟨by rfl, ?_⟩) hHeld ?_
  rotate_left
  · (intro w hSw; go_simp) <;> (with_reducible rfl)
  try simp only [Act.put, List.setIfInBounds_toArray, List.set_cons_zero, List.set_cons_succ]
  refine wpAnyH_take (i := 9) (oi := { dst := some 100, op := _, type := _, pos := _, after := _, guard := _ }) (v := ?_) rfl (by kernel_rfl) (by kernel_rfl) (by kernel_rfl) (fun _ _ _ h => h) (Or.inl ⟨by rfl, ?_⟩) hHeld ?_
  rotate_left
  · (intro w hSw; go_simp) <;> (with_reducible rfl)
  try simp only [Act.put, List.setIfInBounds_toArray, List.set_cons_zero, List.set_cons_succ]
  refine wpAnyH_take (i := 14) (oi := { dst := some 105, op := _, type := _, pos := _, after := _, guard := _ }) (v := ?_) rfl (by kernel_rfl) (by kernel_rfl) (by kernel_rfl) (fun _ _ _ h => h) (Or.inl ⟨by rfl, ?_⟩) hHeld ?_
  rotate_left
  · (intro w hSw; go_simp) <;> (with_reducible rfl)
  try simp only [Act.put, List.setIfInBounds_toArray, List.set_cons_zero, List.set_cons_succ]
  refine wpAnyH_done (by kernel_rfl) ?_ _
  refine NoPanic.normal ?_
  have DS6 := Aside0.mk (DS5.out.kept HB6.out)
  have HX6 := Aside0.mk (blk_below HX5.out HB6.out)
  have KR6 := Aside0.mk (blk_below KR5.out HB6.out)
  have HF7 := Aside0.mk (Kd.F_below HF6.out HB6.out)
  have hr6 : w3.heap.size ≤ w6.heap.size := Nat.le_trans HB5.out.size HB6.out.size
  clear HB5 HB6 HX5 KR5 DS5 HF6
  have a0 : (w6).cell? ⟨w.heap.size, 0, none⟩ = some (.int .i64 1) := (blk_cell (DS6.out.ask) 0).trans rfl
  have az0 := blk_frozen (DS6.out.ask) 0
  have a1 : (w6).cell? ⟨w.heap.size, 1, none⟩ = some (.int .i64 num) := (blk_cell (DS6.out.ask) 1).trans rfl
  have az1 := blk_frozen (DS6.out.ask) 1
  have a2 : (w6).cell? ⟨w.heap.size, 2, none⟩ = some (.string k) := (blk_cell (DS6.out.ask) 2).trans rfl
  have az2 := blk_frozen (DS6.out.ask) 2
  have a3 : (w6).cell? ⟨w.heap.size, 3, none⟩ = some (.slice A t.length c) := (blk_cell (DS6.out.ask) 3).trans rfl
  have az3 := blk_frozen (DS6.out.ask) 3
  have p0 : (w6).cell? ⟨w1.heap.size, 0, none⟩ = some (.int .i64 num) := (blk_cell (DS6.out.out) 0).trans rfl
  have pz0 := blk_frozen (DS6.out.out) 0
  have p1 : (w6).cell? ⟨w1.heap.size, 1, none⟩ = some (.int .i64 0) := (blk_cell (DS6.out.out) 1).trans rfl
  have pz1 := blk_frozen (DS6.out.out) 1
  have p2 : (w6).cell? ⟨w1.heap.size, 2, none⟩ = some (.slice none 0 0) := (blk_cell (DS6.out.out) 2).trans rfl
  have pz2 := blk_frozen (DS6.out.out) 2
  have p3 : (w6).cell? ⟨w1.heap.size, 3, none⟩ = some (.slice none 0 0) := (blk_cell (DS6.out.out) 3).trans rfl
  have pz3 := blk_frozen (DS6.out.out) 3
  have r0 : (w6).cell? ⟨w.heap.size + 1, 0, none⟩ = some (.int .i64 0) := (blk_cell (DS6.out.res) 0).trans rfl
  have rz0 := blk_frozen (DS6.out.res) 0
  have r1 : (w6).cell? ⟨w.heap.size + 1, 1, none⟩ = some (.int .i64 0) := (blk_cell (DS6.out.res) 1).trans rfl
  have rz1 := blk_frozen (DS6.out.res) 1
  have r2 : (w6).cell? ⟨w.heap.size + 1, 2, none⟩ = some (.slice none 0 0) := (blk_cell (DS6.out.res) 2).trans rfl
  have rz2 := blk_frozen (DS6.out.res) 2
  have r3 : (w6).cell? ⟨w.heap.size + 1, 3, none⟩ = some (.slice none 0 0) := (blk_cell (DS6.out.res) 3).trans rfl
  have rz3 := blk_frozen (DS6.out.res) 3
  clear z1 z2
  by_cases hfull : q < sumE (offE k L) + k.size + t.length
  · have hd : decide (q < (sumE (offE k L) : Int) + (k.size : Int) + (t.length : Int)) = true := decide_eq_true hfull
    go_wp2_with fail
    all_goals
      have D4 := DS6.out.put 1 (.int .i64 2) rfl
      refine bodyPost_ret (results_cell_row rfl _ _ (w.heap.size + 1) 32 _ (0, 0) _ rfl (fill4_res D4.res (.int .i64 num) (.int .i64 2) (.slice none 0 0) (.slice none 0 0)) Try.underlying32 rfl (by kernel_rfl)) rfl ?_
      obtain ⟨F1, F2, F3⟩ := fill4 D4.res (by omega) D4.below (.int .i64 num) (.int .i64 2) (.slice none 0 0) (.slice none 0 0)
      exact ⟨_, _, rfl, Kd.R_nil _ _ _ _ _, Kd.R_nil _ _ _ _ _, Rf.kept HH.out F3, grown_of_below F3 _⟩
  · have hd : decide (q < (sumE (offE k L) : Int) + (k.size : Int) + (t.length : Int)) = false := decide_eq_false hfull
    have hrx : some r ≠ some x := by intro e; injection e; have := DS3.out.below.size; omega
    go_wp2_with (first | ((with_reducible refine gate_builtin (b := .append) (xs := #[.tmp 108, .tmp 110]) rfl ?_); at_builtin; refine Kd.R_append_row (Value.int .u8) (0 : Int) (h1 := fun _ => rfl) (w0 := w6) w6.heap.size rfl (.tmp 108) (.tmp 110) 27 5 (.int .u8 0) 1 rfl Try.underlying27 info5 rfl (by omega) (.slice none 0 0) [] t A t.length c (fun k => w6.heap.size ≤ k) rfl rfl ?aF ?aO ?aR ?aB ?aS ?aL ?_; (case aF => exact fun _ h => h); (case aO => exact Kd.R_nil _ _ _ _ _); (case aR => exact Kd.C_below HR.out DS6.out.below); (case aB => exact Below.refl _ _); (case aS => exact Nat.le_refl _); (case aL => have := ht; simp only [List.length_nil]; omega); intro v7 w7 ho7 hb7 hg7 hat7; rw [List.nil_append] at ho7; obtain ⟨A7, c7, rfl, hc7, hC7⟩ := Kd.R_reads ho7; have DS7 := Aside0.mk (DS6.out.kept hb7); have HB7 := Aside0.mk hb7; have HO7 := Aside0.mk ho7; have HC7 := Aside0.mk hc7; clear a0 az0 a1 az1 a2 az2 a3 az3 p0 pz0 p1 pz1 p2 pz2 p3 pz3 r0 rz0 r1 rz1 r2 rz2 r3 rz3; clear ho7 hb7 hg7 hat7 hC7 hc7) | fail)
    all_goals
      have KR7 := Aside0.mk (blk_below KR6.out HB7.out)
      refine wp_region_noPanic ?_
      refine wp_region_held_drew (S := fun W => w7.grownBy W (some x)) (by kernel_rfl) (grown_of_below (below_drew (Below.refl _ _)) _) (fun hHeld => ?_)
      refine wpAnyH_take (i := 0) (oi := { dst := some 112, op := _, type := _, pos := _, after := _, guard := _ }) (v := ?_) rfl (by kernel_rfl) (by kernel_rfl) (by kernel_rfl) (fun _ _ _ h => h) (Or.inl ⟨by rfl, ?_⟩) hHeld ?_
      rotate_left
      · (intro w hSw; go_simp) <;> (with_reducible rfl)
      try simp only [Act.put, List.setIfInBounds_toArray, List.set_cons_zero, List.set_cons_succ]
      refine wpAnyH_take (i := 1) (oi := { dst := some 113, op := _, type := _, pos := _, after := _, guard := _ }) (v := ?_) rfl (by kernel_rfl) (by kernel_rfl) (by kernel_rfl) (fun _ _ _ h => h) (Or.inl ⟨by rfl, ?_⟩) hHeld ?_
      rotate_left
      · (intro w hSw; go_simp) <;> (with_reducible rfl)
      try simp only [Act.put, List.setIfInBounds_toArray, List.set_cons_zero, List.set_cons_succ]
      refine wpAnyH_take (i := 2) (oi := { dst := some 114, op := _, type := _, pos := _, after := _, guard := _ }) (v := ?_) rfl (by kernel_rfl) (by kernel_rfl) (by kernel_rfl) (fun _ _ _ h => h) (Or.inl ⟨by rfl, ?_⟩) hHeld ?_
      rotate_left
      · (intro w hSw; go_simp) <;> (with_reducible rfl)
      try simp only [Act.put, List.setIfInBounds_toArray, List.set_cons_zero, List.set_cons_succ]
      refine wpAnyH_take (i := 3) (oi := { dst := some 115, op := _, type := _, pos := _, after := _, guard := _ }) (v := ?_) rfl (by kernel_rfl) (by kernel_rfl) (by kernel_rfl) (fun _ _ _ h => h) (Or.inl ⟨by rfl, ?_⟩) hHeld ?_
      rotate_left
      · (intro w hSw; go_simp) <;> (with_reducible rfl)
      try simp only [Act.put, List.setIfInBounds_toArray, List.set_cons_zero, List.set_cons_succ]
      refine wpAnyH_take (i := 5) (oi := { dst := some 117, op := _, type := _, pos := _, after := _, guard := _ }) (v := ?_) rfl (by kernel_rfl) (by kernel_rfl) (by kernel_rfl) (fun _ _ _ h => h) (Or.inl ⟨by rfl, ?_⟩) hHeld ?_
      rotate_left
      · (intro w hSw; go_simp) <;> (with_reducible rfl)
      try simp only [Act.put, List.setIfInBounds_toArray, List.set_cons_zero, List.set_cons_succ]
      refine wpAnyH_take (i := 7) (oi := { dst := some 119, op := _, type := _, pos := _, after := _, guard := _ }) (v := ?_) rfl (by kernel_rfl) (by kernel_rfl) (by kernel_rfl) (fun _ _ _ h => h) (Or.inl ⟨by rfl, ?_⟩) hHeld ?_
      rotate_left
      · (intro w hSw; go_simp) <;> (with_reducible rfl)
      try simp only [Act.put, List.setIfInBounds_toArray, List.set_cons_zero, List.set_cons_succ]
      refine wpAnyH_take (i := 4) (oi := { dst := some 116, op := _, type := _, pos := _, after := _, guard := _ }) (v := ?_) rfl (by kernel_rfl) (by kernel_rfl) (by kernel_rfl) (fun _ _ _ h => h) (Or.inl ⟨by rfl, ?_⟩) hHeld ?_
      rotate_left
      · (intro w hSw; have hh : w.cell? ⟨r, 1, none⟩ = some (.slice A5 (refL (offE k L)).length c5) := (blk_cell (blk_grown KR7.out hSw hrx) 1).trans rfl; go_simp) <;> (with_reducible rfl)
      try simp only [Act.put, List.setIfInBounds_toArray, List.set_cons_zero, List.set_cons_succ]
      refine wpAnyH_take (i := 6) (oi := { dst := some 118, op := _, type := _, pos := _, after := _, guard := _ }) (v := ?_) rfl (by kernel_rfl) (by kernel_rfl) (by kernel_rfl) (fun _ _ _ h => h) (Or.inl ⟨by rfl, ?_⟩) hHeld ?_
      rotate_left
      · (intro w hSw; have hh : w.cell? ⟨_, 2, none⟩ = some (.string k) := (blk_cell (blk_grown DS7.out.ask hSw hax) 2).trans rfl; go_simp) <;> (with_reducible rfl)
      try simp only [Act.put, List.setIfInBounds_toArray, List.set_cons_zero, List.set_cons_succ]
      refine wpAnyH_take (i := 8) (oi := { dst := some 120, op := _, type := _, pos := _, after := _, guard := _ }) (v := ?_) rfl (by kernel_rfl) (by kernel_rfl) (by kernel_rfl) (fun _ _ _ h => h) (Or.inl ⟨by rfl, ?_⟩) hHeld ?_
      rotate_left
      · (intro w hSw; go_simp) <;> (with_reducible rfl)
      try simp only [Act.put, List.setIfInBounds_toArray, List.set_cons_zero, List.set_cons_succ]
      refine wpAnyH_ready (rs := [9]) (by kernel_rfl) (by simp) (AllReadyH.cons (o := { dst := some 121, op := _, type := _, pos := _, after := _, guard := _ }) rfl (fun K hK => ?_) AllReadyH.nil)
      go_simp
      refine (with_calls (fun k => (k ∉ S ∧ k < w.heap.size) ∨ w3.heap.size ≤ k) A5 c5 (refL (offE k L)) ⟨k, t⟩ A7 c7 _ (fun j hj => .inr (by have : w7.heap.size ≤ j := hj; have := HB7.out.size; omega)) (Kd.F_drew (Kd.F_below HF7.out HB7.out)) (Kd.F_drew (Kd.F_mono (Kd.R_F HO7.out) (fun j hj => .inr (Nat.le_trans hr6 hj)))) HC7.out (by rw [refL_len]; omega)).mono ?_
      rintro e w8 ⟨v8, rfl, hN8, hb8⟩
      refine hK.out _ _ (gx_below hHeld hb8) (fun hHeld2 => ?_)
      clear hK K hHeld
      have hHeld := hHeld2
      clear hHeld2
      try simp only [Act.put, List.setIfInBounds_toArray, List.set_cons_zero, List.set_cons_succ]
      rw [show insS ⟨k, t⟩ (refL (offE k L)) = refL (putE k (.slice none 0 0) t L) from (ins_ref (k, .slice none 0 0, t) (offE k L)).symm] at hN8
      have hx8 := blk_below (blk_drew (blk_below HX6.out HB7.out)) hb8
      have gx2 : w8.cell? ⟨x, 1, none⟩ = some (.slice A' (refL L).length c') := (blk_cell hx8 1).trans rfl
      have gz2 := blk_frozen hx8 1
      have HX8 := Aside0.mk hx8
      obtain ⟨A9, c9, rfl, hc9, _⟩ := Kd.N_reads hN8
      have HF9 := Aside0.mk (Kd.N_F hN8)
      have HC9 := Aside0.mk hc9
      have HG8 := Aside0.mk (gx_below (grown_of_below (below_drew (Below.refl w7.heap.size w7)) (some x)) hb8)
      clear hN8 hb8 hx8 hc9
      refine wpAnyH_take (i := 10) (oi := { dst := some 122, op := _, type := _, pos := _, after := _, guard := _ }) (v := ?_) rfl (by kernel_rfl) (by kernel_rfl) (by kernel_rfl) (fun _ _ _ h => h) (Or.inl ⟨by rfl, ?_⟩) hHeld ?_
      rotate_left
      · (intro w hSw; go_simp) <;> (with_reducible rfl)
      try simp only [Act.put, List.setIfInBounds_toArray, List.set_cons_zero, List.set_cons_succ]
      refine wpAnyH_take (i := 11) (oi := { dst := some 123, op := _, type := _, pos := _, after := _, guard := _ }) (v := ?_) rfl (by kernel_rfl) (by kernel_rfl) (by kernel_rfl) (fun _ _ _ h => h) (Or.inl ⟨by rfl, ?_⟩) hHeld ?_
      rotate_left
      · (intro w hSw; go_simp) <;> (with_reducible rfl)
      try simp only [Act.put, List.setIfInBounds_toArray, List.set_cons_zero, List.set_cons_succ]
      refine wpAnyH_ready (rs := [12]) (by kernel_rfl) (by simp) (AllReadyH.cons (o := { dst := none, op := _, type := _, pos := _, after := _, guard := _ }) rfl (fun K hK => ?_) AllReadyH.nil)
      go_simp
      refine hK.out _ _ (gx_set hHeld _ _) (fun hHeld2 => ?_)
      clear hK K hHeld
      have hHeld := hHeld2
      clear hHeld2
      try simp only [Act.put, List.setIfInBounds_toArray, List.set_cons_zero, List.set_cons_succ]
      refine wpAnyH_done (by kernel_rfl) ?_ _
      refine NoPanic.normal ?_
      have D9 := Aside0.mk (DS7.out.turn (gx_set HG8.out 1 (.slice A9 (refL (putE k (.slice none 0 0) t L)).length c9)) hxlt)
      have RF9 := Aside0.mk (Rf.finish (w3 := w3) (r := w.heap.size + 1) HH.out.lt HH.out.mem HX8.out HC9.out HF9.out (by have := blk_lt DS3.out.res; exact this) (by omega) (Nat.le_trans hr6 (Nat.le_trans HB7.out.size HG8.out.size)))
      generalize w8.setCell ⟨x, 1, none⟩ (.slice A9 (refL (putE k (.slice none 0 0) t L)).length c9) = W9 at D9 RF9 ⊢
      clear gx2 gz2
      have p0 : (W9).cell? ⟨w1.heap.size, 0, none⟩ = some (.int .i64 num) := (blk_cell (D9.out.out) 0).trans rfl
      have pz0 := blk_frozen (D9.out.out) 0
      have p1 : (W9).cell? ⟨w1.heap.size, 1, none⟩ = some (.int .i64 0) := (blk_cell (D9.out.out) 1).trans rfl
      have pz1 := blk_frozen (D9.out.out) 1
      have p2 : (W9).cell? ⟨w1.heap.size, 2, none⟩ = some (.slice none 0 0) := (blk_cell (D9.out.out) 2).trans rfl
      have pz2 := blk_frozen (D9.out.out) 2
      have p3 : (W9).cell? ⟨w1.heap.size, 3, none⟩ = some (.slice none 0 0) := (blk_cell (D9.out.out) 3).trans rfl
      have pz3 := blk_frozen (D9.out.out) 3
      have r0 : (W9).cell? ⟨w.heap.size + 1, 0, none⟩ = some (.int .i64 0) := (blk_cell (D9.out.res) 0).trans rfl
      have rz0 := blk_frozen (D9.out.res) 0
      have r1 : (W9).cell? ⟨w.heap.size + 1, 1, none⟩ = some (.int .i64 0) := (blk_cell (D9.out.res) 1).trans rfl
      have rz1 := blk_frozen (D9.out.res) 1
      have r2 : (W9).cell? ⟨w.heap.size + 1, 2, none⟩ = some (.slice none 0 0) := (blk_cell (D9.out.res) 2).trans rfl
      have rz2 := blk_frozen (D9.out.res) 2
      have r3 : (W9).cell? ⟨w.heap.size + 1, 3, none⟩ = some (.slice none 0 0) := (blk_cell (D9.out.res) 3).trans rfl
      have rz3 := blk_frozen (D9.out.res) 3
      go_wp2_with fail
      all_goals
        refine bodyPost_ret (results_cell_row rfl _ _ (w.heap.size + 1) 32 _ (0, 0) _ rfl (fill4_res D9.out.res (.int .i64 num) (.int .i64 0) (.slice none 0 0) (.slice none 0 0)) Try.underlying32 rfl (by kernel_rfl)) rfl ?_
        exact ⟨_, _, rfl, Kd.R_nil _ _ _ _ _, Kd.R_nil _ _ _ _ _, RF9.out _ _ _ _, fill4_grown D9.out.grown (by omega) _ _ _ _⟩
end Go.Proofs.Ytahiadghodhkhaa.Bl
