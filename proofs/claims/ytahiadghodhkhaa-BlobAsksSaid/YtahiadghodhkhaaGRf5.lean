import Derived.Test.YtahiadghodhkhaaGRf4
namespace Go.Proofs.Ytahiadghodhkhaa.Bl
open Go.RowKit Go.Maps Go.Proofs.YtahiadghodhkhaaW.PrintWords Go.Proofs.YtahiadghodhkhaaW.PrintLast Go.Proofs.YtahiadghodhkhaaW.PrintMore Go.Proofs.Ytahiadghodhkhaa.PB
set_option linter.unusedVariables false
set_option linter.unusedSimpArgs false
theorem begins_is (s p : ByteArray) : scriniumref19_begins.f s p = some (Lib.hasPrefix s.data.toList p.data.toList) := by
  unfold scriniumref19_begins.f Lib.hasPrefix
  have h0 : s.data.toList.length = s.size := rfl
  have h1 : p.data.toList.length = p.size := rfl
  by_cases h : (s.size : Int) ≥ (p.size : Int)
  · rw [if_pos h, if_pos (by omega), if_pos (by omega), Int.toNat_natCast, ByteArray.toList_eq, ByteArray.toList_eq]
    congr 1
    have e : (s.extract 0 p.size).data.toList = s.data.toList.take p.size := by simp [ByteArray.data_extract, List.extract]
    rw [e]
    by_cases hp : p.data.toList <+: s.data.toList
    · rw [List.isPrefixOf_iff_prefix.2 hp, beq_iff_eq]
      exact (List.prefix_iff_eq_take.1 hp).symm
    · have h2 : p.data.toList.isPrefixOf s.data.toList = false := by
        cases hh : p.data.toList.isPrefixOf s.data.toList
        · rfl
        · exact absurd (List.isPrefixOf_iff_prefix.1 hh) hp
      rw [h2, beq_eq_false_iff_ne]
      intro e2
      exact hp (by rw [← e2]; exact List.take_prefix _ _)
  · rw [if_neg h]
    congr 1
    symm
    cases hh : p.data.toList.isPrefixOf s.data.toList
    · rfl
    · have := (List.isPrefixOf_iff_prefix.1 hh).length_le
      omega
def nmsI (hd : ByteArray) (L : List Ent) (i : Nat) : List ByteArray := ((L.take i).map (·.1)).filter fun s => Lib.hasPrefix s.data.toList hd.data.toList
theorem nmsI_snoc (hd : ByteArray) (L : List Ent) (i : Nat) (hi : i < L.length) : nmsI hd L (i + 1) = if Lib.hasPrefix (L[i]).1.data.toList hd.data.toList then nmsI hd L i ++ [(L[i]).1] else nmsI hd L i := by
  unfold nmsI
  rw [take_snoc L i hi, List.map_append, List.filter_append]
  cases h : Lib.hasPrefix (L[i]).1.data.toList hd.data.toList
  · rw [if_neg (by simp)]; simp [h]
  · rw [if_pos rfl]; simp [h]
theorem nmsE_full (hd : ByteArray) (L : List Ent) (h : (nmsI hd L L.length).length ≤ 1000) : nmsE hd L = nmsI hd L L.length := by
  unfold nmsI at h ⊢
  rw [List.take_length] at h ⊢
  exact List.take_of_length_le h
theorem nmsE_cut (hd : ByteArray) (L : List Ent) (i : Nat) (h : (nmsI hd L i).length = 1000) : nmsE hd L = nmsI hd L i := by
  unfold nmsE
  have e : ((L.map (·.1)).filter fun s => Lib.hasPrefix s.data.toList hd.data.toList) = nmsI hd L i ++ (((L.drop i).map (·.1)).filter fun s => Lib.hasPrefix s.data.toList hd.data.toList) := by
    unfold nmsI
    rw [← List.filter_append, ← List.map_append, List.take_append_drop]
  rw [e, List.take_append_of_le_length (by omega), List.take_of_length_le (by omega)]
theorem bset {n : Nat} {w W : World} (h : Below n w W) {g : Nat} (hg : n ≤ g) (i : Nat) (u : Value) : Below n w (W.setCell ⟨g, i, none⟩ u) := h.setCell (p := ⟨g, i, none⟩) hg u
theorem DS.grow {w W W' : World} {p : Nat} {asks cs : Array Value} {row : Option Nat} (h : DS w W p asks cs) (hg : W.grownBy W' row) (hb : Below w.heap.size w W') (h1 : some w.heap.size ≠ row) (h2 : some (w.heap.size + 1) ≠ row) (h3 : some p ≠ row) : DS w W' p asks cs :=
  ⟨blk_grown h.ask hg h1, blk_grown h.res hg h2, blk_grown h.out hg h3, h.lt, hb⟩
set_option maxRecDepth 20000 in
set_option maxHeartbeats 4000000 in
theorem RDo_list (S : List Nat) (x : Nat) (q : Int) (L : List Ent) (num : Int) (k : ByteArray) (A : Option Addr) (c : Nat) (t : List Int) (w : World) (h : Rf S w x q L) (hl : L.length ≤ 100000) (hK : Sb.okA 3 num k.size t.length = true) (hc : t.length ≤ c) (hr : Bs.C w A t.length t) :
    Calls Try.prog 16 #[.pointer (some ⟨x, 0, none⟩), .agg #[.int .i64 3, .int .i64 num, .string k, .slice A t.length c]] w fun e w' => ∃ vb vn, e = .returned (.agg #[.int .i64 num, .int .i64 0, vb, vn]) ∧ Bs.R 5 w' w.heap.size (fun _ => True) vb [] ∧ Kd.string.R 9 w' w.heap.size (fun _ => True) vn (nmsE k L) ∧ Below w.heap.size w w' := by
  have HR := Aside0.mk hr
  have HH := Aside0.mk h
  have B1 := Aside0.mk (below_alloc (below_alloc (Below.refl w.heap.size w) (.cells #[.int .i64 3, .int .i64 num, .string k, .slice A t.length c] 29)) (.cells #[.int .i64 0, .int .i64 0, .slice none 0 0, .slice none 0 0] 32))
  clear hr h
  go_enter Try.func16, Try.ntmps16
  go_wp2_with fail
  refine (scriniumref16_RightAsk.calls 3 num k A c t _ _ (Kd.C_below HR.out B1.out) hc (Sb.refRight_is 3 num k t)).mono ?_
  rintro e w1 ⟨rfl, hb1⟩
  have B2 := Aside0.mk (B1.out.trans (hb1.mono B1.out.size))
  have KA := Aside0.mk (blk_below (blk_alloc (blk_new w (.cells #[.int .i64 3, .int .i64 num, .string k, .slice A t.length c] 29)) (.cells #[.int .i64 0, .int .i64 0, .slice none 0 0, .slice none 0 0] 32)) hb1)
  have KR := Aside0.mk (show w1.heap[w.heap.size + 1]? = some (.cells #[.int .i64 0, .int .i64 0, .slice none 0 0, .slice none 0 0] 32 (0, 0)) from by have h := blk_below (blk_new (w.alloc (.cells #[.int .i64 3, .int .i64 num, .string k, .slice A t.length c] 29)) (.cells #[.int .i64 0, .int .i64 0, .slice none 0 0, .slice none 0 0] 32)) hb1; simpa using h)
  clear hb1
  rw [hK]
  have hlt : w.heap.size + 1 < w1.heap.size := blk_lt KR.out
  have HA := KA.out
  have a0 : (w1).cell? ⟨w.heap.size, 0, none⟩ = some (.int .i64 3) := (blk_cell (HA) 0).trans rfl
  have az0 := blk_frozen (HA) 0
  have a1 : (w1).cell? ⟨w.heap.size, 1, none⟩ = some (.int .i64 num) := (blk_cell (HA) 1).trans rfl
  have az1 := blk_frozen (HA) 1
  have a2 : (w1).cell? ⟨w.heap.size, 2, none⟩ = some (.string k) := (blk_cell (HA) 2).trans rfl
  have az2 := blk_frozen (HA) 2
  have a3 : (w1).cell? ⟨w.heap.size, 3, none⟩ = some (.slice A t.length c) := (blk_cell (HA) 3).trans rfl
  have az3 := blk_frozen (HA) 3
  clear HA
  have n1 : w1.heap.size ≠ w.heap.size := by omega
  have n2 : w.heap.size ≠ w1.heap.size := by omega
  have n3 : w1.heap.size ≠ w.heap.size + 1 := by omega
  have n4 : w.heap.size + 1 ≠ w1.heap.size := by omega
  have n5 : w.heap.size < w1.heap.size := by omega
  go_wp2_with fail
  have hDS := DS.start B2.out KA.out KR.out hlt ⟨blk_new w1 (.cells #[.int .i64 num, .int .i64 0, .slice none 0 0, .slice none 0 0] 32), below_alloc (Below.refl _ _) _⟩
  generalize w1.alloc (.cells #[.int .i64 num, .int .i64 0, .slice none 0 0, .slice none 0 0] 32) = W2 at hDS ⊢
  have DS2 := Aside0.mk hDS
  clear hDS KA KR B2 B1 a0 az0 a1 az1 a2 az2 a3 az3
  refine (RHas_calls S x q L k _ (Rf.kept HH.out DS2.out.below) (by omega)).mono ?_
  rintro e w3 ⟨v, rfl, ⟨A1, c1, rfl, hc1, hF1⟩, hb3⟩
  have DS3 := Aside0.mk (DS2.out.kept hb3)
  have RF3 := Aside0.mk (Rf.kept HH.out DS3.out.below)
  have HF1 := Aside0.mk hF1
  have HL1 := Aside0.mk hc1
  clear hb3 hF1 hc1
  generalize findE k L = fd at HF1 HL1 ⊢
  clear HF1 HL1
  obtain ⟨A', c', hx0, hc', hF'⟩ := HH.out.ex
  have HXW := Aside0.mk hx0
  have HFW := Aside0.mk hF'
  have hn : (refL L).length = L.length := refL_len L
  have hxlt := HH.out.xlt
  clear hx0 hc' hF'
  have a0 : (w3).cell? ⟨w.heap.size, 0, none⟩ = some (.int .i64 3) := (blk_cell (DS3.out.ask) 0).trans rfl
  have az0 := blk_frozen (DS3.out.ask) 0
  have a1 : (w3).cell? ⟨w.heap.size, 1, none⟩ = some (.int .i64 num) := (blk_cell (DS3.out.ask) 1).trans rfl
  have az1 := blk_frozen (DS3.out.ask) 1
  have a2 : (w3).cell? ⟨w.heap.size, 2, none⟩ = some (.string k) := (blk_cell (DS3.out.ask) 2).trans rfl
  have az2 := blk_frozen (DS3.out.ask) 2
  have a3 : (w3).cell? ⟨w.heap.size, 3, none⟩ = some (.slice A t.length c) := (blk_cell (DS3.out.ask) 3).trans rfl
  have az3 := blk_frozen (DS3.out.ask) 3
  have p0 : (w3).cell? ⟨w1.heap.size, 0, none⟩ = some (.int .i64 num) := (blk_cell (DS3.out.out) 0).trans rfl
  have pz0 := blk_frozen (DS3.out.out) 0
  have p1 : (w3).cell? ⟨w1.heap.size, 1, none⟩ = some (.int .i64 0) := (blk_cell (DS3.out.out) 1).trans rfl
  have pz1 := blk_frozen (DS3.out.out) 1
  have p2 : (w3).cell? ⟨w1.heap.size, 2, none⟩ = some (.slice none 0 0) := (blk_cell (DS3.out.out) 2).trans rfl
  have pz2 := blk_frozen (DS3.out.out) 2
  have p3 : (w3).cell? ⟨w1.heap.size, 3, none⟩ = some (.slice none 0 0) := (blk_cell (DS3.out.out) 3).trans rfl
  have pz3 := blk_frozen (DS3.out.out) 3
  have r0 : (w3).cell? ⟨w.heap.size + 1, 0, none⟩ = some (.int .i64 0) := (blk_cell (DS3.out.res) 0).trans rfl
  have rz0 := blk_frozen (DS3.out.res) 0
  have r1 : (w3).cell? ⟨w.heap.size + 1, 1, none⟩ = some (.int .i64 0) := (blk_cell (DS3.out.res) 1).trans rfl
  have rz1 := blk_frozen (DS3.out.res) 1
  have r2 : (w3).cell? ⟨w.heap.size + 1, 2, none⟩ = some (.slice none 0 0) := (blk_cell (DS3.out.res) 2).trans rfl
  have rz2 := blk_frozen (DS3.out.res) 2
  have r3 : (w3).cell? ⟨w.heap.size + 1, 3, none⟩ = some (.slice none 0 0) := (blk_cell (DS3.out.res) 3).trans rfl
  have rz3 := blk_frozen (DS3.out.res) 3
  go_wp2_with fail
  clear a0 az0 a1 az1 a2 az2 a3 az3 p0 pz0 p1 pz1 p2 pz2 p3 pz3 r0 rz0 r1 rz1 r2 rz2 r3 rz3
  go_loopg [8] L.length (fun kq v8 w' => ∃ (i : Nat) (ns : List ByteArray) (vn : Value), v8 = .int .i64 i ∧ i ≤ L.length ∧ ns.length ≤ 1000 ∧ Aside0 (kq + i = L.length) ∧ Aside0 (ns = nmsI k L i) ∧ Aside0 (Kd.string.R 9 w' w.heap.size (fun _ => True) vn ns) ∧ Aside0 (DS w w' w1.heap.size #[.int .i64 3, .int .i64 num, .string k, .slice A t.length c] #[.int .i64 num, .int .i64 0, .slice none 0 0, vn]))
  case atStart => exact ⟨0, [], _, rfl, Nat.zero_le _, Nat.zero_le _, ⟨rfl⟩, ⟨rfl⟩, ⟨Kd.R_nil _ _ _ _ _⟩, DS3⟩
  case round =>
    clear DS3 RF3
    obtain ⟨i, ns, vn, rfl, hi, hns, HM, HNS, HN, HD⟩ := hrel
    obtain ⟨AN, cN, rfl, _, _⟩ := Kd.R_reads HN.out
    have gx1 : wr.cell? ⟨x, 1, none⟩ = some (.slice A' (refL L).length c') := (blk_cell (blk_below HXW.out HD.out.below) 1).trans rfl
    rw [hn] at gx1
    have q3 : wr.cell? ⟨w1.heap.size, 3, none⟩ = some (.slice AN ns.length cN) := (blk_cell HD.out.out 3).trans rfl
    by_cases hgo : i < L.length ∧ ns.length < 1000
    · obtain ⟨hlt, hn1⟩ := hgo
      have hci : (i : Int) < (L.length : Int) := by omega
      have hcn : (ns.length : Int) < 1000 := by omega
      obtain ⟨ad, A1', c1', eA, hx0', hx1', _, _⟩ := oneF HFW.out i (by rw [refL_len]; exact hlt)
      obtain rfl := eA
      rw [refL_get L i hlt] at hx0'
      have HSN := Aside0.mk (nmsI_snoc k L i hlt)
      have HXN := Aside0.mk (hp_cell (Nat.le_refl _) (Below.refl w.heap.size w) hx0')
      have HXNR := Aside0.mk (hp_cell (Nat.le_refl _) HD.out.below hx0')
      have HXL := Aside0.mk (show w.heap[x]? = some (.cells #[.int .i64 q, .slice (some ad) L.length c'] 66 (0, 0)) from by have h := HXW.out; rw [hn] at h; exact h)
      have HXR := Aside0.mk (blk_below HXL.out HD.out.below)
      generalize (L[i]).1 = kx at HSN HXN HXNR hx0'
      clear hx0' hx1'
      have DSR := HD
      go_wp2_with fail
      refine wp_region_noPanic ?_
      refine wp_region_held_drew (S := fun W => Below wr.heap.size wr W) (by kernel_rfl) (below_drew (Below.refl _ _)) (fun hHeld => ?_)
      refine wpAnyH_take (i := 0) (oi := { dst := some 54, op := _, type := _, pos := _, after := _, guard := _ }) (v := ?_) rfl (by kernel_rfl) (by kernel_rfl) (by kernel_rfl) (fun _ _ _ h => h) (Or.inl ⟨by rfl, ?_⟩) hHeld ?_
      rotate_left
      · (intro w hSw; go_simp) <;> (with_reducible rfl)
      try simp only [Act.put, List.setIfInBounds_toArray, List.set_cons_zero, List.set_cons_succ]
      refine wpAnyH_take (i := 1) (oi := { dst := some 55, op := _, type := _, pos := _, after := _, guard := _ }) (v := ?_) rfl (by kernel_rfl) (by kernel_rfl) (by kernel_rfl) (fun _ _ _ h => h) (Or.inl ⟨by rfl, ?_⟩) hHeld ?_
      rotate_left
      · (intro w hSw; go_simp) <;> (with_reducible rfl)
      try simp only [Act.put, List.setIfInBounds_toArray, List.set_cons_zero, List.set_cons_succ]
      refine wpAnyH_take (i := 2) (oi := { dst := some 56, op := _, type := _, pos := _, after := _, guard := _ }) (v := ?_) rfl (by kernel_rfl) (by kernel_rfl) (by kernel_rfl) (fun _ _ _ h => h) (Or.inl ⟨by rfl, ?_⟩) hHeld ?_
      rotate_left
      · (intro w hSw; go_simp) <;> (with_reducible rfl)
      try simp only [Act.put, List.setIfInBounds_toArray, List.set_cons_zero, List.set_cons_succ]
      refine wpAnyH_take (i := 4) (oi := { dst := some 58, op := _, type := _, pos := _, after := _, guard := _ }) (v := ?_) rfl (by kernel_rfl) (by kernel_rfl) (by kernel_rfl) (fun _ _ _ h => h) (Or.inl ⟨by rfl, ?_⟩) hHeld ?_
      rotate_left
      · (intro w hSw; go_simp) <;> (with_reducible rfl)
      try simp only [Act.put, List.setIfInBounds_toArray, List.set_cons_zero, List.set_cons_succ]
      refine wpAnyH_take (i := 8) (oi := { dst := some 62, op := _, type := _, pos := _, after := _, guard := _ }) (v := ?_) rfl (by kernel_rfl) (by kernel_rfl) (by kernel_rfl) (fun _ _ _ h => h) (Or.inl ⟨by rfl, ?_⟩) hHeld ?_
      rotate_left
      · (intro w hSw; go_simp) <;> (with_reducible rfl)
      try simp only [Act.put, List.setIfInBounds_toArray, List.set_cons_zero, List.set_cons_succ]
      refine wpAnyH_take (i := 3) (oi := { dst := some 57, op := _, type := _, pos := _, after := _, guard := _ }) (v := ?_) rfl (by kernel_rfl) (by kernel_rfl) (by kernel_rfl) (fun _ _ _ h => h) (Or.inl ⟨by rfl, ?_⟩) hHeld ?_
      rotate_left
      · (intro w hSw; have hh : w.cell? ⟨x, 1, none⟩ = some (.slice (some ad) L.length c') := (blk_cell (blk_below HXR.out hSw) 1).trans rfl; go_simp) <;> (with_reducible rfl)
      try simp only [Act.put, List.setIfInBounds_toArray, List.set_cons_zero, List.set_cons_succ]
      refine wpAnyH_take (i := 5) (oi := { dst := some 59, op := _, type := _, pos := _, after := _, guard := _ }) (v := ?_) rfl (by kernel_rfl) (by kernel_rfl) (by kernel_rfl) (fun _ _ _ h => h) (Or.inl ⟨by rfl, ?_⟩) hHeld ?_
      rotate_left
      · (intro w hSw; go_simp) <;> (with_reducible rfl)
      try simp only [Act.put, List.setIfInBounds_toArray, List.set_cons_zero, List.set_cons_succ]
      refine wpAnyH_take (i := 6) (oi := { dst := some 60, op := _, type := _, pos := _, after := _, guard := _ }) (v := ?_) rfl (by kernel_rfl) (by kernel_rfl) (by kernel_rfl) (fun _ _ _ h => h) (Or.inl ⟨by rfl, ?_⟩) hHeld ?_
      rotate_left
      · (intro w hSw; go_simp) <;> (with_reducible rfl)
      try simp only [Act.put, List.setIfInBounds_toArray, List.set_cons_zero, List.set_cons_succ]
      refine wpAnyH_take (i := 7) (oi := { dst := some 61, op := _, type := _, pos := _, after := _, guard := _ }) (v := ?_) rfl (by kernel_rfl) (by kernel_rfl) (by kernel_rfl) (fun _ _ _ h => h) (Or.inl ⟨by rfl, ?_⟩) hHeld ?_
      rotate_left
      · (intro w hSw; have hh := hp_cell (Nat.le_refl _) hSw HXNR.out; go_simp) <;> (with_reducible rfl)
      try simp only [Act.put, List.setIfInBounds_toArray, List.set_cons_zero, List.set_cons_succ]
      refine wpAnyH_take (i := 9) (oi := { dst := some 63, op := _, type := _, pos := _, after := _, guard := _ }) (v := ?_) rfl (by kernel_rfl) (by kernel_rfl) (by kernel_rfl) (fun _ _ _ h => h) (Or.inl ⟨by rfl, ?_⟩) hHeld ?_
      rotate_left
      · (intro w hSw; have hh : w.cell? ⟨_, 2, none⟩ = some (.string k) := (blk_cell (blk_below DSR.out.ask hSw) 2).trans rfl; go_simp) <;> (with_reducible rfl)
      try simp only [Act.put, List.setIfInBounds_toArray, List.set_cons_zero, List.set_cons_succ]
      refine wpAnyH_ready (rs := [10]) (by kernel_rfl) (by simp) (AllReadyH.cons (o := { dst := some 64, op := _, type := _, pos := _, after := _, guard := _ }) rfl (fun K hK => ?_) AllReadyH.nil)
      go_simp
      refine (scriniumref19_begins.calls _ _ _ _ (begins_is _ _)).mono ?_
      rintro e w5 ⟨rfl, hd5⟩
      have hb5 := Drawn0.below hd5
      refine hK.out _ _ (hHeld.trans (hb5.mono hHeld.size)) (fun hHeld2 => ?_)
      clear hK K hHeld
      have hHeld := hHeld2
      clear hHeld2
      try simp only [Act.put, List.setIfInBounds_toArray, List.set_cons_zero, List.set_cons_succ]
      have HB5 := Aside0.mk hHeld
      clear hd5 hb5
      refine wpAnyH_done (by kernel_rfl) ?_ _
      refine NoPanic.normal ?_
      clear gx1 q3
      have DS6 := Aside0.mk (HD.out.kept HB5.out)
      have BW6 := Aside0.mk DS6.out.below
      have HN6 := Aside0.mk (Kd.R_below HN.out HB5.out)
      have p3 : w5.cell? ⟨w1.heap.size, 3, none⟩ = some (.slice AN ns.length cN) := (blk_cell DS6.out.out 3).trans rfl
      have hpw : w.heap.size ≤ w1.heap.size := by omega
      have hpl : w1.heap.size < w5.heap.size := blk_lt DS6.out.out
      have q9 : w5.cell? (ad.add (i * 2)) = some (.string kx) := hp_cell (Nat.le_refl _) BW6.out HXN.out
      clear HN HXR HXNR
      by_cases hb : Lib.hasPrefix kx.data.toList k.data.toList = true
      · rw [hb]
        go_wp2_with fail
        refine wp_region_noPanic ?_
        refine wp_region_held_drew (S := fun W => Below w.heap.size w W) (by kernel_rfl) (below_drew BW6.out) (fun hHeld => ?_)
        refine wpAnyH_take (i := 0) (oi := { dst := some 65, op := _, type := _, pos := _, after := _, guard := _ }) (v := ?_) rfl (by kernel_rfl) (by kernel_rfl) (by kernel_rfl) (fun _ _ _ h => h) (Or.inl ⟨by rfl, ?_⟩) hHeld ?_
        rotate_left
        · (intro w hSw; go_simp) <;> (with_reducible rfl)
        try simp only [Act.put, List.setIfInBounds_toArray, List.set_cons_zero, List.set_cons_succ]
        refine wpAnyH_take (i := 2) (oi := { dst := some 67, op := _, type := _, pos := _, after := _, guard := _ }) (v := ?_) rfl (by kernel_rfl) (by kernel_rfl) (by kernel_rfl) (fun _ _ _ h => h) (Or.inl ⟨by rfl, ?_⟩) hHeld ?_
        rotate_left
        · (intro w hSw; go_simp) <;> (with_reducible rfl)
        try simp only [Act.put, List.setIfInBounds_toArray, List.set_cons_zero, List.set_cons_succ]
        refine wpAnyH_take (i := 3) (oi := { dst := some 68, op := _, type := _, pos := _, after := _, guard := _ }) (v := ?_) rfl (by kernel_rfl) (by kernel_rfl) (by kernel_rfl) (fun _ _ _ h => h) (Or.inl ⟨by rfl, ?_⟩) hHeld ?_
        rotate_left
        · (intro w hSw; go_simp) <;> (with_reducible rfl)
        try simp only [Act.put, List.setIfInBounds_toArray, List.set_cons_zero, List.set_cons_succ]
        refine wpAnyH_take (i := 4) (oi := { dst := some 69, op := _, type := _, pos := _, after := _, guard := _ }) (v := ?_) rfl (by kernel_rfl) (by kernel_rfl) (by kernel_rfl) (fun _ _ _ h => h) (Or.inl ⟨by rfl, ?_⟩) hHeld ?_
        rotate_left
        · (intro w hSw; go_simp) <;> (with_reducible rfl)
        try simp only [Act.put, List.setIfInBounds_toArray, List.set_cons_zero, List.set_cons_succ]
        refine wpAnyH_take (i := 6) (oi := { dst := some 71, op := _, type := _, pos := _, after := _, guard := _ }) (v := ?_) rfl (by kernel_rfl) (by kernel_rfl) (by kernel_rfl) (fun _ _ _ h => h) (Or.inl ⟨by rfl, ?_⟩) hHeld ?_
        rotate_left
        · (intro w hSw; go_simp) <;> (with_reducible rfl)
        try simp only [Act.put, List.setIfInBounds_toArray, List.set_cons_zero, List.set_cons_succ]
        refine wpAnyH_take (i := 5) (oi := { dst := some 70, op := _, type := _, pos := _, after := _, guard := _ }) (v := ?_) rfl (by kernel_rfl) (by kernel_rfl) (by kernel_rfl) (fun _ _ _ h => h) (Or.inl ⟨by rfl, ?_⟩) hHeld ?_
        rotate_left
        · (intro w hSw; have hh : w.cell? ⟨x, 1, none⟩ = some (.slice (some ad) L.length c') := (blk_cell (blk_below HXL.out hSw) 1).trans rfl; go_simp) <;> (with_reducible rfl)
        try simp only [Act.put, List.setIfInBounds_toArray, List.set_cons_zero, List.set_cons_succ]
        refine wpAnyH_take (i := 7) (oi := { dst := some 72, op := _, type := _, pos := _, after := _, guard := _ }) (v := ?_) rfl (by kernel_rfl) (by kernel_rfl) (by kernel_rfl) (fun _ _ _ h => h) (Or.inl ⟨by rfl, ?_⟩) hHeld ?_
        rotate_left
        · (intro w hSw; go_simp) <;> (with_reducible rfl)
        try simp only [Act.put, List.setIfInBounds_toArray, List.set_cons_zero, List.set_cons_succ]
        refine wpAnyH_take (i := 8) (oi := { dst := some 73, op := _, type := _, pos := _, after := _, guard := _ }) (v := ?_) rfl (by kernel_rfl) (by kernel_rfl) (by kernel_rfl) (fun _ _ _ h => h) (Or.inl ⟨by rfl, ?_⟩) hHeld ?_
        rotate_left
        · (intro w hSw; go_simp) <;> (with_reducible rfl)
        try simp only [Act.put, List.setIfInBounds_toArray, List.set_cons_zero, List.set_cons_succ]
        refine wpAnyH_ready (rs := [1, 9]) (by kernel_rfl) (by simp) (AllReadyH.cons (o := { dst := some 66, op := _, type := _, pos := _, after := _, guard := _ }) rfl (fun K hK => ?_) (AllReadyH.cons (o := { dst := some 74, op := _, type := _, pos := _, after := _, guard := _ }) rfl (fun K hK => ?_) AllReadyH.nil))
        · go_simp
          refine hK.out _ _ (hHeld) (fun hHeld2 => ?_)
          clear hK K hHeld
          have hHeld := hHeld2
          clear hHeld2
          try simp only [Act.put, List.setIfInBounds_toArray, List.set_cons_zero, List.set_cons_succ]
          refine wpAnyH_take (i := 9) (oi := { dst := some 74, op := _, type := _, pos := _, after := _, guard := _ }) (v := ?_) rfl (by kernel_rfl) (by kernel_rfl) (by kernel_rfl) (fun _ _ _ h => h) (Or.inl ⟨by rfl, ?_⟩) hHeld ?_
          rotate_left
          · (intro w hSw; have hh := hp_cell (Nat.le_refl _) hSw HXN.out; go_simp) <;> (with_reducible rfl)
          try simp only [Act.put, List.setIfInBounds_toArray, List.set_cons_zero, List.set_cons_succ]
          refine wpAnyH_ready (rs := [10]) (by kernel_rfl) (by simp) (AllReadyH.cons (o := { dst := some 75, op := _, type := _, pos := _, after := _, guard := _ }) rfl (fun K hK => ?_) AllReadyH.nil)
          go_simp
          refine hK.out _ _ (below_step hHeld (below_alloc (Below.refl _ _) _)) (fun hHeld2 => ?_)
          clear hK K hHeld
          have hHeld := hHeld2
          clear hHeld2
          try simp only [Act.put, List.setIfInBounds_toArray, List.set_cons_zero, List.set_cons_succ]
          refine wpAnyH_ready (rs := [11]) (by kernel_rfl) (by simp) (AllReadyH.cons (o := { dst := some 76, op := _, type := _, pos := _, after := _, guard := _ }) rfl (fun K hK => ?_) AllReadyH.nil)
          have HWD : ∀ o, (w5.alloc o).drew = w5.drew.alloc o := fun _ => rfl
          try rw [HWD]
          clear HWD
          refine Kd.R_append_step Kd.string (w0 := w) w.heap.size ?gAW (.tmp 66) (.tmp 75) 30 9 (.string ⟨#[]⟩) 16 rfl Try.underlying30 info9 rfl (by decide) (by omega) _ ns kx [.string kx] (fun _ => True) (fun _ => False) rfl ?gAX ?gAP (fun _ h => h.elim) (fun _ _ => trivial) ?gAO ?gAB ?gAS ?gAL ?_
          (case gAW => rfl)
          (case gAX => rfl)
          (case gAP => exact rfl)
          (case gAO => exact Kd.R_drew HN6.out)
          (case gAB => exact below_drew BW6.out)
          (case gAS => exact BW6.out.size)
          (case gAL => omega)
          intro v7 w7 hr7 hb7 hg7 hat7
          obtain ⟨A7, c7, hv7, _, _⟩ := Kd.R_reads hr7
          rw [show (ns ++ [kx]).length = ns.length + 1 from by simp] at hv7
          subst hv7
          have HR7 := Aside0.mk hr7
          have HG7 := Aside0.mk hg7
          refine hK.out _ _ hb7 (fun hHeld2 => ?_)
          clear hK K hHeld hr7 hb7 hg7 hat7
          have hHeld := hHeld2
          clear hHeld2
          try simp only [Act.put, List.setIfInBounds_toArray, List.set_cons_zero, List.set_cons_succ]
          have HB7 := Aside0.mk hHeld
          have hD7 := Aside0.mk (DS.grow (DS6.out.kept (below_drew (Below.refl _ _))) HG7.out HB7.out (Kd.R_ne (Kd.R_drew HN6.out) (blk_drew DS6.out.ask) (by decide)) (Kd.R_ne (Kd.R_drew HN6.out) (blk_drew DS6.out.res) (by decide)) (Kd.R_ne (Kd.R_drew HN6.out) (blk_drew DS6.out.out) (by decide)))
          have gp3 : w7.cell? ⟨w1.heap.size, 3, none⟩ = some (.slice AN ns.length cN) := (blk_cell hD7.out.out 3).trans rfl
          have gpz := blk_frozen hD7.out.out 3
          refine wpAnyH_take (i := 12) (oi := { dst := some 77, op := _, type := _, pos := _, after := _, guard := _ }) (v := ?_) rfl (by kernel_rfl) (by kernel_rfl) (by kernel_rfl) (fun _ _ _ h => h) (Or.inl ⟨by rfl, ?_⟩) hHeld ?_
          rotate_left
          · (intro w hSw; go_simp) <;> (with_reducible rfl)
          try simp only [Act.put, List.setIfInBounds_toArray, List.set_cons_zero, List.set_cons_succ]
          refine wpAnyH_ready (rs := [13]) (by kernel_rfl) (by simp) (AllReadyH.cons (o := { dst := none, op := _, type := _, pos := _, after := _, guard := _ }) rfl (fun K hK => ?_) AllReadyH.nil)
          go_simp
          refine hK.out _ _ (bset hHeld hpw 3 _) (fun hHeld2 => ?_)
          clear hK K hHeld
          have hHeld := hHeld2
          clear hHeld2
          try simp only [Act.put, List.setIfInBounds_toArray, List.set_cons_zero, List.set_cons_succ]
          refine wpAnyH_done (by kernel_rfl) ?_ _
          refine NoPanic.normal ?_
          have D8 := Aside0.mk (hD7.out.put 3 (.slice A7 (ns.length + 1) c7) rfl)
          have HR8 := Aside0.mk (Kd.R_set HR7.out hD7.out.out (by decide) 3 (.slice A7 (ns.length + 1) c7))
          generalize w7.setCell ⟨w1.heap.size, 3, none⟩ (.slice A7 (ns.length + 1) c7) = W8 at D8 HR8 ⊢
          clear gp3 gpz HG7 hD7 HR7 HB7
          go_wp2_with fail
          go_roundg (L.length - (i + 1))
          case measure => have := HM.out; omega
          case rel => exact ⟨i + 1, ns ++ [kx], _, by go_num, by omega, by simp; omega, ⟨by omega⟩, ⟨by rw [HSN.out, if_pos hb, HNS.out]⟩, HR8, ⟨D8.out⟩⟩
        · go_simp
          refine hK.out _ _ (hHeld) (fun hHeld2 => ?_)
          clear hK K hHeld
          have hHeld := hHeld2
          clear hHeld2
          try simp only [Act.put, List.setIfInBounds_toArray, List.set_cons_zero, List.set_cons_succ]
          refine wpAnyH_ready (rs := [1, 10]) (by kernel_rfl) (by simp) (AllReadyH.cons (o := { dst := some 66, op := _, type := _, pos := _, after := _, guard := _ }) rfl (fun K hK => ?_) (AllReadyH.cons (o := { dst := some 75, op := _, type := _, pos := _, after := _, guard := _ }) rfl (fun K hK => ?_) AllReadyH.nil))
          · go_simp
            refine hK.out _ _ (hHeld) (fun hHeld2 => ?_)
            clear hK K hHeld
            have hHeld := hHeld2
            clear hHeld2
            try simp only [Act.put, List.setIfInBounds_toArray, List.set_cons_zero, List.set_cons_succ]
            refine wpAnyH_ready (rs := [10]) (by kernel_rfl) (by simp) (AllReadyH.cons (o := { dst := some 75, op := _, type := _, pos := _, after := _, guard := _ }) rfl (fun K hK => ?_) AllReadyH.nil)
            go_simp
            refine hK.out _ _ (below_step hHeld (below_alloc (Below.refl _ _) _)) (fun hHeld2 => ?_)
            clear hK K hHeld
            have hHeld := hHeld2
            clear hHeld2
            try simp only [Act.put, List.setIfInBounds_toArray, List.set_cons_zero, List.set_cons_succ]
            refine wpAnyH_ready (rs := [11]) (by kernel_rfl) (by simp) (AllReadyH.cons (o := { dst := some 76, op := _, type := _, pos := _, after := _, guard := _ }) rfl (fun K hK => ?_) AllReadyH.nil)
            have HWD : ∀ o, (w5.alloc o).drew = w5.drew.alloc o := fun _ => rfl
            try rw [HWD]
            clear HWD
            refine Kd.R_append_step Kd.string (w0 := w) w.heap.size ?gBW (.tmp 66) (.tmp 75) 30 9 (.string ⟨#[]⟩) 16 rfl Try.underlying30 info9 rfl (by decide) (by omega) _ ns kx [.string kx] (fun _ => True) (fun _ => False) rfl ?gBX ?gBP (fun _ h => h.elim) (fun _ _ => trivial) ?gBO ?gBB ?gBS ?gBL ?_
            (case gBW => rfl)
            (case gBX => rfl)
            (case gBP => exact rfl)
            (case gBO => exact Kd.R_drew HN6.out)
            (case gBB => exact below_drew BW6.out)
            (case gBS => exact BW6.out.size)
            (case gBL => omega)
            intro v7 w7 hr7 hb7 hg7 hat7
            obtain ⟨A7, c7, hv7, _, _⟩ := Kd.R_reads hr7
            rw [show (ns ++ [kx]).length = ns.length + 1 from by simp] at hv7
            subst hv7
            have HR7 := Aside0.mk hr7
            have HG7 := Aside0.mk hg7
            refine hK.out _ _ hb7 (fun hHeld2 => ?_)
            clear hK K hHeld hr7 hb7 hg7 hat7
            have hHeld := hHeld2
            clear hHeld2
            try simp only [Act.put, List.setIfInBounds_toArray, List.set_cons_zero, List.set_cons_succ]
            have HB7 := Aside0.mk hHeld
            have hD7 := Aside0.mk (DS.grow (DS6.out.kept (below_drew (Below.refl _ _))) HG7.out HB7.out (Kd.R_ne (Kd.R_drew HN6.out) (blk_drew DS6.out.ask) (by decide)) (Kd.R_ne (Kd.R_drew HN6.out) (blk_drew DS6.out.res) (by decide)) (Kd.R_ne (Kd.R_drew HN6.out) (blk_drew DS6.out.out) (by decide)))
            have gp3 : w7.cell? ⟨w1.heap.size, 3, none⟩ = some (.slice AN ns.length cN) := (blk_cell hD7.out.out 3).trans rfl
            have gpz := blk_frozen hD7.out.out 3
            refine wpAnyH_take (i := 12) (oi := { dst := some 77, op := _, type := _, pos := _, after := _, guard := _ }) (v := ?_) rfl (by kernel_rfl) (by kernel_rfl) (by kernel_rfl) (fun _ _ _ h => h) (Or.inl ⟨by rfl, ?_⟩) hHeld ?_
            rotate_left
            · (intro w hSw; go_simp) <;> (with_reducible rfl)
            try simp only [Act.put, List.setIfInBounds_toArray, List.set_cons_zero, List.set_cons_succ]
            refine wpAnyH_ready (rs := [13]) (by kernel_rfl) (by simp) (AllReadyH.cons (o := { dst := none, op := _, type := _, pos := _, after := _, guard := _ }) rfl (fun K hK => ?_) AllReadyH.nil)
            go_simp
            refine hK.out _ _ (bset hHeld hpw 3 _) (fun hHeld2 => ?_)
            clear hK K hHeld
            have hHeld := hHeld2
            clear hHeld2
            try simp only [Act.put, List.setIfInBounds_toArray, List.set_cons_zero, List.set_cons_succ]
            refine wpAnyH_done (by kernel_rfl) ?_ _
            refine NoPanic.normal ?_
            have D8 := Aside0.mk (hD7.out.put 3 (.slice A7 (ns.length + 1) c7) rfl)
            have HR8 := Aside0.mk (Kd.R_set HR7.out hD7.out.out (by decide) 3 (.slice A7 (ns.length + 1) c7))
            generalize w7.setCell ⟨w1.heap.size, 3, none⟩ (.slice A7 (ns.length + 1) c7) = W8 at D8 HR8 ⊢
            clear gp3 gpz HG7 hD7 HR7 HB7
            go_wp2_with fail
            go_roundg (L.length - (i + 1))
            case measure => have := HM.out; omega
            case rel => exact ⟨i + 1, ns ++ [kx], _, by go_num, by omega, by simp; omega, ⟨by omega⟩, ⟨by rw [HSN.out, if_pos hb, HNS.out]⟩, HR8, ⟨D8.out⟩⟩
          · go_simp
            refine hK.out _ _ (below_step hHeld (below_alloc (Below.refl _ _) _)) (fun hHeld2 => ?_)
            clear hK K hHeld
            have hHeld := hHeld2
            clear hHeld2
            try simp only [Act.put, List.setIfInBounds_toArray, List.set_cons_zero, List.set_cons_succ]
            refine wpAnyH_ready (rs := [1]) (by kernel_rfl) (by simp) (AllReadyH.cons (o := { dst := some 66, op := _, type := _, pos := _, after := _, guard := _ }) rfl (fun K hK => ?_) AllReadyH.nil)
            go_simp
            refine hK.out _ _ (hHeld) (fun hHeld2 => ?_)
            clear hK K hHeld
            have hHeld := hHeld2
            clear hHeld2
            try simp only [Act.put, List.setIfInBounds_toArray, List.set_cons_zero, List.set_cons_succ]
            refine wpAnyH_ready (rs := [11]) (by kernel_rfl) (by simp) (AllReadyH.cons (o := { dst := some 76, op := _, type := _, pos := _, after := _, guard := _ }) rfl (fun K hK => ?_) AllReadyH.nil)
            have HWD : ∀ o, (w5.alloc o).drew = w5.drew.alloc o := fun _ => rfl
            try rw [HWD]
            clear HWD
            refine Kd.R_append_step Kd.string (w0 := w) w.heap.size ?gCW (.tmp 66) (.tmp 75) 30 9 (.string ⟨#[]⟩) 16 rfl Try.underlying30 info9 rfl (by decide) (by omega) _ ns kx [.string kx] (fun _ => True) (fun _ => False) rfl ?gCX ?gCP (fun _ h => h.elim) (fun _ _ => trivial) ?gCO ?gCB ?gCS ?gCL ?_
            (case gCW => rfl)
            (case gCX => rfl)
            (case gCP => exact rfl)
            (case gCO => exact Kd.R_drew HN6.out)
            (case gCB => exact below_drew BW6.out)
            (case gCS => exact BW6.out.size)
            (case gCL => omega)
            intro v7 w7 hr7 hb7 hg7 hat7
            obtain ⟨A7, c7, hv7, _, _⟩ := Kd.R_reads hr7
            rw [show (ns ++ [kx]).length = ns.length + 1 from by simp] at hv7
            subst hv7
            have HR7 := Aside0.mk hr7
            have HG7 := Aside0.mk hg7
            refine hK.out _ _ hb7 (fun hHeld2 => ?_)
            clear hK K hHeld hr7 hb7 hg7 hat7
            have hHeld := hHeld2
            clear hHeld2
            try simp only [Act.put, List.setIfInBounds_toArray, List.set_cons_zero, List.set_cons_succ]
            have HB7 := Aside0.mk hHeld
            have hD7 := Aside0.mk (DS.grow (DS6.out.kept (below_drew (Below.refl _ _))) HG7.out HB7.out (Kd.R_ne (Kd.R_drew HN6.out) (blk_drew DS6.out.ask) (by decide)) (Kd.R_ne (Kd.R_drew HN6.out) (blk_drew DS6.out.res) (by decide)) (Kd.R_ne (Kd.R_drew HN6.out) (blk_drew DS6.out.out) (by decide)))
            have gp3 : w7.cell? ⟨w1.heap.size, 3, none⟩ = some (.slice AN ns.length cN) := (blk_cell hD7.out.out 3).trans rfl
            have gpz := blk_frozen hD7.out.out 3
            refine wpAnyH_take (i := 12) (oi := { dst := some 77, op := _, type := _, pos := _, after := _, guard := _ }) (v := ?_) rfl (by kernel_rfl) (by kernel_rfl) (by kernel_rfl) (fun _ _ _ h => h) (Or.inl ⟨by rfl, ?_⟩) hHeld ?_
            rotate_left
            · (intro w hSw; go_simp) <;> (with_reducible rfl)
            try simp only [Act.put, List.setIfInBounds_toArray, List.set_cons_zero, List.set_cons_succ]
            refine wpAnyH_ready (rs := [13]) (by kernel_rfl) (by simp) (AllReadyH.cons (o := { dst := none, op := _, type := _, pos := _, after := _, guard := _ }) rfl (fun K hK => ?_) AllReadyH.nil)
            go_simp
            refine hK.out _ _ (bset hHeld hpw 3 _) (fun hHeld2 => ?_)
            clear hK K hHeld
            have hHeld := hHeld2
            clear hHeld2
            try simp only [Act.put, List.setIfInBounds_toArray, List.set_cons_zero, List.set_cons_succ]
            refine wpAnyH_done (by kernel_rfl) ?_ _
            refine NoPanic.normal ?_
            have D8 := Aside0.mk (hD7.out.put 3 (.slice A7 (ns.length + 1) c7) rfl)
            have HR8 := Aside0.mk (Kd.R_set HR7.out hD7.out.out (by decide) 3 (.slice A7 (ns.length + 1) c7))
            generalize w7.setCell ⟨w1.heap.size, 3, none⟩ (.slice A7 (ns.length + 1) c7) = W8 at D8 HR8 ⊢
            clear gp3 gpz HG7 hD7 HR7 HB7
            go_wp2_with fail
            go_roundg (L.length - (i + 1))
            case measure => have := HM.out; omega
            case rel => exact ⟨i + 1, ns ++ [kx], _, by go_num, by omega, by simp; omega, ⟨by omega⟩, ⟨by rw [HSN.out, if_pos hb, HNS.out]⟩, HR8, ⟨D8.out⟩⟩
      · have hbf : Lib.hasPrefix kx.data.toList k.data.toList = false := by simpa using hb
        rw [hbf]
        go_wp2_with fail
        go_roundg (L.length - (i + 1))
        case measure => have := HM.out; omega
        case rel => exact ⟨i + 1, ns, _, by go_num, by omega, hns, ⟨by omega⟩, ⟨by rw [HSN.out, if_neg hb, HNS.out]⟩, HN6, DS6⟩
    · have HNE := Aside0.mk (show nmsE k L = ns from by
        by_cases h : i < L.length
        · rw [HNS.out]
          exact nmsE_cut k L i (by rw [← HNS.out]; omega)
        · have e : i = L.length := by omega
          subst e
          rw [HNS.out]
          exact nmsE_full k L (by rw [← HNS.out]; exact hns))
      clear gx1 q3
      have p0 : (wr).cell? ⟨w1.heap.size, 0, none⟩ = some (.int .i64 num) := (blk_cell (HD.out.out) 0).trans rfl
      have pz0 := blk_frozen (HD.out.out) 0
      have p1 : (wr).cell? ⟨w1.heap.size, 1, none⟩ = some (.int .i64 0) := (blk_cell (HD.out.out) 1).trans rfl
      have pz1 := blk_frozen (HD.out.out) 1
      have p2 : (wr).cell? ⟨w1.heap.size, 2, none⟩ = some (.slice none 0 0) := (blk_cell (HD.out.out) 2).trans rfl
      have pz2 := blk_frozen (HD.out.out) 2
      have p3 : (wr).cell? ⟨w1.heap.size, 3, none⟩ = some (.slice AN ns.length cN) := (blk_cell (HD.out.out) 3).trans rfl
      have pz3 := blk_frozen (HD.out.out) 3
      have r0 : (wr).cell? ⟨w.heap.size + 1, 0, none⟩ = some (.int .i64 0) := (blk_cell (HD.out.res) 0).trans rfl
      have rz0 := blk_frozen (HD.out.res) 0
      have r1 : (wr).cell? ⟨w.heap.size + 1, 1, none⟩ = some (.int .i64 0) := (blk_cell (HD.out.res) 1).trans rfl
      have rz1 := blk_frozen (HD.out.res) 1
      have r2 : (wr).cell? ⟨w.heap.size + 1, 2, none⟩ = some (.slice none 0 0) := (blk_cell (HD.out.res) 2).trans rfl
      have rz2 := blk_frozen (HD.out.res) 2
      have r3 : (wr).cell? ⟨w.heap.size + 1, 3, none⟩ = some (.slice none 0 0) := (blk_cell (HD.out.res) 3).trans rfl
      have rz3 := blk_frozen (HD.out.res) 3
      have gx1 : wr.cell? ⟨x, 1, none⟩ = some (.slice A' (refL L).length c') := (blk_cell (blk_below HXW.out HD.out.below) 1).trans rfl
      rw [hn] at gx1
      have D4 := HD.out
      by_cases h : i < L.length
      · have hci : (i : Int) < (L.length : Int) := by omega
        have hcn : ¬ (ns.length : Int) < 1000 := by omega
        go_wp2_with fail
        all_goals
          refine bodyPost_ret (results_cell_row rfl _ _ (w.heap.size + 1) 32 _ (0, 0) _ rfl (fill4_res D4.res (.int .i64 num) (.int .i64 0) (.slice none 0 0) (.slice AN ns.length cN)) Try.underlying32 rfl (by kernel_rfl)) rfl ?_
          obtain ⟨F1, F2, F3⟩ := fill4 D4.res (by omega) D4.below (.int .i64 num) (.int .i64 0) (.slice none 0 0) (.slice AN ns.length cN)
          exact ⟨_, _, rfl, Kd.R_nil _ _ _ _ _, by rw [HNE.out]; exact F2 _ _ HN.out, F3⟩
      · have hci : ¬ (i : Int) < (L.length : Int) := by omega
        go_wp2_with fail
        all_goals
          refine bodyPost_ret (results_cell_row rfl _ _ (w.heap.size + 1) 32 _ (0, 0) _ rfl (fill4_res D4.res (.int .i64 num) (.int .i64 0) (.slice none 0 0) (.slice AN ns.length cN)) Try.underlying32 rfl (by kernel_rfl)) rfl ?_
          obtain ⟨F1, F2, F3⟩ := fill4 D4.res (by omega) D4.below (.int .i64 num) (.int .i64 0) (.slice none 0 0) (.slice AN ns.length cN)
          exact ⟨_, _, rfl, Kd.R_nil _ _ _ _ _, by rw [HNE.out]; exact F2 _ _ HN.out, F3⟩
end Go.Proofs.Ytahiadghodhkhaa.Bl
