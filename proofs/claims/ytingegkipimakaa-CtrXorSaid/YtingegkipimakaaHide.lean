/- ctr: the walk of Hide. -/
import Derived.Test.YtingegkipimakaaCt2
import Derived.Laws.MakeOwn
namespace Go.Proofs.Ytingegkipimakaa.Ae
open Go.RowKit Go.Proofs.YtingegkipimakaaW.PrintWords Go.Proofs.YtingegkipimakaaW.PrintLast Go.Proofs.YtingegkipimakaaW.PrintMore Go.Proofs.Ytingegkipimakaa.PA
set_option linter.unusedVariables false
set_option linter.unusedSimpArgs false

theorem Hs.drop1 {p : Nat × TypeId × List Int} {bs : List (Nat × TypeId × List Int)} {w W : World} (h : Hs (p :: bs) w W) : Hs bs w W := ⟨h.below, fun q hq => h.bk q (List.mem_cons_of_mem _ hq)⟩
theorem Hs.swap1 {p q : Nat × TypeId × List Int} {bs : List (Nat × TypeId × List Int)} {w W : World} (h : Hs (p :: q :: bs) w W) : Hs (q :: p :: bs) w W := ⟨h.below, fun r hr => h.bk r (by
  rcases List.mem_cons.1 hr with rfl | hr
  · simp
  · rcases List.mem_cons.1 hr with rfl | hr
    · simp
    · simp [hr])⟩
theorem Bk.grown {W W1 : World} {g : Nat} {t : TypeId} {l : List Int} {row : Option Nat} (h : Bk W g t l) (hg : W.grownBy W1 row) (hn : some g ≠ row) : Bk W1 g t l := by
  unfold Bk
  rw [hg.block g h.lt hn]
  exact h
theorem Hs.grown {bs : List (Nat × TypeId × List Int)} {w W W1 : World} {row : Option Nat} (h : Hs bs w W) (hg : W.grownBy W1 row) (hn : ∀ p ∈ bs, some p.1 ≠ row) (hb : Below w.heap.size w W1) : Hs bs w W1 :=
  ⟨hb, fun p hp => (h.bk p hp).grown hg (hn p hp)⟩
abbrev Own (W : World) (base : Nat) (v : Value) (out : List Int) : Prop := (Kd.int .u8).R 5 W base (fun _ => True) v out
theorem own_ne {W : World} {base g : Nat} {t : TypeId} {v : Value} {l out : List Int} (h : Own W base v out) (hb : Bk W g t l) (ht : (5 : Nat) ≠ t) : some g ≠ v.ownBlock := Kd.R_ne h hb ht
theorem own_row {W : World} {base g : Nat} {t : TypeId} {v : Value} {l out : List Int} (h : Own W base v out) (hb : Bk W g t l) (ht : (5 : Nat) ≠ t) (cs : Array Value) : Own (W.setRow g cs) base v out :=
  Kd.R_mono (Kd.R_step (Kd.R_types h hb (fun q hq => by
    rcases List.mem_cons.1 hq with rfl | hq
    · exact ht
    · cases hq)) (fun k ho _ => setRow_other W g k cs ho.2)) (fun _ _ => trivial)

theorem own_made0 {W : World} {base n : Nat} (Z : Array Value) (hZ : Z.size = n) (hb : base ≤ W.heap.size) (hn : n ≤ 1000) : Own (W.alloc (.cells Z 5)) base (.slice (some ⟨W.heap.size, 0, none⟩) 0 n) [] :=
  ⟨fun _ _ => trivial, [], World.ownsRow_made W Z n hb (by unfold maxLen; omega) (by rw [hZ, show (Kd.int .u8).sz = 1 from rfl, Nat.mul_one]), Reps.none _ _⟩

/-- The block that hides the i-th sixteen bytes. -/
def pad (key fr : List Int) (j : Nat) : List Int := blockL (boxL key) (cntL fr j)
def hb1 (key fr text : List Int) (i : Nat) : Int := Go.bits .xor .u8 (text.getD i 0) ((pad key fr (i / 16)).getD (i % 16) 0)
def hideL (key fr text : List Int) (n : Nat) : List Int := (List.range n).map (hb1 key fr text)
theorem hideL_length (key fr text : List Int) (n : Nat) : (hideL key fr text n).length = n := by simp [hideL]
theorem hideL_zero (key fr text : List Int) : hideL key fr text 0 = [] := rfl
theorem hideL_succ (key fr text : List Int) (n : Nat) : hideL key fr text (n + 1) = hideL key fr text n ++ [hb1 key fr text n] := by simp [hideL, List.range_succ]
theorem rd_getD (xs : List Int) (n : Nat) : rd xs ((n : Nat) : Int) = xs.getD n 0 := by simp [rd, rdOf]

attribute [local irreducible] blockL boxL cntL hideL in
set_option maxHeartbeats 2000000 in
set_option maxRecDepth 20000 in
theorem hide_calls (w : World) (key fr text : List Int) (A : Option Addr) (c : Nat) (hk : key.length = 32) (hkb : By key) (hf : fr.length = 16) (hfb : By fr) (hC : (Kd.int .u8).C w A text.length text) (hc : text.length ≤ c) (ht : text.length ≤ 1000) :
    Calls Try.prog 18 #[.agg (u8s key), .agg (u8s fr), .slice A text.length c] w fun e w' => ∃ v, e = .returned v ∧ Own w' w.heap.size v (hideL key fr text text.length) ∧ Below w.heap.size w w' := by
  obtain ⟨len, hlen⟩ : ∃ n, text.length = n := ⟨_, rfl⟩
  rw [hlen] at hC hc ht ⊢
  have HLEN := Aside0.mk hlen
  have HC := Aside0.mk hC
  have HK := Aside0.mk hk
  have HF := Aside0.mk hf
  have HKB := Aside0.mk hkb
  have HFB := Aside0.mk hfb
  obtain ⟨Z, hZ⟩ : ∃ Z, Z = madeCells #[Value.int .u8 0] len := ⟨_, rfl⟩
  have hmk : ∀ W : World, (Instr.makeSlice 32 (.int .i64 0) (.int .i64 (len : Int))).run Try.prog W = .ok (.slice (some ⟨W.heap.size, 0, none⟩) 0 len) (W.alloc (.cells Z 5)) := by
    intro W
    obtain ⟨i, hi⟩ := Option.isSome_iff_exists.1 (show (Try.prog.info? 5).isSome = true by kernel_rfl)
    have hz : (Try.prog.info? 5).map (fun i => (i.zero, i.size, i.bytes)) = some (some (.int .u8 0), 1, 1) := by kernel_rfl
    rw [hi] at hz
    simp only [Option.map_some, Option.some.injEq, Prod.mk.injEq] at hz
    have e := run_make W 32 5 i (.int .u8 0) Try.underlying32 hi hz.1 .i64 .i64 0 (len : Int) (Int.le_refl _) (by omega) (by rw [hz.2.2]; omega) (by omega)
    rw [hz.2.1, show (Value.int .u8 0).cells = #[Value.int .u8 0] from rfl] at e
    rw [hZ]
    simpa using e
  have HZ := Aside0.mk (show Z.size = len by rw [hZ, size_madeCells])
  have hl0 : (len : Int) ≤ 1000 := by omega
  clear hZ hk hkb hf hfb hC hlen
  have S1 := ((Hs.start w).new 23 key).new 24 fr
  rw [alloc_size] at S1
  have S1 := Aside0.mk S1
  go_enter Try.func18, Try.ntmps18
  go_wp2_with (first | ((with_reducible refine load_bk (o := { dst := some _, op := .load 23 (.tmp 3), type := _, pos := _, after := _, guard := _ }) 23 (.tmp 3) rfl rfl w.heap.size 23 key ?_ arrKey ?_ ?_ ?_); (rfl); (exact (S1.out.at w.heap.size 23 key (by simp))); (exact HK.out)))
  refine (new_calls _ key HK.out HKB.out).mono ?_
  rintro e w3 ⟨gb, rfl, hgb, hbk, hb3⟩
  have S5 := Aside0.mk ((S1.out.call hb3).with hbk)
  have HGB := Aside0.mk (show w.heap.size + 1 < gb by rw [alloc_size, alloc_size] at hgb; omega)
  clear S1 hb3 hbk hgb
  go_wp2_with fail
  have O5 := Aside0.mk (own_made0 (W := w3) Z HZ.out S5.out.below.size ht)
  have S6 := Aside0.mk (S5.out.alloc (.cells Z 5))
  have HZ16 := Aside0.mk zs_length
  clear S5 hmk
  obtain ⟨J, hJ⟩ : ∃ J, J = (len + 15) / 16 := ⟨_, rfl⟩
  have HJ := Aside0.mk hJ
  clear hJ
  go_loopg [8, 9] J (fun kq v8 v9 w' => ∃ (j : Nat), v9 = .int .i64 ((16 * j : Nat) : Int) ∧ Aside0 (j + kq = J) ∧ Aside0 (Own w' w.heap.size v8 (hideL key fr text (if 16 * j < len then 16 * j else len))) ∧ Aside0 (Hs [(gb, 51, boxL key), (w.heap.size + 1, 24, cntL fr j), (w.heap.size, 23, key)] w w'))
  case atStart => exact ⟨0, rfl, ⟨by omega⟩, ⟨by rw [show (if 16 * 0 < len then 16 * 0 else len) = 0 by split <;> omega, hideL_zero]; exact O5.out⟩, ⟨by rw [show ((0 : Nat) : Int) = 0 from rfl, cntL_nought fr HFB.out]; exact S6.out⟩⟩
  case round =>
    clear O5 S6
    obtain ⟨j, rfl, HQ, HO, HS⟩ := hrel
    have hq := HQ.out
    have hjj := HJ.out
    cases gk with
    | zero =>
      have hge : ¬ 16 * j < len := by omega
      have hge2 : ¬ ((16 * j : Nat) : Int) < (len : Int) := by omega
      rw [if_neg hge] at HO
      clear hq hjj
      go_wp2_with fail
      go_ret
      exact ⟨_, rfl, HO.out, HS.out.below⟩
    | succ k1 =>
      have hlt : 16 * j < len := by omega
      have hlt2 : ((16 * j : Nat) : Int) < (len : Int) := by omega
      rw [if_pos hlt] at HO
      obtain ⟨at_, hat⟩ : ∃ a, a = 16 * j := ⟨_, rfl⟩
      rw [← hat] at HO hlt hlt2 ⊢
      have HAT := Aside0.mk hat
      have HCB := Aside0.mk (cntL_by HFB.out (j : Int))
      have HCL := Aside0.mk ((cntL_length fr (j : Int)).trans HF.out)
      obtain ⟨y, hy⟩ : ∃ y, y = pad key fr j := ⟨_, rfl⟩
      have HYL := Aside0.mk (show y.length = 16 by rw [hy, pad, blockL_length])
      have HY := Aside0.mk hy
      clear hq hjj hat hy
      go_wp2_with (first | ((with_reducible refine load_bk (o := { dst := some _, op := .load 24 (.tmp 4), type := _, pos := _, after := _, guard := _ }) 24 (.tmp 4) rfl rfl (w.heap.size + 1) 24 (cntL fr j) ?_ arr16 ?_ ?_ ?_); (rfl); (exact (HS.out.at (w.heap.size + 1) 24 (cntL fr j) (by simp))); (exact HCL.out)))
      refine (block_calls _ gb (boxL key) (cntL fr j) (HS.out.at gb 51 (boxL key) (by simp)) (boxL_length key) (boxL_by HKB.out) HCL.out HCB.out).mono ?_
      rintro e w4 ⟨rfl, hb4⟩
      rw [show blockL (boxL key) (cntL fr j) = y from by rw [HY.out, pad]]
      have S6 := Aside0.mk (HS.out.call hb4)
      have O6 := Aside0.mk (Kd.R_below HO.out hb4)
      have B6 := Aside0.mk (Bk.new w4 24 zs)
      clear HS HO hb4
      go_wp2_with (first | ((with_reducible refine store_bk (o := { dst := none, op := .store 24 (.tmp 10) (.tmp 25), type := _, pos := _, after := _, guard := _ }) 24 (.tmp 10) (.tmp 25) rfl rfl w4.heap.size 24 zs y ?_ ?_ arr16 ?_ ?_ ?_ ?_); (rfl); (rfl); (exact B6.out); (exact HZ16.out); (exact HYL.out)))
      have S7 := Aside0.mk ((S6.out.newRow 24 zs y))
      have O7 := Aside0.mk (own_row (Kd.R_below O6.out ((Below.refl _ _).alloc (Nat.le_refl _) (Obj.cells (u8s zs) 24))) B6.out (by decide) (u8s y))
      clear S6 O6 B6
      obtain ⟨gy, hgy⟩ : ∃ gy, gy = w4.heap.size := ⟨_, rfl⟩
      rw [← hgy] at S7 O7
      rw [← hgy]
      clear hgy
      obtain ⟨m, hm⟩ : ∃ m, m = if at_ + 16 < len then 16 else len - at_ := ⟨_, rfl⟩
      have hm1 : at_ + m ≤ len ∧ m ≤ 16 := by rw [hm]; split <;> omega
      have hm2 : ¬ at_ + m < len ∨ m = 16 := by rw [hm]; split <;> omega
      have HM := Aside0.mk hm
      have HM1 := Aside0.mk hm1
      have HM2 := Aside0.mk hm2
      clear hm hm1 hm2
      go_loopg [8, 11] m (fun kr v8 v11 w' => ∃ (q : Nat), v11 = .int .i64 ((at_ + q : Nat) : Int) ∧ Aside0 (q + kr = m) ∧ Aside0 (Own w' w.heap.size v8 (hideL key fr text (at_ + q))) ∧ Aside0 (Hs [(gy, 24, y), (gb, 51, boxL key), (w.heap.size + 1, 24, cntL fr j), (w.heap.size, 23, key)] w w'))
      case atStart => exact ⟨0, rfl, ⟨by omega⟩, O7, S7⟩
      case round =>
        clear O7 S7
        obtain ⟨q, rfl, HQ2, HO, HS⟩ := hrel
        have hq := HQ2.out
        cases gk with
        | zero =>
          have hqm : q = m := by omega
          subst hqm
          clear hq HQ2
          have e1 := HM1.out
          have e2 := HM2.out
          obtain ⟨n, hn⟩ : ∃ n, n = at_ + q := ⟨_, rfl⟩
          have h1 : (at_ : Int) + 16 ≤ (n : Int) ∨ (len : Int) ≤ (n : Int) := by omega
          have hno : ¬ ((n : Int) < (at_ : Int) + 16 ∧ (n : Int) < (len : Int)) := by omega
          rw [← hn]
          have HNE := Aside0.mk (show (if 16 * (j + 1) < len then 16 * (j + 1) else len) = n by have := HAT.out; split <;> omega)
          rw [← hn] at HO
          have h17 : ((at_ : Int) + 16 ≤ (len : Int) ∧ (at_ : Int) + 16 ≤ (n : Int)) ∨ ((len : Int) < (at_ : Int) + 16 ∧ (len : Int) ≤ (n : Int)) := by omega
          clear e1 e2 h1 hn hno
          rcases h17 with ⟨h16, hA⟩ | ⟨h16, hA⟩
          all_goals
            go_wp2_with (first | ((with_reducible refine load_bk (o := { dst := some _, op := .load 24 (.tmp 4), type := _, pos := _, after := _, guard := _ }) 24 (.tmp 4) rfl rfl (w.heap.size + 1) 24 (cntL fr j) ?_ arr16 ?_ ?_ ?_); (rfl); (exact (HS.out.at (w.heap.size + 1) 24 (cntL fr j) (by simp))); (exact HCL.out)))
            refine (count_calls _ (cntL fr j) 1 HCL.out HCB.out (by omega) (by omega)).mono ?_
            rintro e w6 ⟨rfl, hb6⟩
            rw [cntL_two fr HFB.out HF.out]
            have S8 := Aside0.mk (HS.out.call hb6)
            have O8 := Aside0.mk (Kd.R_below HO.out hb6)
            have HCL2 := Aside0.mk ((cntL_length fr ((j : Int) + 1)).trans HF.out)
            clear HS HO hb6
            go_wp2_with (first | ((with_reducible refine store_bk (o := { dst := none, op := .store 24 (.tmp 4) (.tmp 50), type := _, pos := _, after := _, guard := _ }) 24 (.tmp 4) (.tmp 50) rfl rfl (w.heap.size + 1) 24 (cntL fr j) (cntL fr ((j : Int) + 1)) ?_ ?_ arr16 ?_ ?_ ?_ ?_); (rfl); (rfl); (exact (S8.out.at (w.heap.size + 1) 24 (cntL fr j) (by simp))); (exact HCL.out); (exact HCL2.out)))
            go_roundg k1
            case measure => omega
            case rel =>
              refine ⟨j + 1, by rw [HAT.out]; exact congrArg (Value.int .i64) (by omega), ⟨by have := HQ.out; omega⟩, ⟨?_⟩, ⟨?_⟩⟩
              · rw [HNE.out]
                exact own_row O8.out (S8.out.at (w.heap.size + 1) 24 (cntL fr j) (by simp)) (by decide) _
              · have h1 := ((S8.out.drop1).swap1).row (by omega) (by intro p hp; simp at hp; have := HGB.out; rcases hp with rfl | rfl <;> omega) (cntL fr ((j : Int) + 1))
                exact h1.swap1
        | succ k2 =>
          have e1 := HM1.out
          have hql : q < 16 := by omega
          obtain ⟨n, hn⟩ : ∃ n, n = at_ + q := ⟨_, rfl⟩
          have hn1 : (n : Int) < (len : Int) := by omega
          have hn2 : (n : Int) < (at_ : Int) + 16 := by omega
          have hn3 : 0 ≤ (n : Int) - (at_ : Int) := by omega
          have hq3 : (q : Int) < 16 := by omega
          rw [← hn] at HO
          rw [← hn]
          obtain ⟨ad, had, hcell⟩ := Kd.at_int HC.out (n : Int) (by omega) hn1
          subst had
          rw [rd_getD, Int.toNat_natCast] at hcell
          obtain ⟨tx, htx⟩ : ∃ v, text.getD n 0 = v := ⟨_, rfl⟩
          obtain ⟨yx, hyx⟩ : ∃ v, y.getD q 0 = v := ⟨_, rfl⟩
          rw [htx] at hcell
          have HTX := Aside0.mk htx
          have HYX := Aside0.mk hyx
          clear htx hyx
          have HCE := Aside0.mk hcell
          have HNN := Aside0.mk hn
          have E1 : IntKind.i64.wrap ((n : Int) - (at_ : Int)) = (q : Int) := by rw [IntWalk.i64_in _ (by omega)]; omega
          have HX := Aside0.mk (show hb1 key fr text n = Go.bits .xor .u8 tx yx by
            have := HAT.out
            have h1 : n / 16 = j := by clear E1; omega
            have h2 : n % 16 = q := by clear E1; omega
            unfold hb1
            rw [h1, h2, ← HY.out, HTX.out, HYX.out])
          clear hq e1 hcell hn
          rcases (by clear E1; omega : (at_ : Int) + 16 ≤ (len : Int) ∨ (len : Int) < (at_ : Int) + 16) with h16 | h16
          all_goals
            go_wp2_with fail
            have hS := HS.out.drew
            have OD := Aside0.mk (Kd.R_drew HO.out)
            have HS0 := Aside0.mk hS
            have hne : ∀ p ∈ [(gy, 24, y), (gb, 51, boxL key), (w.heap.size + 1, 24, cntL fr j), (w.heap.size, 23, key)], some p.1 ≠ u8.ownBlock := by
              intro p hp
              refine own_ne OD.out (hS.bk p hp) ?_
              simp at hp
              rcases hp with rfl | rfl | rfl | rfl <;> (dsimp only; decide)
            have HNE := Aside0.mk hne
            clear HS hne
            refine wp_region_noPanic ?_
            refine wp_region_held_drew (S := fun W => Hs [(gy, 24, y), (gb, 51, boxL key), (w.heap.size + 1, 24, cntL fr j), (w.heap.size, 23, key)] w W) (by kernel_rfl) (hS) (fun hHeld => ?_)
            clear hS
            refine wpAnyH_take (i := 0) (oi := { dst := some 36, op := _, type := _, pos := _, after := _, guard := _ }) (v := ?_) rfl (by kernel_rfl) (by kernel_rfl) (by kernel_rfl) (fun _ _ _ h => h) (Or.inl ⟨by rfl, ?_⟩) hHeld ?_
            rotate_left
            · (intro w hSw; go_simp) <;> (with_reducible rfl)
            try simp only [Act.put, List.setIfInBounds_toArray, List.set_cons_zero, List.set_cons_succ]
            refine wpAnyH_take (i := 1) (oi := { dst := some 37, op := _, type := _, pos := _, after := _, guard := _ }) (v := ?_) rfl (by kernel_rfl) (by kernel_rfl) (by kernel_rfl) (fun _ _ _ h => h) (Or.inl ⟨by rfl, ?_⟩) hHeld ?_
            rotate_left
            · (intro w hSw; go_simp) <;> (with_reducible rfl)
            try simp only [Act.put, List.setIfInBounds_toArray, List.set_cons_zero, List.set_cons_succ]
            refine wpAnyH_take (i := 2) (oi := { dst := some 38, op := _, type := _, pos := _, after := _, guard := _ }) (v := ?_) rfl (by kernel_rfl) (by kernel_rfl) (by kernel_rfl) (fun _ _ _ h => h) (Or.inl ⟨by rfl, ?_⟩) hHeld ?_
            rotate_left
            · (intro w hSw; go_simp) <;> (with_reducible rfl)
            try simp only [Act.put, List.setIfInBounds_toArray, List.set_cons_zero, List.set_cons_succ]
            refine wpAnyH_take (i := 3) (oi := { dst := some 39, op := _, type := _, pos := _, after := _, guard := _ }) (v := ?_) rfl (by kernel_rfl) (by kernel_rfl) (by kernel_rfl) (fun _ _ _ h => h) (Or.inl ⟨by rfl, ?_⟩) hHeld ?_
            rotate_left
            · (intro w hSw; go_simp) <;> (with_reducible rfl)
            try simp only [Act.put, List.setIfInBounds_toArray, List.set_cons_zero, List.set_cons_succ]
            refine wpAnyH_take (i := 4) (oi := { dst := some 40, op := _, type := _, pos := _, after := _, guard := _ }) (v := ?_) rfl (by kernel_rfl) (by kernel_rfl) (by kernel_rfl) (fun _ _ _ h => h) (Or.inl ⟨by rfl, ?_⟩) hHeld ?_
            rotate_left
            · (intro w hSw; have cc := (hSw.below.cell (World.block_lt_of_cell? _ _ HCE.out)).trans HCE.out; go_simp) <;> (with_reducible rfl)
            try simp only [Act.put, List.setIfInBounds_toArray, List.set_cons_zero, List.set_cons_succ]
            refine wpAnyH_take (i := 5) (oi := { dst := some 41, op := _, type := _, pos := _, after := _, guard := _ }) (v := ?_) rfl (by kernel_rfl) (by kernel_rfl) (by kernel_rfl) (fun _ _ _ h => h) (Or.inl ⟨by rfl, ?_⟩) hHeld ?_
            rotate_left
            · (intro w hSw; go_simp) <;> (with_reducible rfl)
            try simp only [Act.put, List.setIfInBounds_toArray, List.set_cons_zero, List.set_cons_succ]
            refine wpAnyH_take (i := 6) (oi := { dst := some 42, op := _, type := _, pos := _, after := _, guard := _ }) (v := ?_) rfl (by kernel_rfl) (by kernel_rfl) (by kernel_rfl) (fun _ _ _ h => h) (Or.inl ⟨by rfl, ?_⟩) hHeld ?_
            rotate_left
            · (intro w hSw; go_simp) <;> (with_reducible rfl)
            try simp only [Act.put, List.setIfInBounds_toArray, List.set_cons_zero, List.set_cons_succ]
            refine wpAnyH_take (i := 7) (oi := { dst := some 43, op := _, type := _, pos := _, after := _, guard := _ }) (v := ?_) rfl (by kernel_rfl) (by kernel_rfl) (by kernel_rfl) (fun _ _ _ h => h) (Or.inl ⟨by rfl, ?_⟩) hHeld ?_
            rotate_left
            · (intro w hSw; go_simp) <;> (with_reducible rfl)
            try simp only [Act.put, List.setIfInBounds_toArray, List.set_cons_zero, List.set_cons_succ]
            refine wpAnyH_take (i := 8) (oi := { dst := some 44, op := _, type := _, pos := _, after := _, guard := _ }) (v := ?_) rfl (by kernel_rfl) (by kernel_rfl) (by kernel_rfl) (fun _ _ _ h => h) (Or.inl ⟨by rfl, ?_⟩) hHeld ?_
            rotate_left
            · (intro w hSw; go_simp) <;> (with_reducible rfl)
            try simp only [Act.put, List.setIfInBounds_toArray, List.set_cons_zero, List.set_cons_succ]
            refine wpAnyH_take (i := 9) (oi := { dst := some 45, op := _, type := _, pos := _, after := _, guard := _ }) (v := ?_) rfl (by kernel_rfl) (by kernel_rfl) (by kernel_rfl) (fun _ _ _ h => h) (Or.inl ⟨by rfl, ?_⟩) hHeld ?_
            rotate_left
            · (intro w hSw; have cc := (hSw.at gy 24 y (by simp)).cell q (by rw [HYL.out]; exact hql); rw [HYX.out] at cc; go_simp) <;> (with_reducible rfl)
            try simp only [Act.put, List.setIfInBounds_toArray, List.set_cons_zero, List.set_cons_succ]
            refine wpAnyH_take (i := 10) (oi := { dst := some 46, op := _, type := _, pos := _, after := _, guard := _ }) (v := ?_) rfl (by kernel_rfl) (by kernel_rfl) (by kernel_rfl) (fun _ _ _ h => h) (Or.inl ⟨by rfl, ?_⟩) hHeld ?_
            rotate_left
            · (intro w hSw; go_simp) <;> (with_reducible rfl)
            try simp only [Act.put, List.setIfInBounds_toArray, List.set_cons_zero, List.set_cons_succ]
            clear E1
            refine wpAnyH_ready (rs := [11]) (by kernel_rfl) (by simp) (AllReadyH.cons (o := { dst := some 47, op := _, type := _, pos := _, after := _, guard := _ }) rfl (fun K hK => ?_) AllReadyH.nil)
            go_simp
            refine hK.out _ _ (hHeld.alloc _) (fun hHeld2 => ?_)
            clear hK K hHeld
            have hHeld := hHeld2
            clear hHeld2
            try simp only [Act.put, List.setIfInBounds_toArray, List.set_cons_zero, List.set_cons_succ]
            refine wpAnyH_ready (rs := [12]) (by kernel_rfl) (by simp) (AllReadyH.cons (o := { dst := some 48, op := _, type := _, pos := _, after := _, guard := _ }) rfl (fun K hK => ?_) AllReadyH.nil)
            have HWD : ∀ o, (wr.alloc o).drew = wr.drew.alloc o := fun _ => rfl
            rw [HWD]
            refine Kd.R_append_step (Kd.int .u8) (w0 := w) w.heap.size ?_ (.tmp 36) (.tmp 47) 32 5 (.int .u8 0) 1 rfl Try.underlying32 (by kernel_rfl) rfl (by decide) (by decide) _ (hideL key fr text n) (Go.bits .xor .u8 tx yx) [.int .u8 (Go.bits .xor .u8 tx yx)] (fun _ => True) (fun _ => False) rfl ?_ ?_ ?_ ?_ OD.out ?_ ?_ ?_ ?_
            · rfl
            · rfl
            · rfl
            · exact fun k h => h.elim
            · exact fun _ _ => trivial
            · exact HS0.out.below
            · exact HS0.out.below.size
            · rw [hideL_length]; omega
            intro v1 w1 hr hb1 hg hat
            have HR1 := Aside0.mk hr
            refine hK.out _ _ (HS0.out.grown hg HNE.out hb1) (fun hHeld2 => ?_)
            clear hK K hHeld HS0 OD hr hb1 hg hat HWD
            have hHeld := hHeld2
            clear hHeld2
            try simp only [Act.put, List.setIfInBounds_toArray, List.set_cons_zero, List.set_cons_succ]
            refine wpAnyH_take (i := 13) (oi := { dst := some 8, op := _, type := _, pos := _, after := _, guard := _ }) (v := ?_) rfl (by kernel_rfl) (by kernel_rfl) (by kernel_rfl) (fun _ _ _ h => h) (Or.inl ⟨by rfl, ?_⟩) hHeld ?_
            rotate_left
            · (intro w hSw; go_simp) <;> (with_reducible rfl)
            try simp only [Act.put, List.setIfInBounds_toArray, List.set_cons_zero, List.set_cons_succ]
            refine wpAnyH_done (by kernel_rfl) ?_ _
            refine NoPanic.normal ?_
            go_wp2_with fail
            go_roundg k2
            case measure => omega
            case rel =>
              refine ⟨q + 1, by rw [HNN.out]; exact congrArg (Value.int .i64) (by omega), ⟨by have := HQ2.out; omega⟩, ⟨?_⟩, ⟨hHeld⟩⟩
              rw [show at_ + (q + 1) = n + 1 from by rw [HNN.out]; rfl, hideL_succ, HX.out]
              exact HR1.out

end Go.Proofs.Ytingegkipimakaa.Ae
