import Derived.Test.YtkabjbkefoipnaaDoorGPMa
import Derived.WalkSpells
import Derived.Lib.SliceRun
namespace Go.Proofs.YtkabjbkefoipnaaDoor.Md
open Go.RowKit Go.Proofs.YtkabjbkefoipnaaDoorW.PrintWords Go.Proofs.YtkabjbkefoipnaaDoorW.PrintLast Go.Proofs.YtkabjbkefoipnaaDoorW.PrintMore Go.Proofs.YtkabjbkefoipnaaDoor.PM
set_option linter.unusedVariables false
set_option linter.unusedSimpArgs false
abbrev Bs := Kd.int .u8
abbrev Kn := S25
abbrev Sc := S39
abbrev kK : Kd Kn := k25
abbrev kS : Kd Sc := k39
theorem infoS : (Tryd.prog.info? 39).map (fun i => (i.zero, i.size, i.bytes)) = some (some (.agg #[.string ⟨#[]⟩, .slice none 0 0]), 2, 40) := by kernel_rfl
theorem take_snoc' {α : Type} (L : List α) (i : Nat) (h : i < L.length) : L.take (i + 1) = L.take i ++ [L[i]] := by rw [List.take_add_one, List.getElem?_eq_getElem h]; rfl
theorem alloc_size (w : World) (o : Obj) : (w.alloc o).heap.size = w.heap.size + 1 := by
  show (w.heap.push o).size = _
  exact Array.size_push o
theorem rdK (xs : List Kn) (i : Nat) (h : i < xs.length) : rd_T25 xs (i : Int) = xs[i] := by unfold rd_T25; rw [Int.toNat_natCast, List.getD_eq_getElem?_getD, List.getElem?_eq_getElem h]; rfl
theorem rdS (xs : List Sc) (i : Nat) (h : i < xs.length) : rd_T39 xs (i : Int) = xs[i] := by unfold rd_T39; rw [Int.toNat_natCast, List.getD_eq_getElem?_getD, List.getElem?_eq_getElem h]; rfl
set_option maxHeartbeats 1000000 in
theorem clone_calls (A : Option Addr) (c : Nat) (l : List Int) (w : World) (hr : Bs.C w A l.length l) (hc : l.length ≤ c) (hl : l.length ≤ 140737488355328) :
    Calls Tryd.prog 44 #[.slice A l.length c] w fun e w' => ∃ v, e = .returned v ∧ Bs.R 5 w' w.heap.size (fun _ => True) v l ∧ Below w.heap.size w w' := by
  have hn := Lib.run_eql_slice_nil (P := Tryd.prog) (t := 23) (e := 5)
  cases A with
  | none =>
    have h0 : l = [] := by
      rcases Nat.eq_zero_or_pos l.length with h | h
      · exact List.eq_nil_of_length_eq_zero h
      · obtain ⟨ad, h', _⟩ := (Kd.reads_of_C (enc := Value.int .u8) (d := (0 : Int)) (h1 := fun _ => rfl) hr).2.2 h
        cases h'
    subst h0
    go_enter Tryd.func44, Tryd.ntmps44
    go_wp2
    go_ret
    exact ⟨_, rfl, Kd.R_nil _ _ _ _ _, Below.refl _ _⟩
  | some ad =>
    go_enter Tryd.func44, Tryd.ntmps44
    go_wp2_with (first | ((with_reducible refine gate_builtin (b := .append) (xs := #[.tmp 5, .tmp 6]) rfl ?_); at_builtin; refine Kd.R_append_row (Value.int .u8) (0 : Int) (h1 := fun _ => rfl) (w0 := w) w.heap.size rfl (.tmp 5) (.tmp 6) 23 5 (.int .u8 0) 1 rfl Tryd.underlying23 info5 rfl (by omega) (.slice (some ⟨w.heap.size, 0, none⟩) 0 0) ([] : List Int) l (some ad) l.length c (fun _ => True) rfl rfl (fun _ _ => trivial) ?aO ?aR ?aB ?aS ?aL ?_; (case aO => exact Kd.R_of_own (World.ownsRow_made w #[] 0 (Nat.le_refl _) (Nat.zero_le _) rfl) (fun _ _ => trivial)); (case aR => exact Kd.C_alloc hr _); (case aB => exact below_alloc (Below.refl _ _) _); (case aS => simp); (case aL => simp; omega); intro v1 w1 ho hb hg hat; simp only [List.nil_append] at ho))
    go_ret
    exact ⟨_, rfl, ho, hb⟩
abbrev kv (x : Kn) (v : Value) : Value := .agg #[.int .i64 x.f0, .bool x.f1, v]
abbrev box0 : Array Value := #[.int .i64 0, .bool false, .slice none 0 0]
set_option maxHeartbeats 2000000 in
theorem own_calls (x : Kn) (A : Option Addr) (c : Nat) (w : World) (hr : Bs.C w A x.f2.length x.f2) (hc : x.f2.length ≤ c) (hl : x.f2.length ≤ 140737488355328) :
    Calls Tryd.prog 32 #[kv x (.slice A x.f2.length c)] w fun e w' => ∃ v, e = .returned (kv x v) ∧ Bs.R 5 w' w.heap.size (fun _ => True) v x.f2 ∧ Below w.heap.size w w' := by
  have HR := Aside0.mk hr
  clear hr
  obtain ⟨num, gone, l⟩ := x
  have hO := Aside0.mk (show (Obj.cells #[.int .i64 num, .bool gone, .slice A l.length c] 25) = (Obj.cells #[.int .i64 num, .bool gone, .slice A l.length c] 25) from rfl)
  have K1 := Aside0.mk (blk_alloc (blk_new w (.cells #[.int .i64 num, .bool gone, .slice A l.length c] 25)) (.cells box0 25))
  have hs1 := alloc_size w (.cells #[.int .i64 num, .bool gone, .slice A l.length c] 25)
  have K2 := Aside0.mk (hs1 ▸ blk_new (w.alloc (.cells #[.int .i64 num, .bool gone, .slice A l.length c] 25)) (.cells box0 25))
  have B1 := Aside0.mk (below_alloc (below_alloc (Below.refl w.heap.size w) (.cells #[.int .i64 num, .bool gone, .slice A l.length c] 25)) (.cells box0 25))
  clear hs1 hO
  go_enter Tryd.func32, Tryd.ntmps32
  go_wp2_with fail
  generalize (w.alloc (.cells #[.int .i64 num, .bool gone, .slice A l.length c] 25)).alloc (.cells box0 25) = w1 at K1 K2 B1 ⊢
  refine (clone_calls A c l w1 (Kd.C_below HR.out B1.out) hc hl).mono ?_
  rintro e w2 ⟨v, rfl, hv, hb2⟩
  have B2 := Aside0.mk (B1.out.trans (hb2.mono B1.out.size))
  have K3 := Aside0.mk (blk_below K1.out hb2)
  have K4 := Aside0.mk (blk_below K2.out hb2)
  have HV := Aside0.mk (Kd.R_lower hv B1.out.size)
  obtain ⟨A2, c2, rfl, _, _⟩ := Kd.R_reads hv
  clear hv hb2 K1 K2 B1
  have q0 : w2.cell? ⟨w.heap.size, 0, none⟩ = some (.int .i64 num) := (blk_cell K3.out 0).trans rfl
  have q1 : w2.cell? ⟨w.heap.size, 1, none⟩ = some (.bool gone) := (blk_cell K3.out 1).trans rfl
  have q2 : w2.cell? ⟨w.heap.size, 2, none⟩ = some (.slice A l.length c) := (blk_cell K3.out 2).trans rfl
  have z2 := blk_frozen K3.out 2
  have K5 := Aside0.mk (blk_put K3.out 2 (.slice A2 l.length c2) rfl)
  have K6 := Aside0.mk (blk_far (p := ⟨w.heap.size, 2, none⟩) K4.out (show w.heap.size + 1 ≠ w.heap.size by omega) (.slice A2 l.length c2))
  have d0 : (w2.setCell ⟨w.heap.size, 2, none⟩ (.slice A2 l.length c2)).cell? ⟨w.heap.size, 0, none⟩ = some (.int .i64 num) := (blk_cell K5.out 0).trans rfl
  have d1 : (w2.setCell ⟨w.heap.size, 2, none⟩ (.slice A2 l.length c2)).cell? ⟨w.heap.size, 1, none⟩ = some (.bool gone) := (blk_cell K5.out 1).trans rfl
  have d2 : (w2.setCell ⟨w.heap.size, 2, none⟩ (.slice A2 l.length c2)).cell? ⟨w.heap.size, 2, none⟩ = some (.slice A2 l.length c2) := (blk_cell K5.out 2).trans rfl
  have e0 : (w2.setCell ⟨w.heap.size, 2, none⟩ (.slice A2 l.length c2)).cell? ⟨w.heap.size + 1, 0, none⟩ = some (.int .i64 0) := (blk_cell K6.out 0).trans rfl
  have e1 : (w2.setCell ⟨w.heap.size, 2, none⟩ (.slice A2 l.length c2)).cell? ⟨w.heap.size + 1, 1, none⟩ = some (.bool false) := (blk_cell K6.out 1).trans rfl
  have e2 : (w2.setCell ⟨w.heap.size, 2, none⟩ (.slice A2 l.length c2)).cell? ⟨w.heap.size + 1, 2, none⟩ = some (.slice none 0 0) := (blk_cell K6.out 2).trans rfl
  have x0 := blk_frozen K6.out 0
  have x1 := blk_frozen K6.out 1
  have x2 := blk_frozen K6.out 2
  go_wp2_with fail
  have P1 := blk_put K6.out 0 (.int .i64 num) rfl
  have P2 := blk_put P1 1 (.bool gone) rfl
  have P3 := blk_put P2 2 (.slice A2 l.length c2) rfl
  refine bodyPost_ret (results_cell_row rfl _ _ (w.heap.size + 1) 25 _ (0, 0) _ rfl P3 Tryd.underlying25 rfl (by kernel_rfl)) rfl ?_
  have R7 := Kd.R_set (Kd.R_set (Kd.R_set (Kd.R_set HV.out K3.out (by decide) 2 (.slice A2 l.length c2)) K6.out (by decide) 0 (.int .i64 num)) P1 (by decide) 1 (.bool gone)) P2 (by decide) 2 (.slice A2 l.length c2)
  exact ⟨_, rfl, R7, below_set (below_set (below_set (below_set B2.out (Nat.le_refl _)) (by omega)) (by omega)) (by omega)⟩
set_option maxRecDepth 20000 in
set_option maxHeartbeats 8000000 in
theorem eachK_calls (fn : Nat) (f : Kn → Kn) (xs : List Kn) (A : Option Addr) (c : Nat) (w : World) (hr : kK.C w A xs.length xs) (hc : xs.length ≤ c) (hl : xs.length ≤ 1000)
    (eg : ∀ args W, (callFunc fn args).run Tryd.prog W = .ok (.enter fn args) W)
    (hf : ∀ x, x ∈ xs → ∀ A c W, Bs.C W A x.f2.length x.f2 → x.f2.length ≤ c → Calls Tryd.prog fn #[kv x (.slice A x.f2.length c)] W fun e W' => ∃ v, e = .returned (kv (f x) v) ∧ Bs.R 5 W' W.heap.size (fun _ => True) v (f x).f2 ∧ Below W.heap.size W W') :
    Calls Tryd.prog 31 #[.slice A xs.length c, .func (.func fn) #[] #[]] w fun e w' => ∃ v, e = .returned v ∧ kK.R 25 w' w.heap.size (fun _ => True) v (xs.map f) ∧ Below w.heap.size w w' := by
  have HC := Aside0.mk hr
  have HF := Aside0.mk hf
  clear hr hf
  go_enter Tryd.func31, Tryd.ntmps31
  go_wp2_with fail
  go_loopg [5, 10] xs.length (fun kq v5 v10 w' => ∃ (i : Nat), v10 = .int .i64 i ∧ i ≤ xs.length ∧ Aside0 (kq + i = xs.length) ∧ Aside0 (kK.R 25 w' w.heap.size (fun _ => True) v5 ((xs.take i).map f)) ∧ Aside0 (Below w.heap.size w w'))
  case atStart => exact ⟨0, rfl, Nat.zero_le _, ⟨rfl⟩, ⟨Kd.R_nil _ _ _ _ _⟩, ⟨Below.refl _ _⟩⟩
  case round =>
    obtain ⟨i, rfl, hi, HK, HR, HB⟩ := hrel
    by_cases hlt : i < xs.length
    · have hci : (i : Int) < (xs.length : Int) := by omega
      obtain ⟨ad, A1, c1, e9, hx0, hx1, hx2, hl1, hC1⟩ := at_T25 HC.out i (Int.natCast_nonneg _) hci
      cases e9
      have hx0 := Kd.cell_heap (fun k hk => HB.out.block k hk) hx0
      have hx1 := Kd.cell_heap (fun k hk => HB.out.block k hk) hx1
      have hx2 := Kd.cell_heap (fun k hk => HB.out.block k hk) hx2
      rw [rdK xs i hlt] at hx0 hx1 hx2 hl1 hC1
      have HM := Aside0.mk (List.getElem_mem hlt)
      have HSN := Aside0.mk (show (xs.take (i + 1)).map f = (xs.take i).map f ++ [f xs[i]] by rw [take_snoc' xs i hlt, List.map_append]; rfl)
      generalize xs[i] = x at hx0 hx1 hx2 hl1 hC1 HM HSN
      rw [Int.toNat_natCast] at hx0 hx1 hx2
      have HC1 := Aside0.mk (Kd.C_below hC1 HB.out)
      have HF1 := Aside0.mk (HF.out x HM.out)
      have hwl : IntKind.i64.wrap ((i : Int) + 1) = ((i + 1 : Nat) : Int) := by rw [i64_w]; unfold wrap64; omega
      clear hC1
      obtain ⟨Av, cv, rfl, _, _⟩ := Kd.R_reads HR.out
      have hli : ((xs.take i).map f).length = i := by rw [List.length_map, List.length_take]; omega
      rw [hli] at HR
      have Ob := Aside0.mk (below_alloc (Below.refl wr.heap.size wr) (.cells #[.int .i64 x.f0, .bool x.f1, .slice A1 x.f2.length c1] 25))
      go_wp2_with fail
      generalize wr.alloc (.cells #[.int .i64 x.f0, .bool x.f1, .slice A1 x.f2.length c1] 25) = w4 at Ob ⊢
      refine (HF1.out A1 c1 w4 (Kd.C_below HC1.out Ob.out) hl1).mono ?_
      rintro e w5 ⟨v, rfl, hv, hb5⟩
      have HB5 := Aside0.mk ((HB.out.trans (Ob.out.mono HB.out.size)).trans (hb5.mono (Nat.le_trans HB.out.size Ob.out.size)))
      have HR5 := Aside0.mk (Kd.R_below (Kd.R_below HR.out Ob.out) hb5)
      obtain ⟨inner, hown⟩ := Kd.R_own (Kd.R_below HR.out Ob.out)
      have HV := Aside0.mk (Kd.R_lower (Kd.R_new hv hown) (Nat.le_trans HB.out.size Ob.out.size))
      clear hv hb5 HR HB Ob hown
      go_wp2_with (first | ((with_reducible refine gate_builtin (b := .append) (xs := #[.tmp 14, .tmp 18]) rfl ?_); at_builtin; refine Kd.R_append kK (w0 := w) w.heap.size rfl (.tmp 14) (.tmp 18) 37 25 (.agg #[.int .i64 0, .bool false, .slice none 0 0]) 40 rfl Tryd.underlying37 info25 rfl (by decide) (by omega) _ ((xs.take i).map f) (f x) [.int .i64 (f x).f0, .bool (f x).f1, v] (fun _ => True) (fun k => True ∧ some k ≠ (Value.slice Av i cv).ownBlock) rfl rfl ?aP (fun _ hk => hk) (fun _ _ => trivial) ?aO ?aB ?aS ?aL ?_; (case aP => exact k25_mkM _ _ _ (f x) HV.out); (case aO => exact HR5.out); (case aB => exact HB5.out); (case aS => exact HB5.out.size); (case aL => (simp only [List.length_map, List.length_take]); omega); intro v8 w8 ho hb hg hat; rw [← HSN.out] at ho; have HO8 := Aside0.mk ho; have HB8 := Aside0.mk hb; clear ho hb hg hat) | fail)
      go_roundg (xs.length - (i + 1))
      case measure => have := HK.out; omega
      case rel => exact ⟨i + 1, by first | rfl | (simp [hwl]; done) | rw [hwl], by omega, ⟨by omega⟩, HO8, HB8⟩
    · have hci : ¬ (i : Int) < (xs.length : Int) := by omega
      go_wp2_with fail
      go_ret
      have e : i = xs.length := by omega
      subst e
      exact ⟨_, rfl, by have := HR.out; rwa [List.take_length] at this, HB.out⟩
end Go.Proofs.YtkabjbkefoipnaaDoor.Md
