import Derived.Test.YtkabjbkefoipnaaDoorGMd1
namespace Go.Proofs.YtkabjbkefoipnaaDoor.Md
open Go.RowKit Go.Proofs.YtkabjbkefoipnaaDoorW.PrintWords Go.Proofs.YtkabjbkefoipnaaDoorW.PrintLast Go.Proofs.YtkabjbkefoipnaaDoorW.PrintMore Go.Proofs.YtkabjbkefoipnaaDoor.PM
set_option linter.unusedVariables false
set_option linter.unusedSimpArgs false
abbrev Hdr := Option Addr × Nat × Nat
def hv (h : Hdr) : Value := .slice h.1 h.2.1 h.2.2
def kR : Kd (Sc × Hdr) := Kd.iso (Kd.pair Kd.string (Kd.scalar hv (fun _ => rfl))) (fun p : Sc × Hdr => (p.1.f0, p.2))
theorem kR_mk (w : World) (base : Nat) (ok : Nat → Prop) (p : Sc × Hdr) : kR.M w base ok p [.string p.1.f0, hv p.2] := ⟨[.string p.1.f0], [hv p.2], rfl, rfl, rfl⟩
theorem kR_open {w : World} {p : Sc × Hdr} {cs : List Value} (h : kR.K w p cs) : cs = [.string p.1.f0, hv p.2] := by
  obtain ⟨_, _, rfl, rfl, rfl⟩ := h
  rfl
structure Cp (w : World) (base : Nat) (v : Value) (ps : List (Sc × Hdr)) : Prop where
  row : kR.R 39 w base (fun _ => True) v ps
  ver : ∀ p, p ∈ ps → kK.R 25 w base (fun _ => True) (hv p.2) p.1.f1
  apart : ps.Pairwise fun p q => ∀ b, (hv p.2).ownBlock = some b → (hv q.2).ownBlock ≠ some b
theorem Cp.nil (w : World) (base : Nat) : Cp w base (.slice none 0 0) [] := ⟨Kd.R_nil _ _ _ _ _, fun p h => by simp at h, List.Pairwise.nil⟩
theorem Cp.below {w w' : World} {base : Nat} {v : Value} {ps : List (Sc × Hdr)} (h : Cp w base v ps) (hb : Below w.heap.size w w') : Cp w' base v ps :=
  ⟨Kd.R_below h.row hb, fun p hp => Kd.R_below (h.ver p hp) hb, h.apart⟩
theorem ty_ver : ∀ q, q ∈ 25 :: kK.E → q ≠ 39 := by decide
theorem Cp.reads {w : World} {base : Nat} {v : Value} {ps : List (Sc × Hdr)} (h : Cp w base v ps) : ∃ A c, v = .slice A (ps.map Prod.fst).length c ∧ (ps.map Prod.fst).length ≤ c ∧ kS.C w A (ps.map Prod.fst).length (ps.map Prod.fst) := by
  obtain ⟨A, c, rfl, hc, hr⟩ := Kd.R_reads h.row
  rw [List.length_map]
  refine ⟨A, c, rfl, hc, by rw [List.length_map], hr.2.1, fun hn => ?_⟩
  obtain ⟨ad, e, hcell⟩ := hr.2.2 hn
  refine ⟨ad, e, fun j s hj => ?_⟩
  rw [List.getElem?_map] at hj
  cases hp : ps[j]? with
  | none => rw [hp] at hj; simp at hj
  | some p =>
    rw [hp] at hj
    obtain rfl : p.1 = s := by simpa using hj
    obtain ⟨cs, hs, hk, hu⟩ := hcell j p hp
    obtain rfl := kR_open hk
    obtain ⟨A2, c2, he, hl2, hC2⟩ := Kd.R_reads (h.ver p (List.mem_of_getElem? hp))
    rw [he] at hu
    exact ⟨[.string p.1.f0, .slice A2 p.1.f1.length c2], rfl, k39_mk w p.1 hl2 hC2, hu⟩
abbrev sv (x : Sc) (v : Value) : Value := .agg #[.string x.f0, v]
abbrev box2 : Array Value := #[.string ⟨#[]⟩, .slice none 0 0]
set_option maxRecDepth 20000 in
set_option maxHeartbeats 4000000 in
theorem copy1_calls (x : Sc) (A : Option Addr) (c : Nat) (w : World) (hr : kK.C w A x.f1.length x.f1) (hc : x.f1.length ≤ c) (hl : x.f1.length ≤ 1000) (ht : ∀ y, y ∈ x.f1 → y.f2.length ≤ 100000) :
    Calls Tryd.prog 30 #[sv x (.slice A x.f1.length c)] w fun e w' => ∃ v, e = .returned (sv x v) ∧ kK.R 25 w' w.heap.size (fun _ => True) v x.f1 ∧ Below w.heap.size w w' := by
  have HR := Aside0.mk hr
  have HT := Aside0.mk ht
  clear hr ht
  obtain ⟨name, l⟩ := x
  have K1 := Aside0.mk (blk_alloc (blk_new w (.cells #[.string name, .slice A l.length c] 39)) (.cells box2 39))
  have hs1 := alloc_size w (.cells #[.string name, .slice A l.length c] 39)
  have K2 := Aside0.mk (hs1 ▸ blk_new (w.alloc (.cells #[.string name, .slice A l.length c] 39)) (.cells box2 39))
  have B1 := Aside0.mk (below_alloc (below_alloc (Below.refl w.heap.size w) (.cells #[.string name, .slice A l.length c] 39)) (.cells box2 39))
  clear hs1
  go_enter Tryd.func30, Tryd.ntmps30
  go_wp2_with fail
  generalize (w.alloc (.cells #[.string name, .slice A l.length c] 39)).alloc (.cells box2 39) = w1 at K1 K2 B1 ⊢
  refine (eachK_calls 32 id l A c w1 (Kd.C_below HR.out B1.out) hc hl (fun args W => ?eg) (fun y hy A c W h1 h2 => own_calls y A c W h1 h2 (Nat.le_trans (HT.out y hy) (by decide)))).mono ?_
  case eg => kernel_rfl
  rw [List.map_id]
  rintro e w2 ⟨v, rfl, hv, hb2⟩
  have B2 := Aside0.mk (B1.out.trans (hb2.mono B1.out.size))
  have K3 := Aside0.mk (blk_below K1.out hb2)
  have K4 := Aside0.mk (blk_below K2.out hb2)
  have HV := Aside0.mk (Kd.R_lower hv B1.out.size)
  obtain ⟨A2, c2, rfl, _, _⟩ := Kd.R_reads hv
  clear hv hb2 K1 K2 B1
  have q0 : w2.cell? ⟨w.heap.size, 0, none⟩ = some (.string name) := (blk_cell K3.out 0).trans rfl
  have q1 : w2.cell? ⟨w.heap.size, 1, none⟩ = some (.slice A l.length c) := (blk_cell K3.out 1).trans rfl
  have z1 := blk_frozen K3.out 1
  have K5 := Aside0.mk (blk_put K3.out 1 (.slice A2 l.length c2) rfl)
  have K6 := Aside0.mk (blk_far (p := ⟨w.heap.size, 1, none⟩) K4.out (show w.heap.size + 1 ≠ w.heap.size by omega) (.slice A2 l.length c2))
  have d0 : (w2.setCell ⟨w.heap.size, 1, none⟩ (.slice A2 l.length c2)).cell? ⟨w.heap.size, 0, none⟩ = some (.string name) := (blk_cell K5.out 0).trans rfl
  have d1 : (w2.setCell ⟨w.heap.size, 1, none⟩ (.slice A2 l.length c2)).cell? ⟨w.heap.size, 1, none⟩ = some (.slice A2 l.length c2) := (blk_cell K5.out 1).trans rfl
  have e0 : (w2.setCell ⟨w.heap.size, 1, none⟩ (.slice A2 l.length c2)).cell? ⟨w.heap.size + 1, 0, none⟩ = some (.string ⟨#[]⟩) := (blk_cell K6.out 0).trans rfl
  have e1 : (w2.setCell ⟨w.heap.size, 1, none⟩ (.slice A2 l.length c2)).cell? ⟨w.heap.size + 1, 1, none⟩ = some (.slice none 0 0) := (blk_cell K6.out 1).trans rfl
  have x0 := blk_frozen K6.out 0
  have x1 := blk_frozen K6.out 1
  go_wp2_with fail
  have P1 := blk_put K6.out 0 (.string name) rfl
  have P2 := blk_put P1 1 (.slice A2 l.length c2) rfl
  refine bodyPost_ret (results_cell_row rfl _ _ (w.heap.size + 1) 39 _ (0, 0) _ rfl P2 Tryd.underlying39 rfl (by kernel_rfl)) rfl ?_
  have R7 := Kd.R_set (Kd.R_set (Kd.R_set HV.out K3.out (by decide) 1 (.slice A2 l.length c2)) K6.out (by decide) 0 (.string name)) P1 (by decide) 1 (.slice A2 l.length c2)
  exact ⟨_, rfl, R7, below_set (below_set (below_set B2.out (Nat.le_refl _)) (by omega)) (by omega)⟩
theorem Cp.snoc {w4 w5 w8 : World} {base : Nat} {v v8 : Value} {ps : List (Sc × Hdr)} {x : Sc} {h : Hdr} (hp : Cp w4 base v ps) (hb : Below w4.heap.size w4 w5) (hx : kK.R 25 w5 w4.heap.size (fun _ => True) (hv h) x.f1) (hbase : base ≤ w4.heap.size)
    (ho : kR.R 39 w8 base (fun _ => True) v8 (ps ++ [(x, h)])) (hg : w5.grownBy w8 v.ownBlock) : Cp w8 base v8 (ps ++ [(x, h)]) := by
  have h5 := hp.below hb
  refine ⟨ho, fun p hq => ?_, ?_⟩
  · rcases List.mem_append.1 hq with hq | hq
    · exact Kd.R_mono (Kd.R_grown (Kd.R_apartR (h5.ver p hq) h5.row ty_ver) hg (fun k hk => hk.2)) (fun _ _ => trivial)
    · rw [List.mem_singleton.1 hq]
      exact Kd.R_mono (Kd.R_grown (Kd.R_apartR (Kd.R_lower hx hbase) h5.row ty_ver) hg (fun k hk => hk.2)) (fun _ _ => trivial)
  · refine List.pairwise_append.2 ⟨hp.apart, List.pairwise_singleton _ _, fun p hq q hq2 b hb1 hb2 => ?_⟩
    rw [List.mem_singleton.1 hq2] at hb2
    have h1 := Kd.R_lt (hp.ver p hq) b hb1
    have h2 := Kd.R_base hx b hb2
    omega
set_option maxRecDepth 20000 in
set_option maxHeartbeats 8000000 in
theorem eachS_calls (xs : List Sc) (A : Option Addr) (c : Nat) (w : World) (hr : kS.C w A xs.length xs) (hc : xs.length ≤ c) (hl : xs.length ≤ 1000) (hx : ∀ x, x ∈ xs → x.f1.length ≤ 1000 ∧ ∀ y, y ∈ x.f1 → y.f2.length ≤ 100000) :
    Calls Tryd.prog 29 #[.slice A xs.length c, .func (.func 30) #[] #[]] w fun e w' => ∃ v, e = .returned v ∧ ∃ ps, ps.map Prod.fst = xs ∧ Cp w' w.heap.size v ps ∧ Below w.heap.size w w' := by
  have HC := Aside0.mk hr
  have HF := Aside0.mk hx
  clear hr hx
  have eg : ∀ args W, (callFunc 30 args).run Tryd.prog W = .ok (.enter 30 args) W := fun args W => by kernel_rfl
  go_enter Tryd.func29, Tryd.ntmps29
  go_wp2_with fail
  go_loopg [5, 10] xs.length (fun kq v5 v10 w' => ∃ (i : Nat) (ps : List (Sc × Hdr)), v10 = .int .i64 i ∧ i ≤ xs.length ∧ Aside0 (kq + i = xs.length) ∧ Aside0 (ps.map Prod.fst = xs.take i) ∧ Aside0 (Cp w' w.heap.size v5 ps) ∧ Aside0 (Below w.heap.size w w'))
  case atStart => exact ⟨0, [], rfl, Nat.zero_le _, ⟨rfl⟩, ⟨rfl⟩, ⟨Cp.nil _ _⟩, ⟨Below.refl _ _⟩⟩
  case round =>
    obtain ⟨i, ps, rfl, hi, HK, HPS, HP, HB⟩ := hrel
    by_cases hlt : i < xs.length
    · have hci : (i : Int) < (xs.length : Int) := by omega
      obtain ⟨ad, A1, c1, e9, hx0, hx1, hl1, hC1⟩ := at_T39 HC.out i (Int.natCast_nonneg _) hci
      cases e9
      have hx0 := Kd.cell_heap (fun k hk => HB.out.block k hk) hx0
      have hx1 := Kd.cell_heap (fun k hk => HB.out.block k hk) hx1
      rw [rdS xs i hlt] at hx0 hx1 hl1 hC1
      have hps : (ps.map Prod.fst).length = i := by rw [HPS.out, List.length_take]; omega
      rw [List.length_map] at hps
      have HPL := Aside0.mk hps
      clear hps
      obtain ⟨Av, cv, rfl, _, _⟩ := Kd.R_reads HP.out.row
      have HM := Aside0.mk (List.getElem_mem hlt)
      have HSN := Aside0.mk (show ∀ h : Hdr, (ps ++ [(xs[i], h)]).map Prod.fst = xs.take (i + 1) by intro h; rw [take_snoc' xs i hlt, List.map_append, HPS.out]; rfl)
      generalize xs[i] = x at hx0 hx1 hl1 hC1 HM HSN
      rw [Int.toNat_natCast] at hx0 hx1
      have HC1 := Aside0.mk (Kd.C_below hC1 HB.out)
      have HF1 := Aside0.mk (HF.out x HM.out)
      have hwl : IntKind.i64.wrap ((i : Int) + 1) = ((i + 1 : Nat) : Int) := by rw [i64_w]; unfold wrap64; omega
      clear hC1
      have Ob := Aside0.mk (below_alloc (Below.refl wr.heap.size wr) (.cells #[.string x.f0, .slice A1 x.f1.length c1] 39))
      go_wp2_with fail
      generalize wr.alloc (.cells #[.string x.f0, .slice A1 x.f1.length c1] 39) = w4 at Ob ⊢
      refine (copy1_calls x A1 c1 w4 (Kd.C_below HC1.out Ob.out) hl1 HF1.out.1 HF1.out.2).mono ?_
      rintro e w5 ⟨v, rfl, hv, hb5⟩
      obtain ⟨A2, c2, rfl, _, _⟩ := Kd.R_reads hv
      have HP4 := Aside0.mk (HP.out.below Ob.out)
      have HSZ := Aside0.mk (Nat.le_trans HB.out.size Ob.out.size)
      have HB5 := Aside0.mk ((HB.out.trans (Ob.out.mono HB.out.size)).trans (hb5.mono (Nat.le_trans HB.out.size Ob.out.size)))
      have HR5 := Aside0.mk (HP4.out.below hb5).row
      have HV := Aside0.mk hv
      have HBB := Aside0.mk hb5
      clear hv hb5 HP HB Ob
      go_wp2_with (first | ((with_reducible refine gate_builtin (b := .append) (xs := #[.tmp 14, .tmp 18]) rfl ?_); at_builtin; refine Kd.R_append kR (w0 := w) w.heap.size rfl (.tmp 14) (.tmp 18) 22 39 (.agg #[.string ⟨#[]⟩, .slice none 0 0]) 40 rfl Tryd.underlying22 infoS rfl (by decide) (by omega) _ ps (x, (A2, x.f1.length, c2)) [.string x.f0, .slice A2 x.f1.length c2] (fun _ => True) (fun _ => False) rfl rfl ?aP (fun _ hk => hk.elim) (fun _ _ => trivial) ?aO ?aB ?aS ?aL ?_; (case aP => exact kR_mk _ _ _ (x, (A2, x.f1.length, c2))); (case aO => exact HR5.out); (case aB => exact HB5.out); (case aS => exact HB5.out.size); (case aL => have := HPL.out; omega); intro v8 w8 ho hb hg hat; have HO8 := Aside0.mk (HP4.out.snoc (x := x) (h := (A2, x.f1.length, c2)) HBB.out HV.out HSZ.out ho hg); have HB8 := Aside0.mk hb; clear ho hb hg hat) | fail)
      go_roundg (xs.length - (i + 1))
      case measure => have := HK.out; omega
      case rel => exact ⟨i + 1, ps ++ [(x, (A2, x.f1.length, c2))], by first | rfl | (simp [hwl]; done) | rw [hwl], by omega, ⟨by omega⟩, ⟨HSN.out _⟩, HO8, HB8⟩
    · have hci : ¬ (i : Int) < (xs.length : Int) := by omega
      go_wp2_with fail
      go_ret
      have e : i = xs.length := by omega
      subst e
      exact ⟨_, rfl, ps, by have := HPS.out; rwa [List.take_length] at this, HP.out, HB.out⟩
set_option maxRecDepth 20000 in
theorem Copy_calls (l : List Sc) (A : Option Addr) (c : Nat) (w : World) (hr : kS.C w A l.length l) (hc : l.length ≤ c) (hl : l.length ≤ 1000) (hx : ∀ x, x ∈ l → x.f1.length ≤ 1000 ∧ ∀ y, y ∈ x.f1 → y.f2.length ≤ 100000) :
    Calls Tryd.prog 10 #[.slice A l.length c] w fun e w' => ∃ v, e = .returned v ∧ ∃ ps, ps.map Prod.fst = l ∧ Cp w' w.heap.size v ps ∧ Below w.heap.size w w' := by
  have HE := Aside0.mk (eachS_calls l A c w hr hc hl hx)
  clear hr hx
  go_enter Tryd.func10, Tryd.ntmps10
  go_wp2_with fail
  refine HE.out.mono ?_
  rintro e w1 ⟨v, rfl, ps, h1, h2, h3⟩
  have H2 := Aside0.mk h2
  have H3 := Aside0.mk h3
  clear h2 h3
  obtain ⟨A2, c2, rfl, _⟩ := Kd.R_reads H2.out.row
  go_wp2_with fail
  go_ret
  exact ⟨_, rfl, ps, h1, H2.out, H3.out⟩
end Go.Proofs.YtkabjbkefoipnaaDoor.Md
