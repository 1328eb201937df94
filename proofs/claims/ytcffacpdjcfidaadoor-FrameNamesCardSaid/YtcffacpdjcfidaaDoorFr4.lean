/- frame: the walk of FrameNames. -/
import Derived.Test.YtcffacpdjcfidaaDoorFr3
import Derived.ChangeKeysEq
import Derived.Laws.StructEq
import Derived.Deep.RegionHeld3
import Derived.BigFrame
namespace Go.Proofs.YtcffacpdjcfidaaDoor.Fr
open Go.Lib Go.RowKit Go.Proofs.YtcffacpdjcfidaaDoorW.PrintWords Go.Proofs.YtcffacpdjcfidaaDoorW.PrintLast Go.Proofs.YtcffacpdjcfidaaDoorW.PrintMore Go.Proofs.YtcffacpdjcfidaaDoor.PF
set_option linter.unusedVariables false
set_option linter.unusedSimpArgs false

theorem getD_ext {a b : List Int} (h : a.length = b.length) (e : ∀ j, a.getD j 0 = b.getD j 0) : a = b := by
  apply List.ext_getElem h
  intro j h1 h2
  have := e j
  rw [List.getD_eq_getElem?_getD, List.getD_eq_getElem?_getD, List.getElem?_eq_getElem h1, List.getElem?_eq_getElem h2] at this
  exact this
theorem run_eq_u8 {P : Program} {t e : TypeId} {n : Nat} (hu : P.underlying t = some (.array n e)) (hi : (P.info? e).isSome = true) (hc : P.cellsOf e = 1) (hk : P.plainKey e = true) (hx : ∃ k, P.underlying e = some (.int k)) (a b : List Int) (ha : a.length = n) (hb : b.length = n) (W : World) :
    (Op.equalIn 10000 t (.agg (u8s a)) (.agg (u8s b))).run P W = .ok (decide (a = b)) W := by
  obtain ⟨i, hi'⟩ := Option.isSome_iff_exists.1 hi
  obtain ⟨k, hk'⟩ := hx
  rw [run_equalIn_array W 9999 (u8s a) (u8s b) hu hi', hc]
  have h : ∀ is : List Nat, (∀ j ∈ is, j < n) → (Op.eqItems 9999 e 1 (u8s a) (u8s b) is).run P W = .ok (decide (∀ j ∈ is, a.getD j 0 = b.getD j 0)) W := by
    intro is
    induction is with
    | nil => intro _; simp [Op.eqItems]
    | cons j is ih =>
      intro h
      have hj := h j (List.mem_cons_self ..)
      have p1 : (part e (u8s a) (j * 1)).run P W = .ok (.int .u8 (a.getD j 0)) W := run_part_plain W hk (by simp [u8s, List.getElem?_eq_getElem (ha ▸ hj)])
      have p2 : (part e (u8s b) (j * 1)).run P W = .ok (.int .u8 (b.getD j 0)) W := run_part_plain W hk (by simp [u8s, List.getElem?_eq_getElem (hb ▸ hj)])
      simp only [Op.eqItems, Sem.run_bind, p1, p2, Result.andThen_ok]
      rw [run_equalIn_int W 9998 e .u8 k _ _ hk']
      simp only [Result.andThen_ok]
      by_cases e : a.getD j 0 = b.getD j 0
      · rw [show (a.getD j 0 == b.getD j 0) = true from beq_iff_eq.2 e]
        simp only [Bool.not_true, Bool.false_eq_true, if_false]
        rw [ih (fun q hq => h q (List.mem_cons_of_mem _ hq))]
        simp [List.getD_eq_getElem?_getD] at e ⊢
        simp [e]
      · rw [show (a.getD j 0 == b.getD j 0) = false from beq_eq_false_iff_ne.2 e]
        simp [List.getD_eq_getElem?_getD] at e ⊢
        intro he
        exact absurd he e
  rw [h (List.range n) (fun j hj => List.mem_range.1 hj)]
  congr 1
  rw [decide_eq_decide]
  constructor
  · intro h
    refine getD_ext (ha.trans hb.symm) fun j => ?_
    by_cases hj : j < n
    · exact h j (List.mem_range.2 hj)
    · rw [List.getD_eq_getElem?_getD, List.getD_eq_getElem?_getD, List.getElem?_eq_none (by omega), List.getElem?_eq_none (by omega)]
  · rintro rfl j _; rfl
theorem eqId (a b : List Int) (ha : a.length = 16) (hb : b.length = 16) (W : World) : (Op.equalIn 10000 23 (.agg (u8s a)) (.agg (u8s b))).run Tryd.prog W = .ok (decide (a = b)) W :=
  run_eq_u8 Tryd.underlying23 (by kernel_rfl) (by kernel_rfl) (by kernel_rfl) ⟨_, Tryd.underlying5⟩ a b ha hb W
theorem bytes_inj' {x y : ByteArray} (h : x.data.toList = y.data.toList) : x = y := by
  cases x; cases y
  congr 1
  exact Array.toList_inj.1 h
theorem Bk.range {w : World} {g : Nat} {t : TypeId} {l : List Int} (h : Bk w g t l) : ∀ j v, (l.map (Value.int .u8))[j]? = some v → w.cell? ⟨g, 0 + j, none⟩ = some v := by
  intro j v hv
  rw [cell_of_row w g (0 + j) _ t (0, 0) h]
  simpa [u8s] using hv
theorem take_load {P : Program} {md : Region.Mode} {ops : Array Oper} {Q : Exit → Act → World → Prop} {S : World → Prop} (i : Nat) {oi : Oper} {fuel : Nat} {listed : Array Bool} {a : Act} {w : World} {n : Nat} (hi : ops[i]? = some oi)
    (hs : Region.noSelect ops = true) (hf : Region.free md ops listed i = true) (hr : (Region.ready md ops listed).contains i = true)
    (hQ : ∀ v c a w, Q (.panic c) (a.put oi.dst v) w → Q (.panic c) a w) (ty : TypeId) (x : Operand) (ho : oi.op = .load ty x) (hw : Region.wanted oi (yielded ops a.tmps) = true)
    (g : Nat) (t : TypeId) (l : List Int) (hx : a.eval x = .pointer (some ⟨g, 0, none⟩)) (hA : ArrT P ty n) (hl : l.length = n) (hS : ∀ W, S W → Bk W g t l) (hSw : S w)
    (h : wpAnyH P md ops Q S fuel (listed.setIfInBounds i true) (a.put oi.dst (.agg (u8s l))) w) : wpAnyH P md ops Q S (fuel + 1) listed a w := by
  obtain ⟨d, h1, h2⟩ := hA.und
  exact wpAnyH_take hi hs hf hr (hQ _) (yieldsIf_load_mid hw ty x ho g 0 hx (l.map (Value.int .u8)) d (fun W hW => (hS W hW).range) h1 h2 (by rw [hA.info, List.length_map, hl])) hSw h

theorem load_bkg {P : Program} {ops : Array Oper} {rest : List Oper} {o : Oper} {a : Act} {w : World} {Q : Exit → Act → World → Prop} {n : Nat} (ty : TypeId) (x : Operand) (ho : o.op = .load ty x) (hw : Region.wanted o (yielded ops a.tmps) = true)
    (g : Nat) (t : TypeId) (l : List Int) (hx : a.eval x = .pointer (some ⟨g, 0, none⟩)) (hA : ArrT P ty n) (hg : Bk w g t l) (hl : l.length = n)
    (h : wpList P ops Q rest (a.put o.dst (.agg (u8s l))) w) : wpList P ops Q (o :: rest) a w := by
  obtain ⟨d, h1, h2⟩ := hA.und
  exact BigFrame.wpList_want hw fun _ hK => wp_load_row ty x ho g hx t _ (0, 0) d hg h1 (by cases d <;> first | rfl | cases h2) (by rw [hA.info, u8s_size, hl]) (hK _ _ h)

def nm (l : List Int) (n : Int) : ByteArray := strOfNums (102 :: hexI l ++ [46]) ++ ⟨(Lib.itoa n).toArray⟩
def nats (l : List Int) : List Nat := l.map Int.toNat
theorem hexI_hexL : ∀ (l : List Int), (hexI l).map (fun n => UInt8.ofNat n.toNat) = hexL (nats l)
  | [] => rfl
  | b :: l => by simp only [hexI, List.map_cons, nats, hexL, Int.toNat_natCast]; rw [hexI_hexL l]; rfl
theorem nm_is (l : List Int) (n : Int) : nm l n = ⟨(nameL (nats l) n).toArray⟩ := by
  have h : strOfNums (102 :: hexI l ++ [46]) = ⟨(102 :: hexL (nats l) ++ [46]).toArray⟩ := by
    unfold strOfNums
    rw [List.map_append, List.map_cons, hexI_hexL]
    rfl
  unfold nm nameL
  rw [h, ba_app]
theorem nm_inj (a b : List Int) (n m : Int) (ha : a.length = 16) (hb : b.length = 16) (ha2 : Bytes a) (hb2 : Bytes b) : nm a n = nm b m ↔ a = b ∧ n = m := by
  constructor
  · intro h
    rw [nm_is, nm_is] at h
    have h' : nameL (nats a) n = nameL (nats b) m := by
      have := congrArg (fun x : ByteArray => x.data.toList) h
      simpa using this
    have hx : ∀ l : List Int, Bytes l → ∀ x, x ∈ nats l → x < 256 := by
      intro l hl x hx
      obtain ⟨z, hz, rfl⟩ := List.mem_map.1 hx
      have := hl z hz
      omega
    obtain ⟨h1, h2⟩ := (nameL_inj (nats a) (nats b) n m (by simp [nats, ha]) (by simp [nats, hb]) (hx a ha2) (hx b hb2)).1 h'
    refine ⟨?_, h2⟩
    have hback : ∀ l : List Int, Bytes l → (nats l).map (fun x : Nat => (x : Int)) = l := by
      intro l hl
      unfold nats
      rw [List.map_map]
      conv => rhs; rw [← List.map_id l]
      refine List.map_congr_left fun x hx => ?_
      have := hl x hx
      simp only [Function.comp, id]
      omega
    rw [← hback a ha2, ← hback b hb2, h1]
  · rintro ⟨rfl, rfl⟩; rfl
theorem itoa_12 : Lib.itoa 12 = [49, 50] := by
  unfold Lib.itoa
  rw [if_neg (by decide), show (12 : Int).toNat = 12 from rfl, dec_big (by decide), dec_small (by decide)]
  rfl
theorem nm_ex : nm (List.replicate 16 0) 12 = ⟨#[102, 48, 48, 48, 48, 48, 48, 48, 48, 48, 48, 48, 48, 48, 48, 48, 48, 48, 48, 48, 48, 48, 48, 48, 48, 48, 48, 48, 48, 48, 48, 48, 48, 46, 49, 50]⟩ := by
  unfold nm
  rw [itoa_12]
  decide +kernel

theorem wakes_calls (w : World) (hT : Lib.TabIs Tryd.prog w "internal/strconv.uint64pow10" .u64 Lib.pow10Tab) :
    Calls Tryd.prog 4 #[] w fun e w' => e = .returned (.bool true) ∧ Below w.heap.size w w' := by
  have hN := Name_calls (List.replicate 16 0) 12 rfl (fun x hx => by rw [List.eq_of_mem_replicate hx]; decide) (by decide) (by decide) w hT
  rw [show strOfNums (102 :: hexI (List.replicate 16 0) ++ [46]) ++ ⟨(Lib.itoa 12).toArray⟩ = nm (List.replicate 16 0) 12 from rfl, nm_ex] at hN
  have HN := Aside0.mk hN
  clear hN hT
  go_enter Tryd.func4, Tryd.ntmps4
  go_wp2_with fail
  refine HN.out.mono ?_
  rintro e w1 ⟨rfl, hb1⟩
  have hx : ((⟨#[102, 48, 48, 48, 48, 48, 48, 48, 48, 48, 48, 48, 48, 48, 48, 48, 48, 48, 48, 48, 48, 48, 48, 48, 48, 48, 48, 48, 48, 48, 48, 48, 48, 46, 49, 50]⟩ : ByteArray).extract 33 36) = ⟨#[46, 49, 50]⟩ := by decide +kernel
  go_wp2
  go_ret
  exact ⟨rfl, hb1⟩

set_option maxHeartbeats 8000000 in
set_option maxRecDepth 1000000 in
theorem FrameNames_walk (a : List Int) (hla : a.length = 16) (hwa : ∀ z, z ∈ a → (Lit.int .u8 z).wf = true) (b : List Int) (hlb : b.length = 16) (hwb : ∀ z, z ∈ b → (Lit.int .u8 z).wf = true) (t : List Int) (hlt : t.length = 2) (hwt : ∀ z, z ∈ t → (Lit.int .i64 z).wf = true) (w : World) (hT : Lib.TabIs Tryd.prog w "internal/strconv.uint64pow10" .u64 Lib.pow10Tab) :
    Calls Tryd.prog 3 #[.agg (a.map (Value.int .u8)).toArray, .agg (b.map (Value.int .u8)).toArray, .agg (t.map (Value.int .i64)).toArray] w fun e w' => e = .returned (.bool true) ∧ Below w.heap.size w w' := by
  have hby : ∀ l : List Int, (∀ z, z ∈ l → (Lit.int .u8 z).wf = true) → Bytes l := fun l h x hx => by
    have := h x hx
    simp [Lit.wf, IntKind.min, IntKind.max, IntKind.signed, IntKind.bits] at this
    omega
  have HA := Aside0.mk (hby a hwa)
  have HB := Aside0.mk (hby b hwb)
  obtain ⟨n, m, rfl⟩ : ∃ n m, t = [n, m] := by
    match t, hlt with
    | [n, m], _ => exact ⟨n, m, rfl⟩
  have hwn := hwt n (by simp)
  have hwm := hwt m (by simp)
  simp [Lit.wf, IntKind.min, IntKind.max, IntKind.signed, IntKind.bits] at hwn hwm
  have HN := Aside0.mk (show -9223372036854775808 ≤ n ∧ n ≤ 9223372036854775807 by omega)
  have HM := Aside0.mk (show -9223372036854775808 ≤ m ∧ m ≤ 9223372036854775807 by omega)
  have HT := Aside0.mk hT
  have HINJ := Aside0.mk (nm_inj a b n m hla hlb HA.out HB.out)
  have RN := fun W => refName_calls a n hla HA.out HN.out.1 HN.out.2 W
  have CA := fun W h => Name_calls a n hla HA.out HN.out.1 HN.out.2 W h
  have CB := fun W h => Name_calls b m hlb HB.out HM.out.1 HM.out.2 W h
  rw [show strOfNums (102 :: hexI a ++ [46]) ++ ⟨(Lib.itoa n).toArray⟩ = nm a n from rfl] at RN CA
  rw [show strOfNums (102 :: hexI b ++ [46]) ++ ⟨(Lib.itoa m).toArray⟩ = nm b m from rfl] at CB
  generalize nm a n = x at RN CA HINJ
  generalize nm b m = y at CB HINJ
  have RN := Aside0.mk RN; have CA := Aside0.mk CA; have CB := Aside0.mk CB
  clear hwa hwb hwt hlt hwn hwm hby hT
  show Calls Tryd.prog 3 #[.agg (u8s a), .agg (u8s b), .agg #[.int .i64 n, .int .i64 m]] w _
  have s1 : w.heap.size ≤ (w.alloc (Obj.cells (u8s a) 23)).heap.size := by rw [alloc_size]; omega
  have hS : Below w.heap.size w (((w.alloc (Obj.cells (u8s a) 23)).alloc (Obj.cells (u8s b) 23)).alloc (Obj.cells #[.int .i64 n, .int .i64 m] 24)) ∧ Bk (((w.alloc (Obj.cells (u8s a) 23)).alloc (Obj.cells (u8s b) 23)).alloc (Obj.cells #[.int .i64 n, .int .i64 m] 24)) w.heap.size 23 a ∧ Bk (((w.alloc (Obj.cells (u8s a) 23)).alloc (Obj.cells (u8s b) 23)).alloc (Obj.cells #[.int .i64 n, .int .i64 m] 24)) (w.heap.size + 1) 23 b ∧ (((w.alloc (Obj.cells (u8s a) 23)).alloc (Obj.cells (u8s b) 23)).alloc (Obj.cells #[.int .i64 n, .int .i64 m] 24)).heap[w.heap.size + 1 + 1]? = some (.cells #[.int .i64 n, .int .i64 m] 24 (0, 0)) := by
    refine ⟨?_, ((Bk.new w 23 a).alloc _).alloc _, ?_, ?_⟩
    · exact below_alloc (below_alloc (below_alloc (Below.refl _ _) _) _) _
    · have h := (Bk.new (w.alloc (Obj.cells (u8s a) 23)) 23 b).alloc (Obj.cells #[.int .i64 n, .int .i64 m] 24)
      rw [alloc_size] at h
      exact h
    · have h := blk_new ((w.alloc (Obj.cells (u8s a) 23)).alloc (Obj.cells (u8s b) 23)) (Obj.cells #[.int .i64 n, .int .i64 m] 24)
      rw [alloc_size, alloc_size] at h
      exact h
  clear s1
  go_enter Tryd.func3, Tryd.ntmps3
  go_wp2_with fail
  generalize ((w.alloc (Obj.cells (u8s a) 23)).alloc (Obj.cells (u8s b) 23)).alloc (Obj.cells #[.int .i64 n, .int .i64 m] 24) = W0 at hS ⊢
  refine (wakes_calls W0 (tab_back HT.out hS.1)).mono ?_
  rintro e w1 ⟨rfl, hb⟩
  have HS := Aside0.mk (show Below w.heap.size w w1 ∧ Bk w1 w.heap.size 23 a ∧ Bk w1 (w.heap.size + 1) 23 b ∧ w1.heap[w.heap.size + 1 + 1]? = some (.cells #[.int .i64 n, .int .i64 m] 24 (0, 0)) from ⟨hS.1.trans (hb.mono hS.1.size), hS.2.1.below hb (Bk.lt hS.2.1), hS.2.2.1.below hb (Bk.lt hS.2.2.1), blk_below hS.2.2.2 hb⟩)
  clear hS hb
  go_wp2_with fail
  refine wp_region_noPanic ?_
  refine wp_region_held_drew (S := fun W => Below w.heap.size w W ∧ Bk W w.heap.size 23 a ∧ Bk W (w.heap.size + 1) 23 b ∧ W.heap[w.heap.size + 1 + 1]? = some (.cells #[.int .i64 n, .int .i64 m] 24 (0, 0))) (by kernel_rfl) (⟨HS.out.1.drew, HS.out.2.1, HS.out.2.2.1, HS.out.2.2.2⟩) (fun hHeld => ?_)
  refine take_load 0 (oi := { dst := some 11, op := _, type := _, pos := _, after := _, guard := _ }) rfl (by kernel_rfl) (by kernel_rfl) (by kernel_rfl) (fun _ _ _ _ h => h) 23 (.tmp 3) rfl (by rfl) w.heap.size 23 a (by rfl) arrId hla (fun W h => h.2.1) hHeld ?_
  try simp only [Act.put, List.setIfInBounds_toArray, List.set_cons_zero, List.set_cons_succ]
  refine wpAnyH_take (i := 1) (oi := { dst := some 12, op := _, type := _, pos := _, after := _, guard := _ }) (v := ?_) rfl (by kernel_rfl) (by kernel_rfl) (by kernel_rfl) (fun _ _ _ h => h) (Or.inl ⟨by rfl, ?_⟩) hHeld ?_
  rotate_left
  · (intro w hSw; go_simp) <;> (with_reducible rfl)
  try simp only [Act.put, List.setIfInBounds_toArray, List.set_cons_zero, List.set_cons_succ]
  refine wpAnyH_take (i := 2) (oi := { dst := some 13, op := _, type := _, pos := _, after := _, guard := _ }) (v := ?_) rfl (by kernel_rfl) (by kernel_rfl) (by kernel_rfl) (fun _ _ _ h => h) (Or.inl ⟨by rfl, ?_⟩) hHeld ?_
  rotate_left
  · (intro w hSw; have cc := (blk_cell hSw.2.2.2 0).trans rfl; go_simp) <;> (with_reducible rfl)
  try simp only [Act.put, List.setIfInBounds_toArray, List.set_cons_zero, List.set_cons_succ]
  refine take_load 4 (oi := { dst := some 15, op := _, type := _, pos := _, after := _, guard := _ }) rfl (by kernel_rfl) (by kernel_rfl) (by kernel_rfl) (fun _ _ _ _ h => h) 23 (.tmp 4) rfl (by rfl) (w.heap.size + 1) 23 b (by rfl) arrId hlb (fun W h => h.2.2.1) hHeld ?_
  try simp only [Act.put, List.setIfInBounds_toArray, List.set_cons_zero, List.set_cons_succ]
  refine wpAnyH_take (i := 5) (oi := { dst := some 16, op := _, type := _, pos := _, after := _, guard := _ }) (v := ?_) rfl (by kernel_rfl) (by kernel_rfl) (by kernel_rfl) (fun _ _ _ h => h) (Or.inl ⟨by rfl, ?_⟩) hHeld ?_
  rotate_left
  · (intro w hSw; go_simp) <;> (with_reducible rfl)
  try simp only [Act.put, List.setIfInBounds_toArray, List.set_cons_zero, List.set_cons_succ]
  refine wpAnyH_take (i := 6) (oi := { dst := some 17, op := _, type := _, pos := _, after := _, guard := _ }) (v := ?_) rfl (by kernel_rfl) (by kernel_rfl) (by kernel_rfl) (fun _ _ _ h => h) (Or.inl ⟨by rfl, ?_⟩) hHeld ?_
  rotate_left
  · (intro w hSw; have cc := (blk_cell hSw.2.2.2 1).trans rfl; go_simp) <;> (with_reducible rfl)
  try simp only [Act.put, List.setIfInBounds_toArray, List.set_cons_zero, List.set_cons_succ]
  refine wpAnyH_ready (rs := [3]) (by kernel_rfl) (by simp) (AllReadyH.cons (o := { dst := some 14, op := _, type := _, pos := _, after := _, guard := _ }) rfl (fun K hK => ?_) AllReadyH.nil)
  go_simp
  refine (CA.out _ (tab_back HT.out hHeld.1)).mono ?_
  rintro e w2 ⟨rfl, hb⟩
  refine hK.out _ _ (⟨hHeld.1.trans (hb.mono hHeld.1.size), hHeld.2.1.below hb (Bk.lt hHeld.2.1), hHeld.2.2.1.below hb (Bk.lt hHeld.2.2.1), blk_below hHeld.2.2.2 hb⟩) (fun hHeld2 => ?_)
  clear hK K hHeld
  have hHeld := hHeld2
  clear hHeld2
  try simp only [Act.put, List.setIfInBounds_toArray, List.set_cons_zero, List.set_cons_succ]
  refine wpAnyH_ready (rs := [7]) (by kernel_rfl) (by simp) (AllReadyH.cons (o := { dst := some 18, op := _, type := _, pos := _, after := _, guard := _ }) rfl (fun K hK => ?_) AllReadyH.nil)
  go_simp
  refine (CB.out _ (tab_back HT.out hHeld.1)).mono ?_
  rintro e w3 ⟨rfl, hb⟩
  refine hK.out _ _ (⟨hHeld.1.trans (hb.mono hHeld.1.size), hHeld.2.1.below hb (Bk.lt hHeld.2.1), hHeld.2.2.1.below hb (Bk.lt hHeld.2.2.1), blk_below hHeld.2.2.2 hb⟩) (fun hHeld2 => ?_)
  clear hK K hHeld
  have hHeld := hHeld2
  clear hHeld2
  try simp only [Act.put, List.setIfInBounds_toArray, List.set_cons_zero, List.set_cons_succ]
  refine wpAnyH_take (i := 8) (oi := { dst := some 7, op := _, type := _, pos := _, after := _, guard := _ }) (v := ?_) rfl (by kernel_rfl) (by kernel_rfl) (by kernel_rfl) (fun _ _ _ h => h) (Or.inl ⟨by rfl, ?_⟩) hHeld ?_
  rotate_left
  · (intro w hSw; go_simp) <;> (with_reducible rfl)
  try simp only [Act.put, List.setIfInBounds_toArray, List.set_cons_zero, List.set_cons_succ]
  refine wpAnyH_take (i := 9) (oi := { dst := some 8, op := _, type := _, pos := _, after := _, guard := _ }) (v := ?_) rfl (by kernel_rfl) (by kernel_rfl) (by kernel_rfl) (fun _ _ _ h => h) (Or.inl ⟨by rfl, ?_⟩) hHeld ?_
  rotate_left
  · (intro w hSw; go_simp) <;> (with_reducible rfl)
  try simp only [Act.put, List.setIfInBounds_toArray, List.set_cons_zero, List.set_cons_succ]
  refine wpAnyH_done (by kernel_rfl) ?_ _
  refine NoPanic.normal ?_
  have HS3 := Aside0.mk hHeld
  clear HS hHeld
  have c0 : w3.cell? ⟨w.heap.size + 1 + 1, 0, none⟩ = some (.int .i64 n) := (blk_cell HS3.out.2.2.2 0).trans rfl
  go_wp2_with ((with_reducible refine load_bk (o := { dst := some _, op := .load 23 (.tmp 3), type := _, pos := _, after := _, guard := none }) 23 (.tmp 3) rfl rfl w.heap.size 23 a ?_ arrId ?_ ?_ ?_); (rfl); (exact HS3.out.2.1); (exact hla))
  refine (RN.out _).mono ?_
  rintro e w4 ⟨rfl, hb⟩
  have HS4 := Aside0.mk (show Below w.heap.size w w4 ∧ Bk w4 w.heap.size 23 a ∧ Bk w4 (w.heap.size + 1) 23 b ∧ w4.heap[w.heap.size + 1 + 1]? = some (.cells #[.int .i64 n, .int .i64 m] 24 (0, 0)) from ⟨HS3.out.1.trans (hb.mono HS3.out.1.size), HS3.out.2.1.below hb (Bk.lt HS3.out.2.1), HS3.out.2.2.1.below hb (Bk.lt HS3.out.2.2.1), blk_below HS3.out.2.2.2 hb⟩)
  clear c0 hb HS3 RN
  have c0 : w4.cell? ⟨w.heap.size + 1 + 1, 0, none⟩ = some (.int .i64 n) := (blk_cell HS4.out.2.2.2 0).trans rfl
  have c1 : w4.cell? ⟨w.heap.size + 1 + 1, 1, none⟩ = some (.int .i64 m) := (blk_cell HS4.out.2.2.2 1).trans rfl
  have heq := fun W => eqId a b hla hlb W
  have hbeq : (x.toList == y.toList) = decide (a = b ∧ n = m) := by
    rw [ByteArray.toList_eq, ByteArray.toList_eq]
    by_cases h : a = b ∧ n = m
    · rw [decide_eq_true h, beq_iff_eq, HINJ.out.2 h]
    · rw [decide_eq_false h, beq_eq_false_iff_ne]
      intro he
      exact h (HINJ.out.1 (bytes_inj' he))
  by_cases hab : a = b
  · rw [decide_eq_true hab] at heq
    by_cases hnm : n = m
    · subst hnm
      have hb2 : (x.toList == y.toList) = true := by rw [hbeq]; exact decide_eq_true ⟨hab, rfl⟩
      clear hbeq HINJ hab
      go_wp2_with (first | ((with_reducible refine load_bkg (o := { dst := some _, op := .load 23 (.tmp 3), type := _, pos := _, after := _, guard := some _ }) 23 (.tmp 3) rfl ?_ w.heap.size 23 a ?_ arrId ?_ ?_ ?_); (rfl); (rfl); (exact HS4.out.2.1); (exact hla)) | ((with_reducible refine load_bkg (o := { dst := some _, op := .load 23 (.tmp 4), type := _, pos := _, after := _, guard := some _ }) 23 (.tmp 4) rfl ?_ (w.heap.size + 1) 23 b ?_ arrId ?_ ?_ ?_); (rfl); (rfl); (exact HS4.out.2.2.1); (exact hlb)))
      go_ret
      exact ⟨by first | rfl | (simp [hb2]), HS4.out.1⟩
    · have hb2 : (x.toList == y.toList) = false := by rw [hbeq]; exact decide_eq_false (fun h => hnm h.2)
      have hn1 : (n == m) = false := by rw [beq_eq_false_iff_ne]; exact hnm
      clear hbeq HINJ hab
      go_wp2_with (first | ((with_reducible refine load_bkg (o := { dst := some _, op := .load 23 (.tmp 3), type := _, pos := _, after := _, guard := some _ }) 23 (.tmp 3) rfl ?_ w.heap.size 23 a ?_ arrId ?_ ?_ ?_); (rfl); (rfl); (exact HS4.out.2.1); (exact hla)) | ((with_reducible refine load_bkg (o := { dst := some _, op := .load 23 (.tmp 4), type := _, pos := _, after := _, guard := some _ }) 23 (.tmp 4) rfl ?_ (w.heap.size + 1) 23 b ?_ arrId ?_ ?_ ?_); (rfl); (rfl); (exact HS4.out.2.2.1); (exact hlb)))
      go_ret
      exact ⟨by first | rfl | (simp [hb2]), HS4.out.1⟩
  · rw [decide_eq_false hab] at heq
    have hb2 : (x.toList == y.toList) = false := by rw [hbeq]; exact decide_eq_false (fun h => hab h.1)
    clear hbeq HINJ hab
    go_wp2_with (first | ((with_reducible refine load_bkg (o := { dst := some _, op := .load 23 (.tmp 3), type := _, pos := _, after := _, guard := some _ }) 23 (.tmp 3) rfl ?_ w.heap.size 23 a ?_ arrId ?_ ?_ ?_); (rfl); (rfl); (exact HS4.out.2.1); (exact hla)) | ((with_reducible refine load_bkg (o := { dst := some _, op := .load 23 (.tmp 4), type := _, pos := _, after := _, guard := some _ }) 23 (.tmp 4) rfl ?_ (w.heap.size + 1) 23 b ?_ arrId ?_ ?_ ?_); (rfl); (rfl); (exact HS4.out.2.2.1); (exact hlb)))
    go_ret
    exact ⟨by first | rfl | (simp [hb2]), HS4.out.1⟩

end Go.Proofs.YtcffacpdjcfidaaDoor.Fr
