import Derived.Test.YtpkfeepepbchlaaGBa
import Derived.Test.YtpkfeepepbchlaaGShelf
import Derived.Sort.OwnSorted
namespace Go.Proofs.Ytpkfeepepbchlaa.Bl
open Go.RowKit Go.Maps Go.Sort Go.Proofs.YtpkfeepepbchlaaW.PrintWords Go.Proofs.YtpkfeepepbchlaaW.PrintLast Go.Proofs.YtpkfeepepbchlaaW.PrintMore Go.Proofs.Ytpkfeepepbchlaa.PK
set_option linter.unusedVariables false
set_option linter.unusedSimpArgs false
theorem info9 : (Try.prog.info? 9).map (fun i => (i.zero, i.size, i.bytes)) = some (some (.string ⟨#[]⟩), 1, 16) := by kernel_rfl
def keysE (L : List Ent) : List (List UInt8) := L.map fun x => x.1.data.toList
theorem strKeys_is (L : List Ent) : strKeys (datB L) = keysE L := by
  unfold strKeys datB keysE
  simp only [List.map_map]
  apply List.map_congr_left
  intro x _
  rfl
theorem before_le : ∀ a b : List UInt8, (Lit.string a).before (Lit.string b) = true → a ≤ b
  | [], b, _ => List.nil_le _
  | a :: r, [], h => by simp [Lit.before, bytesBefore] at h
  | a :: r, b :: s, h => by
    have h' : (a < b || (a == b && bytesBefore r s)) = true := h
    simp only [Bool.or_eq_true, Bool.and_eq_true, decide_eq_true_eq, beq_iff_eq] at h'
    rw [List.cons_le_cons_iff]
    rcases h' with h' | ⟨rfl, h'⟩
    · exact .inl h'
    · exact .inr ⟨rfl, before_le r s h'⟩
theorem Bl.rising {w : World} {g b : Nat} {q : Int} {L : List Ent} (h : Bl w g b q L) : DataW.rising (L.map entL) = true := by
  obtain ⟨es, cl, hb, F, hs, hD⟩ := h.map
  have : L.map entL = (es.toList.map (WideElems.rg Try.prog 9 hdr)).foldr DataW.insert [] := by
    unfold datB at hD
    injection hD
  rw [this]
  exact Maps.fit_rising law F
theorem rising_pair {l : List Ent} : DataW.rising (l.map entL) = true → (keysE l).Pairwise fun a b => a ≤ b := by
  induction l with
  | nil => intro _; exact List.Pairwise.nil
  | cons x r ih =>
    intro h
    cases r with
    | nil => exact List.pairwise_singleton _ _
    | cons y s =>
      have h' : (entL x).1.before (entL y).1 = true ∧ DataW.rising ((y :: s).map entL) = true := by
        simpa [DataW.rising] using h
      have ihs := ih h'.2
      refine List.pairwise_cons.2 ⟨fun z hz => ?_, ihs⟩
      have hxy : x.1.data.toList ≤ y.1.data.toList := before_le _ _ h'.1
      rcases List.mem_cons.1 hz with rfl | hz
      · exact hxy
      · exact List.le_trans hxy ((List.pairwise_cons.1 ihs).1 z hz)
theorem sorted_is {w : World} {g b : Nat} {q : Int} {L : List Ent} (h : Bl w g b q L) {ss : List (List UInt8)} (hp : ss.Perm (strKeys (datB L))) : ss.mergeSort (fun x y => decide (x ≤ y)) = keysE L := by
  have h1 := mergeSort_of_perm hp
  have h2 : (strKeys (datB L)).mergeSort leB = keysE L := by
    rw [strKeys_is]
    refine List.mergeSort_of_pairwise ?_
    exact (rising_pair h.rising).imp fun h => by simpa using h
  exact h1.trans h2
theorem keysE_enc (L : List Ent) : (keysE L).map encStr = L.map fun x => Value.string x.1 := by
  unfold keysE
  rw [List.map_map]
  apply List.map_congr_left
  intro x _
  simp [encStr]
theorem Sort_calls (v : Value) (w : World) (base : Nat) (ss : List (List UInt8)) (hrow : w.ownsRow base 9 1 v ss.length (ss.map encStr)) (hl : ss.length ≤ 100000) :
    Calls Try.prog 72 #[v] w fun e w' => e = .returned (.tuple #[]) ∧ w'.ownsRow base 9 1 v ss.length ((ss.mergeSort fun x y => decide (x ≤ y)).map encStr) ∧ w.grownBy w' v.ownBlock := by
  rcases hrow.2 with ⟨hnil, h0⟩ | ⟨gr, cap, cur, rfl, hbase, hbk, h1, h2, h3, h4⟩
  · subst hnil
    have hss : ss = [] := List.eq_nil_of_length_eq_zero h0
    subst hss
    refine (Try.slices_Sort_string_none none 0 w).mono ?_
    rintro e w' ⟨rfl, rfl⟩
    exact ⟨rfl, by simpa using World.ownsRow_nil _ _ _ _, grown_none (Below.refl _ _)⟩
  · have hH : Holds encStr w gr 0 ss.toArray := holds_of_block hbk (by simpa using h4)
    have hgl : gr < w.heap.size := (Array.getElem?_eq_some_iff.1 hbk).1
    refine (Try.slices_Sort_string gr 0 cap ss w hH hgl (by omega)).mono ?_
    rintro e w' ⟨rfl, nn, os, rfl⟩
    exact ⟨rfl, ownsRow_sorted (by simp) hbase hbk h1 h2 h3, grownBy_sorted _⟩
set_option maxRecDepth 20000 in
set_option maxHeartbeats 2000000 in
theorem Names_calls (g b : Nat) (q : Int) (L : List Ent) (w : World) (h : Bl w g b q L) (hl : L.length ≤ 100000) :
    Calls Try.prog 66 #[.pointer (some ⟨g, 0, none⟩)] w fun e w' => ∃ v, e = .returned v ∧ w'.ownsRow w.heap.size 9 1 v L.length (L.map fun x => Value.string x.1) ∧ Below w.heap.size w w' := by
  obtain ⟨i0, hi, hz0, hz1, hz2⟩ := info_parts info9
  have hmap := h.map
  have hbl := h.map.lt
  have HH := Aside0.mk h
  have hsz : Maps.size (datB L) = L.length := by simp [Maps.size, datB]
  have c1 : w.cell? ⟨g, 1, none⟩ = some (.map (some b)) := (blk_cell h.blk 1).trans rfl
  clear h
  go_enter Try.func66, Try.ntmps66
  go_wp2_with (first | (at_range; refine wpList_range_own _ rfl _ 66 rfl 9 28 law Try.underlying66 _ b L.length _ rfl hmap ?_; intro w0 hrg0 hg0 hs0) | go_in)
  go_frame
  go_loopw [3] (fun v wr => ∃ (left : Lit → Bool) (cnt : Nat) (ss : List (List UInt8)), wr.ranges Try.prog 9 hdr b w.heap.size L.length (datB L) left cnt ∧ ss.length + cnt ≤ L.length ∧
      wr.ownsRow w.heap.size 9 1 v ss.length (ss.map encStr) ∧ Collected (datB L) left ss ∧ Below w.heap.size w wr)
    (fun _ wr => wr.rangeLeft b w.heap.size)
  case atStart => exact ⟨_, _, [], hrg0, by simp [hsz], World.ownsRow_nil _ _ _ _, Collected.start _, ⟨hg0.os, hg0.tape, hg0.output, hg0.size, fun i hi => hg0.block i hi (by simp)⟩⟩
  case round =>
    obtain ⟨left, cnt, ss, hrg, hcs, hrow, hC, hb⟩ := hrel
    go_wp2_with (first
      | (at_next; refine wpList_next_ranges _ rfl _ rfl 9 law hdr Value.string mkV invK hdr_inv b w.heap.size L.length _ _ _ rfl hrg ?_ ?_)
      | go_in)
    · intro hc0 hl0
      have hperm := hC.perm hrg.owns law Try.underlying9 hl0
      have hlen : ss.length = L.length := by rw [hperm.length_eq, strKeys_is]; simp [keysE]
      have hsort := sorted_is HH.out hperm
      have hcall := Sort_calls _ wr w.heap.size ss hrow (by omega)
      have HB := Aside0.mk hb
      have hlo := Aside0.mk (fun j hj => (hrow.lt j hj).1)
      clear hrg hrow hb hC hperm
      go_wp2_with fail
      refine hcall.mono ?_
      rintro e w' ⟨rfl, ho, hg⟩
      have HO := Aside0.mk ho
      have HG := Aside0.mk (HB.out.grown hg HB.out.size hlo.out)
      clear ho hg
      go_wp2_with fail
      go_ret
      refine ⟨_, rfl, ?_, HG.out⟩
      have ho := HO.out
      rw [hsort, hlen, keysE_enc] at ho
      exact ho
    · intro x A n cc kl yd yp w2 cnt2 hkey hlk hv hat hrg2 hlt hg2 hs2 hen
      obtain ⟨rfl, hxl⟩ := keyOf_inv x kl hkey
      have hrow2 := hrow.kept hg2 (Or.inr (row_ne_iter hrow hrg).symm)
      have hC2 := hC.step (x := x.data.toList) hlk hat
      have H1 := Aside0.mk hrg2
      have H2 := Aside0.mk hrg
      have HB := Aside0.mk (hb.grown hg2 hb.size (fun j hj => by cases hj; exact Nat.le_refl _))
      have HC := Aside0.mk hC2
      have hwz := hb.size
      have hwz2 := hg2.size
      clear hs2 hrg2 hrg hat hv hC hC2 hb
      simp only [mkV] at hen ⊢
      go_wp2_with (first
        | (at_builtin; refine wpList_append_own _ rfl _ _ 34 rfl w.heap.size 9 i0 (.string ⟨#[]⟩) 1 16 Try.underlying34 hi hz0 hz1 hz2 rfl (by decide) _ _ _ rfl (hrow2.alloc _) ⟨w2.heap.size, 0, none⟩ 1 1 [.string x] rfl rfl (cell_one_new _ _ _) (by simp [Value.oneCell']) (by unfold maxLen at *; omega) (by omega) (by simp; omega) ?_; intro v' w3 hown' hg3 hnil3; go_frame)
        | go_in)
      have hrg3 := (H1.out.alloc _).kept hg3 (row_ne_low hrow2 hbl) (row_ne_iter hrow2 H1.out)
      go_roundw
      case rel => exact ⟨_, cnt2, ss ++ [x.data.toList], hrg3, by simp; omega, by simpa [encStr] using hown', HC.out, (HB.out.alloc (by omega) _).grown hg3 (by simp; omega) (fun j hj => (hrow2.lt j hj).1)⟩
      case measure => rw [hrg3.left_eq, H2.out.left_eq]; exact hlt
end Go.Proofs.Ytpkfeepepbchlaa.Bl
namespace Go.Proofs.Ytpkfeepepbchlaa.Bl
open Go.RowKit Go.Maps Go.Sort Go.Lib Go.Shelf Go.Proofs.YtpkfeepepbchlaaW.PrintWords Go.Proofs.YtpkfeepepbchlaaW.PrintLast Go.Proofs.YtpkfeepepbchlaaW.PrintMore Go.Proofs.Ytpkfeepepbchlaa.PK
set_option linter.unusedVariables false
set_option linter.unusedSimpArgs false
theorem closure_gives (hd : ByteArray) (x : List UInt8) (B : Nat) (W : World) (hc : W.cell? ⟨B, 0, none⟩ = some (.string hd)) :
    FnGives Try.prog 67 #[.pointer (some ⟨B, 0, none⟩)] #[encStr x] (.bool (!Lib.hasPrefix x hd.data.toList)) W := by
  show Calls Try.prog 67 #[encStr x, .pointer (some ⟨B, 0, none⟩)] W _
  unfold encStr
  go_enter Try.func67, Try.ntmps67
  go_wp2_with fail
  refine (Try.strings_HasPrefix _ hd _).mono ?_
  rintro e w' ⟨rfl, rfl⟩
  go_wp2_with fail
  go_ret
  exact ⟨rfl, 0, rfl⟩
theorem closure_at (hd : ByteArray) (B : Nat) (w : World) (hB : B < w.heap.size) (hc : w.cell? ⟨B, 0, none⟩ = some (.string hd)) :
    PredAt Try.prog 67 #[.pointer (some ⟨B, 0, none⟩)] encStr (fun x => !Lib.hasPrefix x hd.data.toList) w :=
  fun W x hb => closure_gives hd x B W ((hb.cell (p := ⟨B, 0, none⟩) hB).trans hc)
theorem closure_over (hd : ByteArray) (B blk off size : Nat) (w : World) (hB : B < w.heap.size) (hne : B ≠ blk) (hc : w.cell? ⟨B, 0, none⟩ = some (.string hd)) :
    PredOver Try.prog 67 #[.pointer (some ⟨B, 0, none⟩)] encStr (fun x => !Lib.hasPrefix x hd.data.toList) blk off size w :=
  fun n os dk x _ => closure_gives hd x B _ (by
    unfold sortWorld
    rw [cell?_grow _ _ _ (by show B < (putRow _ _ _ _ _).heap.size; rw [size_putRow]; exact hB), cell?_putRow_other _ _ blk off _ _ (Or.inl hne)]
    exact hc)
theorem own_cut {w : World} {base : Nat} {e : TypeId} {g n m cap : Nat} {xs : List Value} (h : w.ownsRow base e 1 (.slice (some ⟨g, 0, none⟩) n cap) n xs) (hm : m ≤ n) :
    w.ownsRow base e 1 (.slice (some ⟨g, 0, none⟩) m cap) m (xs.take m) := by
  have hl := h.1
  rcases h.2 with ⟨hnil, _⟩ | ⟨g', cap', cur, he, hg, hh, h1, h2, h3, h4⟩
  · cases hnil
  · injection he with e1 e2 e3
    injection e1 with e1
    injection e1 with e1
    subst e1 e3
    refine ⟨by rw [List.length_take]; omega, .inr ⟨g, cap, cur, rfl, hg, hh, by omega, h2, h3, ?_⟩⟩
    rw [← h4, List.take_take]
    congr 1
    omega
set_option maxHeartbeats 1000000 in
theorem DeleteFunc_calls (v : Value) (w : World) (base B : Nat) (zs : List (List UInt8)) (hd : ByteArray) (hrow : w.ownsRow base 9 1 v zs.length (zs.map encStr)) (hl : zs.length ≤ 100000) (hB : B < base) (hBw : B < w.heap.size) (hc : w.cell? ⟨B, 0, none⟩ = some (.string hd)) :
    Calls Try.prog 65 #[v, .func (.func 67) #[] #[.pointer (some ⟨B, 0, none⟩)]] w fun e w' => ∃ A m cap, e = .returned (.slice A m cap) ∧ (A = none → m = 0) ∧ w'.ownsRow base 9 1 (.slice A m cap) m ((zs.filter fun x => Lib.hasPrefix x hd.data.toList).map encStr) ∧ w.grownBy w' v.ownBlock ∧
      m = (zs.filter fun x => Lib.hasPrefix x hd.data.toList).length := by
  have eg : ∀ args w, (callFunc 67 args).run Try.prog w = .ok (.enter 67 args) w := enters_of Try.func67 (by kernel_rfl) rfl
  rcases hrow.2 with ⟨hnil, h0⟩ | ⟨gr, cap, cur, rfl, hbase, hbk, h1, h2, h3, h4⟩
  · subst hnil
    have hss : zs = [] := List.eq_nil_of_length_eq_zero h0
    subst hss
    have hcall := Try.slices_IndexFunc_empty (α := List UInt8) none 0 (.func (.func 67) #[] #[.pointer (some ⟨B, 0, none⟩)]) w
    go_enter Try.func65, Try.ntmps65
    go_wp2_with fail
    refine hcall.mono ?_
    rintro e w' ⟨rfl, rfl⟩
    go_wp2_with fail
    go_ret
    exact ⟨none, 0, 0, rfl, fun _ => rfl, by simpa using World.ownsRow_nil _ _ _ _, grown_none (Below.refl _ _), rfl⟩
  · have hH : Holds encStr w gr 0 zs.toArray := holds_of_block hbk (by simpa using h4)
    have hgl : gr < w.heap.size := (Array.getElem?_eq_some_iff.1 hbk).1
    have z9 : ∀ w, (zeroValue 9).run Try.prog w = .ok (encStr []) w := fun w => by kernel_rfl
    have hcall := Try.slices_DeleteFunc encStr (fun _ => rfl) (fun x => !Lib.hasPrefix x hd.data.toList) _ #[.pointer (some ⟨B, 0, none⟩)] eg [] z9 gr 0 cap zs.toArray w (closure_at hd B w hBw hc)
      (closure_over hd B gr 0 zs.toArray.size w hBw (by omega) hc) hH (by simp; omega) (by simpa using h1)
    refine Calls.mono (by simpa using hcall) ?_
    rintro e w' ⟨rfl, q, rfl⟩
    have hf : (zs.filter fun x => !!Lib.hasPrefix x hd.data.toList) = zs.filter fun x => Lib.hasPrefix x hd.data.toList := by simp
    have hle : (zs.filter fun x => Lib.hasPrefix x hd.data.toList).length ≤ zs.length := List.length_filter_le _ _
    clear hf
    generalize (zs.filter fun x => Lib.hasPrefix x hd.data.toList) = fs at hle ⊢
    have ho := ownsRow_sorted (w := w) (n := q) (os := #[]) (ts := fs ++ List.replicate (zs.length - fs.length) []) (ss := zs) (by simp; omega) hbase hbk h1 h2 h3
    have hg := grownBy_sorted (w := w) (g := gr) (n := q) (os := #[]) (fs ++ List.replicate (zs.length - fs.length) []).toArray
    rw [grow_empty] at ho hg
    have hc := own_cut ho hle
    rw [← List.map_take, List.take_left] at hc
    exact ⟨_, _, _, rfl, by simp, hc, hg, rfl⟩
def nmsE (hd : ByteArray) (L : List Ent) : List ByteArray := ((L.map (·.1)).filter fun s => Lib.hasPrefix s.data.toList hd.data.toList).take 1000
theorem fs_enc (hd : ByteArray) (L : List Ent) : ((keysE L).filter fun x => Lib.hasPrefix x hd.data.toList).map encStr = ((L.map (·.1)).filter fun s => Lib.hasPrefix s.data.toList hd.data.toList).map Value.string := by
  induction L with
  | nil => rfl
  | cons y r ih =>
    unfold keysE at ih ⊢
    simp only [List.map_cons, List.filter_cons]
    cases Lib.hasPrefix y.1.data.toList hd.data.toList
    · simpa using ih
    · simp only [if_true, List.map_cons, ih]
      try congr 1
theorem fs_len (hd : ByteArray) (L : List Ent) : ((keysE L).filter fun x => Lib.hasPrefix x hd.data.toList).length = ((L.map (·.1)).filter fun s => Lib.hasPrefix s.data.toList hd.data.toList).length := by
  have := congrArg List.length (fs_enc hd L)
  simpa using this
set_option maxRecDepth 20000 in
theorem Clone_calls (A : Option Addr) (k m cap base : Nat) (xs : List ByteArray) (w : World) (ho : w.ownsRow base 9 1 (.slice A m cap) m (xs.map Value.string)) (hA : A = none → m = 0) (hk : k ≤ m) (hl : m ≤ 100000) :
    Calls Try.prog 69 #[.slice A k cap] w fun e w' => ∃ v, e = .returned v ∧ Kd.string.R 9 w' w.heap.size (fun _ => True) v (xs.take k) ∧ Below w.heap.size w w' := by
  have hxl : xs.length = m := by have := ho.1; simpa using this
  cases A with
  | none =>
    have h0 := hA rfl
    obtain rfl : k = 0 := by omega
    refine (Try.slices_Clone_nil 0 cap w).mono ?_
    rintro e w' ⟨rfl, rfl⟩
    exact ⟨_, rfl, by simpa using Kd.R_nil _ _ _ _ _, Below.refl _ _⟩
  | some ad =>
    obtain ⟨i0, hi, hz0, hz1, hz2⟩ := info_parts info9
    have had : ad = ⟨ad.block, 0, none⟩ := by
      rcases ho.2 with ⟨hnil, _⟩ | ⟨g', cap', cur, he, _⟩
      · cases hnil
      · injection he with e1 _ _
        injection e1 with e1
        rw [e1]
    have hc := own_cut (by rw [← had]; exact ho) hk
    rw [← List.map_take] at hc
    have hsz : ∀ w, (Go.sizeOf 9).run Try.prog w = .ok 1 w := fun w => by kernel_rfl
    have hcall := Try.slices_Clone i0 (.string ⟨#[]⟩) 1 16 hi hz0 hz1 hz2 rfl (by decide) hsz ad.block 0 k cap ((xs.take k).map Value.string) w (by simp; omega) (by unfold maxLen; omega) (by omega)
      (fun j u hu => by have := hc.cells (g := ad.block) rfl j u hu; rw [add_plain] at this; simpa using this) (fun u hu => by obtain ⟨s, _, rfl⟩ := List.mem_map.1 hu; rfl)
    rw [← had] at hcall
    refine hcall.mono ?_
    rintro e w' ⟨v, rfl, hv, _, hb⟩
    refine ⟨v, rfl, Kd.R_of_own (by have hlk : (xs.take k).length = k := by rw [List.length_take]; omega
                                    rw [hlk]; exact hv) (fun _ _ => trivial), hb⟩
set_option maxRecDepth 20000 in
set_option maxHeartbeats 2000000 in
theorem list_calls (g b : Nat) (q : Int) (L : List Ent) (hd : ByteArray) (w : World) (h : Bl w g b q L) (hl : L.length ≤ 100000) :
    Calls Try.prog 62 #[.pointer (some ⟨g, 0, none⟩), .string hd] w fun e w' => ∃ v, e = .returned v ∧ Kd.string.R 9 w' w.heap.size (fun _ => True) v (nmsE hd L) ∧ Below w.heap.size w w' := by
  have HH := Aside0.mk h
  clear h
  have B1 := Aside0.mk (below_alloc (Below.refl w.heap.size w) (.cells #[.string hd] 9))
  go_enter Try.func62, Try.ntmps62
  go_wp2_with fail
  refine (Names_calls g b q L _ (Bl.kept HH.out B1.out) hl).mono ?_
  rintro e w2 ⟨v, rfl, ho, hb⟩
  have cB := Aside0.mk (show w2.cell? ⟨w.heap.size, 0, none⟩ = some (.string hd) from (hb.cell (p := ⟨w.heap.size, 0, none⟩) (by simp)).trans (by simp))
  have B2 := Aside0.mk (B1.out.trans (hb.mono (by simp)))
  have hsz2 : w.heap.size + 1 ≤ w2.heap.size := by have := hb.size; simp at this; exact this
  have hkl : (keysE L).length = L.length := by simp [keysE]
  have HK := Aside0.mk (show w2.ownsRow (w.heap.size + 1) 9 1 v (keysE L).length ((keysE L).map encStr) by rw [keysE_enc, hkl]; simpa using ho)
  have HLO := Aside0.mk (fun j (hj : v.ownBlock = some j) => (HK.out.lt j hj).1)
  clear ho hb
  go_wp2_with fail
  refine (DeleteFunc_calls v w2 (w.heap.size + 1) w.heap.size (keysE L) hd HK.out (by omega) (by omega) (by omega) cB.out).mono ?_
  rintro e w3 ⟨A, m, cap, rfl, hA, ho3, hg3, hm⟩
  rw [fs_enc] at ho3
  rw [fs_len] at hm
  have HA := Aside0.mk hA
  have HO := Aside0.mk ho3
  have B3 := Aside0.mk (B2.out.grown hg3 B2.out.size (fun j hj => Nat.le_trans (Nat.le_succ _) (HLO.out j hj)))
  have hm2 : m ≤ L.length := by rw [hm]; exact Nat.le_trans (List.length_filter_le _ _) (by simp)
  have HM := Aside0.mk hm
  clear hA ho3 hg3 hm
  have hmc : m ≤ cap := by
    rcases HO.out.2 with ⟨_, h0⟩ | ⟨g', cap', cur, he, _, _, h1, _⟩
    · omega
    · injection he with _ _ e3
      omega
  obtain ⟨k, hmin, hk⟩ : ∃ k : Nat, min (m : Int) 1000 = k ∧ k = min m 1000 := ⟨min m 1000, by omega, rfl⟩
  have hkm : k ≤ m := by omega
  have hkc : k ≤ cap := by omega
  have HMK := Aside0.mk hk
  clear hk hmc
  go_wp2_with fail
  refine (Clone_calls A k m cap (w.heap.size + 1) _ w3 HO.out HA.out hkm (by omega)).mono ?_
  rintro e w4 ⟨v4, rfl, hR, hb4⟩
  have HR := Aside0.mk hR
  have B4 := Aside0.mk (B3.out.trans (hb4.mono B3.out.size))
  clear hR hb4
  go_wp2_with fail
  go_ret
  refine ⟨_, rfl, ?_, B4.out⟩
  have hr := Kd.R_lower HR.out B3.out.size
  rw [HMK.out, HM.out] at hr
  unfold nmsE
  rw [List.take_eq_take_min]
  have e1 : min 1000 ((L.map (·.1)).filter fun s => Lib.hasPrefix s.data.toList hd.data.toList).length = min ((L.map (·.1)).filter fun s => Lib.hasPrefix s.data.toList hd.data.toList).length 1000 := Nat.min_comm _ _
  rw [e1]
  exact hr
end Go.Proofs.Ytpkfeepepbchlaa.Bl
