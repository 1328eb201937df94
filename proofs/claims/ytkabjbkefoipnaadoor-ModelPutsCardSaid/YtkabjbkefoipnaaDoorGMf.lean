import Derived.Test.YtkabjbkefoipnaaDoorGMr
namespace Go.Proofs.YtkabjbkefoipnaaDoor.Md
open Go.Lib Go.RowKit Go.Proofs.YtkabjbkefoipnaaDoorW.PrintWords Go.Proofs.YtkabjbkefoipnaaDoorW.PrintLast Go.Proofs.YtkabjbkefoipnaaDoorW.PrintMore Go.Proofs.YtkabjbkefoipnaaDoor.PM Go.Proofs.YtkabjbkefoipnaaDoor.Nm
set_option linter.unusedVariables false
set_option linter.unusedSimpArgs false
theorem str_eq {a b : ByteArray} (h : a = b) : (a.toList == b.toList) = true := by subst h; simp
theorem str_ne {a b : ByteArray} (h : a ≠ b) : (a.toList == b.toList) = false := by
  rw [beq_eq_false_iff_ne, ByteArray.toList_eq, ByteArray.toList_eq]
  intro e
  exact h (by cases a; cases b; congr 1; exact Array.toList_inj.1 e)
def cmpZ (nm p : ByteArray) : Int := if pf nm = p then 0 else if lessL (ky nm) (runes (BL p)) = true then -1 else 1
theorem cmpZ_zero {nm p : ByteArray} : cmpZ nm p = 0 ↔ pf nm = p := by
  unfold cmpZ
  constructor
  · intro h
    split at h
    · assumption
    · split at h <;> simp at h
  · intro h
    rw [if_pos h]
theorem cmpZ_neg {nm p : ByteArray} : cmpZ nm p < 0 ↔ lessL (ky nm) (runes (BL p)) = true := by
  unfold cmpZ
  constructor
  · intro h
    split at h
    · simp at h
    · split at h
      · assumption
      · simp at h
  · intro h
    rw [if_neg (fun e => by unfold ky at h; rw [e, lessL_irr] at h; cases h), if_pos h]
    decide
set_option maxRecDepth 20000 in
set_option maxHeartbeats 4000000 in
theorem cmp_calls (nm p : ByteArray) (A : Option Addr) (n c : Nat) (w : World) (hn : nm.size ≤ 4000) (hT : Lib.Utf8Tabs 0 1 w) :
    Calls Tryd.prog 59 #[.agg #[.string nm, .slice A n c], .string p] w fun e w' => e = .returned (.int .i64 (cmpZ nm p)) ∧ Below w.heap.size w w' := by
  have HP := Aside0.mk (fun W hW => plain_calls nm W (by omega) hW)
  have HT := Aside0.mk hT
  have K1 := Aside0.mk (blk_new w (.cells #[.string nm, .slice A n c] 39))
  have B1 := Aside0.mk (below_alloc (Below.refl w.heap.size w) (.cells #[.string nm, .slice A n c] 39))
  clear hT
  have hz : pf nm = p → cmpZ nm p = 0 := cmpZ_zero.2
  have hm : pf nm ≠ p → lessL (runes (BL (pf nm))) (runes (BL p)) = true → cmpZ nm p = -1 := fun h k => by unfold cmpZ; rw [if_neg h, if_pos k]
  have ho : pf nm ≠ p → lessL (runes (BL (pf nm))) (runes (BL p)) = false → cmpZ nm p = 1 := fun h k => by unfold cmpZ; rw [if_neg h, if_neg (by rw [show ky nm = runes (BL (pf nm)) from rfl, k]; simp)]
  have HZ := Aside0.mk hz
  have HM := Aside0.mk hm
  have HO := Aside0.mk ho
  clear hz hm ho
  generalize cmpZ nm p = z at HZ HM HO ⊢
  generalize pf nm = q at HP HZ HM HO
  go_enter Tryd.func59, Tryd.ntmps59
  go_wp2_with fail
  generalize w.alloc (.cells #[.string nm, .slice A n c] 39) = w1 at K1 B1 ⊢
  refine (HP.out w1 (tabs_below HT.out B1.out)).mono ?_
  rintro e w2 ⟨rfl, hb2⟩
  have B2 := Aside0.mk (B1.out.trans (hb2.mono B1.out.size))
  clear hb2
  by_cases hq : q = p
  · have e0 := HZ.out hq
    clear HP HZ HM HO
    subst hq e0
    go_wp2_with fail
    go_ret
    exact ⟨rfl, B2.out⟩
  · have hqs := str_ne hq
    go_wp2_with fail
    refine (Less_calls q p w2 (tabs_below HT.out B2.out)).mono ?_
    rintro e w3 ⟨rfl, hb3⟩
    have B3 := Aside0.mk (B2.out.trans (hb3.mono B2.out.size))
    clear hb3
    cases hl : lessL (runes (BL q)) (runes (BL p)) with
    | true =>
      have e1 := HM.out hq hl
      subst e1
      go_wp2_with fail
      go_ret
      exact ⟨rfl, B3.out⟩
    | false =>
      have e1 := HO.out hq hl
      subst e1
      go_wp2_with fail
      go_ret
      exact ⟨rfl, B3.out⟩
structure BinP (l : List Sc) (p : ByteArray) (i : Nat) (t : Bool) : Prop where
  le : i ≤ l.length
  ahead : ∀ h : 0 < i ∧ i ≤ l.length, cmpZ (l[i - 1]'(by omega)).f0 p < 0
  behind : ∀ h : i < l.length, ¬ cmpZ l[i].f0 p < 0
  there : t = true ↔ ∃ h : i < l.length, cmpZ l[i].f0 p = 0
def BinE (l : List Sc) (p : ByteArray) (e : Ending) : Prop := ∃ (i : Nat) (t : Bool), e = .returned (.tuple #[.int .i64 i, .bool t]) ∧ BinP l p i t
set_option maxRecDepth 20000 in
set_option maxHeartbeats 8000000 in
theorem Bin_calls (l : List Sc) (p : ByteArray) (A : Option Addr) (c : Nat) (w : World) (hr : kS.C w A l.length l) (hc : l.length ≤ c) (hl : l.length ≤ 1000) (hx : ∀ s, s ∈ l → s.f0.size ≤ 4000) (hT : Lib.Utf8Tabs 0 1 w) :
    Calls Tryd.prog 58 #[.slice A l.length c, .string p, .func (.func 59) #[] #[]] w fun e w' => BinE l p e ∧ Below w.heap.size w w' := by
  have HC := Aside0.mk hr
  have HX := Aside0.mk hx
  have HT := Aside0.mk hT
  clear hr hx hT
  go_enter Tryd.func58, Tryd.ntmps58
  go_wp2_with fail
  go_loopg [9, 10] l.length (fun kq v9 v10 w' => ∃ (i j : Nat), v9 = .int .i64 i ∧ v10 = .int .i64 j ∧ i ≤ j ∧ j ≤ l.length ∧ Aside0 (kq = j - i) ∧ Aside0 (∀ h : j < l.length, ¬ cmpZ l[j].f0 p < 0) ∧ Aside0 (∀ h : 0 < i ∧ i ≤ l.length, cmpZ (l[i - 1]'(by omega)).f0 p < 0) ∧ Aside0 (Below w.heap.size w w'))
  case atStart => exact ⟨0, l.length, rfl, rfl, by omega, by omega, ⟨by omega⟩, ⟨fun h => absurd h (by omega)⟩, ⟨fun h => absurd h.1 (by omega)⟩, ⟨Below.refl _ _⟩⟩
  case round =>
    obtain ⟨i, j, rfl, rfl, hij, hjn, HK, HJ, HI, HB⟩ := hrel
    by_cases hlt : i < j
    · have hci : decide ((i : Int) < (j : Int)) = true := decide_eq_true (by omega)
      obtain ⟨h, hh⟩ : ∃ h, h = (i + j) / 2 := ⟨_, rfl⟩
      have HMID := Aside0.mk (show ((i : Int) + (j : Int)) / 2 = (h : Int) by omega)
      have hm1 : i ≤ h := by omega
      have hm2 : h < j := by omega
      have hlm : h < l.length := by omega
      have hcm : (h : Int) < (l.length : Int) := by omega
      obtain ⟨ad, A1, c1, e9, hx0, hx1, hl1, hC1⟩ := at_T39 HC.out (h : Int) (Int.natCast_nonneg _) hcm
      cases e9
      have hx0 := Kd.cell_heap (fun k hk => HB.out.block k hk) hx0
      have hx1 := Kd.cell_heap (fun k hk => HB.out.block k hk) hx1
      rw [rdS l _ hlm] at hx0 hx1 hl1 hC1
      have HM := Aside0.mk (HX.out _ (List.getElem_mem hlm))
      have HJ2 := Aside0.mk (show ¬ cmpZ l[h].f0 p < 0 → ∀ k : h < l.length, ¬ cmpZ l[h].f0 p < 0 from fun h _ => h)
      have HI2 := Aside0.mk (show cmpZ l[h].f0 p < 0 → ∀ k : 0 < h + 1 ∧ h + 1 ≤ l.length, cmpZ (l[h + 1 - 1]'(show h + 1 - 1 < l.length from hlm)).f0 p < 0 from fun h _ => h)
      rw [Int.toNat_natCast] at hx0 hx1
      have hj1 : ((i : Int) + (j : Int)) / 2 < (l.length : Int) := by omega
      have hj0 : (0 : Int) ≤ ((i : Int) + (j : Int)) / 2 := by omega
      have hx0' : wr.cell? (ad.add ((i + j) / 2 * 2)) = some (.string (l[h]).f0) := by rw [← hh]; exact hx0
      have hx1' : wr.cell? ⟨(ad.add ((i + j) / 2 * 2)).block, (ad.add ((i + j) / 2 * 2)).off + 1, none⟩ = some (.slice A1 (l[h]).f1.length c1) := by rw [← hh]; exact hx1
      clear hl1 hC1 hx0 hx1 hh
      have HC2 := Aside0.mk (fun (W : World) (hW : Lib.Utf8Tabs 0 1 W) => cmp_calls (l[h]).f0 p A1 (l[h]).f1.length c1 W HM.out hW)
      have hwh : IntKind.i64.wrap ((h : Int) + 1) = ((h + 1 : Nat) : Int) := by rw [i64_w]; unfold wrap64; omega
      have HWH := Aside0.mk hwh
      clear hwh
      generalize (l[h]).f0 = nm at hx0' HM HJ2 HI2 HC2
      generalize (l[h]).f1.length = n1 at hx1' HC2
      go_wp2_with fail
      rw [HMID.out]
      clear HMID
      refine (HC2.out wr (tabs_below HT.out HB.out)).mono ?_
      rintro e w2 ⟨rfl, hb2⟩
      have HB2 := Aside0.mk (HB.out.trans (hb2.mono HB.out.size))
      clear hb2
      have hwh := HWH.out
      by_cases hz : cmpZ nm p < 0
      · have HI3 := Aside0.mk (HI2.out hz)
        clear HI2 HJ2 HC2
        generalize cmpZ nm p = z at *
        go_wp2_with fail
        go_roundg (j - (h + 1))
        case measure => have := HK.out; omega
        case rel => exact ⟨h + 1, j, by first | rfl | simp, rfl, by omega, by omega, ⟨by omega⟩, HJ, HI3, HB2⟩
      · have HJ3 := Aside0.mk (HJ2.out (by omega))
        clear HI2 HJ2 HC2
        generalize cmpZ nm p = z at *
        go_wp2_with fail
        go_roundg (h - i)
        case measure => have := HK.out; omega
        case rel => exact ⟨i, h, rfl, by first | rfl | simp, by omega, by omega, ⟨by omega⟩, ⟨fun k => by have := HJ3.out k; omega⟩, HI, HB2⟩
    · have hci : decide ((i : Int) < (j : Int)) = false := decide_eq_false (by omega)
      have e : j = i := by omega
      subst e
      by_cases hjl : j < l.length
      · have hcm : (j : Int) < (l.length : Int) := by omega
        obtain ⟨ad, A1, c1, e9, hx0, hx1, hl1, hC1⟩ := at_T39 HC.out (j : Int) (Int.natCast_nonneg _) hcm
        cases e9
        have hx0 := Kd.cell_heap (fun k hk => HB.out.block k hk) hx0
        have hx1 := Kd.cell_heap (fun k hk => HB.out.block k hk) hx1
        rw [rdS l _ hjl] at hx0 hx1 hl1 hC1
        have HM := Aside0.mk (HX.out _ (List.getElem_mem hjl))
        rw [Int.toNat_natCast] at hx0 hx1
        have HC2 := Aside0.mk (fun (W : World) (hW : Lib.Utf8Tabs 0 1 W) => cmp_calls (l[j]).f0 p A1 (l[j]).f1.length c1 W HM.out hW)
        have HP := Aside0.mk (show ∀ t, (t = true ↔ cmpZ (l[j]).f0 p = 0) → BinP l p j t from fun t ht => ⟨hjn, HI.out, HJ.out, ht.trans ⟨fun h => ⟨hjl, h⟩, fun ⟨_, h⟩ => h⟩⟩)
        clear hl1 hC1
        generalize (l[j]).f0 = nm at hx0 HM HC2 HP
        generalize (l[j]).f1.length = n1 at hx1 HC2
        go_wp2_with fail
        refine (HC2.out wr (tabs_below HT.out HB.out)).mono ?_
        rintro e w2 ⟨rfl, hb2⟩
        have HB2 := Aside0.mk (HB.out.trans (hb2.mono HB.out.size))
        clear hb2 HC2
        have HP2 := Aside0.mk (HP.out (cmpZ nm p == 0) (by rw [beq_iff_eq]))
        clear HP HI HJ
        generalize cmpZ nm p = z at HP2 ⊢
        cases hz : z == 0 with
        | true =>
          rw [hz] at HP2
          go_wp2_with fail
          go_ret2
          exact ⟨⟨j, true, rfl, HP2.out⟩, HB2.out⟩
        | false =>
          rw [hz] at HP2
          go_wp2_with fail
          go_ret2
          exact ⟨⟨j, false, rfl, HP2.out⟩, HB2.out⟩
      · have HP := Aside0.mk (show BinP l p j false from ⟨hjn, HI.out, HJ.out, ⟨fun h => by simp at h, fun ⟨h, _⟩ => absurd h hjl⟩⟩)
        have hcm : ¬ (j : Int) < (l.length : Int) := by omega
        clear HI HJ
        go_wp2_with fail
        go_ret2
        exact ⟨⟨j, false, rfl, HP.out⟩, HB.out⟩
theorem BinP.fnd {l : List Sc} {name : ByteArray} {i : Nat} {t : Bool} (h : BinP l (pf name) i t) (hr : RightP l) : FndP l name i t where
  le := h.le
  ahead := fun j hj hji => by
    have h1 := cmpZ_neg.1 (h.ahead ⟨by omega, h.le⟩)
    rcases Nat.lt_or_eq_of_le (Nat.le_pred_of_lt hji) with h2 | h2
    · have := hr.ls (i := j) (j := i - 1) h2 (by have := h.le; omega)
      exact this.trans h1
    · have : j = i - 1 := h2
      subst this
      exact h1
  yes := fun ht => by
    obtain ⟨hi, hz⟩ := h.there.1 ht
    exact ⟨hi, cmpZ_zero.1 hz⟩
  no := fun ht hi => ⟨fun hk => h.behind hi (cmpZ_neg.2 hk), fun he => by
    have := h.there.2 ⟨hi, cmpZ_zero.2 he⟩
    rw [ht] at this
    cases this⟩
def FndE (l : List Sc) (name : ByteArray) (e : Ending) : Prop := ∃ (i : Nat) (t : Bool), e = .returned (.tuple #[.int .i64 i, .bool t]) ∧ FndP l name i t
set_option maxRecDepth 20000 in
theorem find_calls (l : List Sc) (name : ByteArray) (A : Option Addr) (c : Nat) (w : World) (hr : kS.C w A l.length l) (hc : l.length ≤ c) (hl : l.length ≤ 1000) (hx : ∀ s, s ∈ l → s.f0.size ≤ 4000) (hn : name.size ≤ 4000) (hR : RightP l) (hT : Lib.Utf8Tabs 0 1 w) :
    Calls Tryd.prog 50 #[.slice A l.length c, .string name] w fun e w' => FndE l name e ∧ Below w.heap.size w w' := by
  have HC := Aside0.mk hr
  have HX := Aside0.mk hx
  have HT := Aside0.mk hT
  have HR := Aside0.mk hR
  clear hr hx hT hR
  go_enter Tryd.func50, Tryd.ntmps50
  go_wp2_with fail
  refine (plain_calls name w (by omega) HT.out).mono ?_
  rintro e w1 ⟨rfl, hb1⟩
  have B1 := Aside0.mk hb1
  clear hb1
  go_wp2_with fail
  refine (Bin_calls l (pf name) A c w1 (Kd.C_below HC.out B1.out) hc hl HX.out (tabs_below HT.out B1.out)).mono ?_
  rintro e w2 ⟨⟨i, t, rfl, hp⟩, hb2⟩
  have HP := Aside0.mk (hp.fnd HR.out)
  have B2 := Aside0.mk (B1.out.trans (hb2.mono B1.out.size))
  clear hb2 hp
  go_wp2_with fail
  go_ret2
  exact ⟨⟨i, t, rfl, HP.out⟩, B2.out⟩
end Go.Proofs.YtkabjbkefoipnaaDoor.Md
